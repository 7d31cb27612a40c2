/- Drawn fields, drawn data. -/
import Derived.Test.YtnbjogilidfkdaaGreatVR4
import Derived.Test.YtnbjogilidfkdaaGreatVR8
import Derived.Test.YtnbjogilidfkdaaGreatVK3

namespace Go.Proofs.YtnbjogilidfkdaaGreat
attribute [local irreducible] awp arun acalm FinP Fin AX.then AX.inBlock Again aG gsel amix amixN amixC aop aopc aopd cutK
attribute [local go_sem] aBSliceD aSlice aSliceC boundOf aMk aCall aCallC aLenL aLen aPick_t aPick_f aNil aAlloc aBox aBuild bldPV aBSlice bsPV aApp newsOf destOf drp aConvX aConv aConvInt aLoad cellsAt aStore cellsPV setAt aFld aField aIdx aIndex aUn aBin' aBin aMax aExtract pvOf PV.isCell nmbL PV.nmb List.map_cons List.map_nil List.all_cons List.all_nil Bool.and_true Bool.true_and if_true if_false List.getD_cons_zero List.getD_cons_succ List.getD_nil Option.isSome_some true_and and_true and_self eq_self true_or or_true List.drop_zero List.drop_succ_cons List.drop_nil List.take_zero List.take_succ_cons List.take_nil List.length_cons List.length_nil List.length_map Option.getD_some Option.getD_none List.nil_append List.cons_append List.append_nil Option.some.injEq exists_eq_left' List.getElem?_cons_zero List.getElem?_cons_succ Int.toNat_natCast Int.natCast_inj toNat_succ Nat.zero_add res res1 resC owns owns1 ownsC List.flatMap_cons List.flatMap_nil List.flatten_cons List.flatten_nil List.mem_cons List.not_mem_nil or_false false_or forall_eq forall_eq_or_imp isFro frz frz1 pureC tabA isBld List.cons.injEq PV.seq.injEq PV.int.injEq PV.str.injEq PV.bool.injEq PV.agg.injEq inR tab Γof aRes packR Option.map_some Option.map_none rel Prod.exists exists_and_left exists_eq_left and_assoc beq_self_eq_true Bool.not_true Bool.not_false decide_true decide_false List.set_cons_zero List.set_cons_succ rst_nil rst_cons
attribute [local go_sem ↓] evT upd_def aop aopc aopd
set_option maxRecDepth 100000
set_option linter.unusedVariables false
set_option linter.unusedSimpArgs false
open Go.RowKit
def lvR11_93:Nat→List Nat
 | 0=>[0,1,4]
 | 1=>[0,4,5]
 | 2=>[0,4,5,18]
 | 3=>[0,4,5]
 | 4=>[0,4,5,6]
 | 5=>[0,4,5,6,30]
 | 6=>[0,4,5,6]
 | 7=>[0,4,5,6]
 | 8=>[4,5,7]
 | 9=>[4,5,7,44]
 | 10=>[4,5,7]
 | 11=>[4,5,7]
 | 12=>[4,5]
 | 13=>[4]
 | _=>[]
--LV=R11
theorem strs_s (l:List Bs) (t:Bs):strs l++[[.str t]]=strs (l++[t]):=by unfold strs;rw [List.map_append];rfl
theorem strs_st (l:List Bs) (j:Nat) (t:Bs):(strs l).set j [.str t]=strs (l.set j t):=by unfold strs;rw [List.map_set]
/-- Bounds on drawn fields. -/
def bdF (f:FieldD):Prop:=f.name.length≤100∧f.text.length≤200∧f.items.length≤6∧ ∀ t ∈ f.items,t.length≤200
@[go_sem] def fdD0:AC:=locV (α:=(Bs×Int)×Bs) (fun x=>[.str x.2]) (fun x=>rdB x.1.1 x.1.2) (fun x=>x.1.1.length≤2000∧0≤x.1.2∧x.1.2+60≤1000000∧x.2.length≤100) (fun x r b'=> ∃ (f:FieldD) (p':Int),r= .agg (encF f)∧b'=rdB x.1.1 p'∧bdF f∧x.1.2≤p'∧p'≤x.1.2+60)
set_option maxHeartbeats 16000000 in
theorem fdD_ok0:ACok Tryz.prog 93 fdD0:=by
 refine locV_ok 2 (tabA_cons pick_ok (tabA_cons txD_ok (tabA_cons addr_ok (tabA_nil (Γof_ok tab_nil))))) tab_nil mixed [.cell 4 46] Tryz.func93 rfl rfl (by kernel_rfl) (by kernel_rfl) (fun _=>rfl) (by kernel_rfl) (fun x=>by simp [nmbL,PV.nmb]) (fun x=>by simp [go_sem,MB.nmb,nmbL,PV.nmb]) ?_
 rintro ⟨⟨l,p⟩,nm⟩ K ⟨hl,h0,h1,h2⟩ hK
 dsimp only at *
 unfold entry
 simp only [mkM,rdB] at *
 repeat' (first|((first|apply qwd|apply qa1|apply qa2|apply qcd);(try intro K hk);focus (simp only [lvR11_93,mkT,go_sem,Nat.reduceEqDiff,Nat.reduceAdd,Nat.reduceLeDiff,Nat.reduceLT,↓reduceIte,reduceCtorEq,exl,List.length_cons,List.length_nil];first|exact rfl|((repeat refine ai ?_);intros;apply hk;clear hk K)))|apply qw1|refine qwc lvR11_93 ?_|apply qt1|apply qw5|apply qw2|apply qj1|apply qj4|(refine qj6 ?_ ?_<;>intro hc<;>(try simp only [hc])<;>(try simp only [decide_eq_true_eq,decide_eq_false_iff_not] at hc)<;>(try (exfalso;omega))))
 · (refine qa1 fun K hk=>?_;apply qload 24;(focus (simp only [go_sem,↓upd_def,↓evT,↓reduceIte];exact rfl));(focus (simp only [go_sem,↓upd_def,↓reduceIte,reduceCtorEq];exact rfl));(focus (simp only [go_sem]));(focus (simp only [List.length_cons,List.length_nil];omega));(focus (simp [isTxt,Nat.ble_eq];omega));intro tx htx;apply hk;clear hk K)
   repeat' (first|((first|apply qwd|apply qa1|apply qa2);(try intro K hk);focus (simp only [lvR11_93,mkT,go_sem,Nat.reduceEqDiff,Nat.reduceAdd,Nat.reduceLeDiff,↓reduceIte,reduceCtorEq,exl,List.length_cons,List.length_nil];first|exact rfl|((repeat refine ai ?_);intros;apply hk;clear hk K)))|apply qw1|refine qwc lvR11_93 ?_|apply qt1|apply qw5)
   rename_i s1 p1 _ _ _ k1 _ _ k2 _ _ ad p2 _ _ _ k3 _ _ k4 _ _
   refine s_loop (ι:=Int×List Bs×Int×Bs×Bool) (fun i=>[(0,.ref 0 0),(4,.ref 1 0),(5,.ref 3 0),(6,.int .i64 i.1)]) (fun i=>[(0,.box [.seq (l.map bc),.int .i64 i.2.2.1]),(1,.box [.str [],.str [],.bool false,.nil]),(2,.row 9 1 (strs i.2.1)),(3,.box [.str nm,.str i.2.2.2.1,.bool i.2.2.2.2,.own 2])]) 4
    (fun i=>0≤i.1∧i.1≤3∧(i.2.1.length:Int)+i.1≤3∧p≤i.2.2.1∧i.2.2.1+i.1 * 10≤p+50∧i.2.2.2.1.length≤200∧ ∀ t ∈ i.2.1,t.length≤200) (fun i=>i.1.toNat) (k4,[],p2+1+1,tx,decide (k1=0)) (by omega) ⟨by dsimp only;omega,by dsimp only;omega,by dsimp only [List.length_nil];omega,by dsimp only;omega,by dsimp only;omega,by dsimp only;omega,by simp⟩ ?_ ?_
   · simp [fits,fitsT,fitsM,upd_def,PV.nmb,nmbL,MB.nmb,strs]
   rintro ⟨m,its,p9,tx,hb⟩ ⟨g0,g1,g2,g3,g4,g5,g6⟩
   dsimp only at *
   simp only [mkS,mkT,mkM]
   have hsl:=strs_length its
   have hsa:=strs_all its
   by_cases hm:0<m
   · repeat' (first|(refine qw11 [] [0,2,4,6] (.mk [0,2] (.cons 1 (.mk [] (.cons 3 (.mk [4] (.cons 5 (.mk [6] (.cons 7 (.mk [] .nil) .nil)) .nil)) .nil)) (.cons 3 (.mk [4] (.cons 1 (.mk [] (.cons 5 (.mk [6] (.cons 7 (.mk [] .nil) .nil)) .nil)) .nil)) .nil))) ?_ ?_;focus (decide +kernel))|refine qm0 ?_|(first|((first|apply qwd|apply qa1|apply qm1|apply qm2|apply qm3|apply qcd);(try intro K hk);focus (simp only [lvR11_93,mkT,go_sem,Nat.reduceEqDiff,Nat.reduceAdd,Nat.reduceLeDiff,↓reduceIte,reduceCtorEq,exl,List.length_cons,List.length_nil,hsl,strs_s];first|exact rfl|((repeat refine ai ?_);intros;apply hk;clear hk K)))|apply qw1|refine qwc lvR11_93 ?_|apply qt1|apply qw5|apply qw2|apply qt4|apply qj1|apply qyn|apply qy0|refine qy1 rfl ?_|refine qy2 rfl ?_ ?_|(refine qj6 ?_ ?_<;>intro hc<;>(try simp only [hc])<;>(try simp only [decide_eq_true_eq,decide_eq_false_iff_not] at hc)<;>(try (exfalso;omega)))|(refine qk1 ?_ ?_;focus (repeat (first|exact qsub0|(refine qsub1 ?_ ?_;focus (simp only [go_sem,Nat.reduceEqDiff,Nat.reduceAdd,Nat.reduceLeDiff,Nat.reduceLT,Nat.reduceSub,Int.reduceToNat,↓reduceIte,reduceCtorEq,exl,List.length_append,List.length_cons,List.length_nil,hsl,hsa,strs_s])))))))
     all_goals
      rename_i s9 p10 _ _ _
      refine s_againR ((m - 1,its++[s9],p10,tx,hb)) (fun i=>if i=2 then 4 else i) ?_ ?_ ?_ ?_ ?_ ?_<;>(first|omega|(dsimp only;omega)|(intro i hi;(try dsimp only);(repeat' split)<;>omega)|(intro i j hi hj h;(try dsimp only at h);(repeat' split at h)<;>omega)|skip)
      · refine ⟨by dsimp only;omega,by dsimp only;omega,by dsimp only;rw [List.length_append,List.length_singleton];omega,by dsimp only;omega,by dsimp only;omega,g5,?_⟩
        intro t ht
        rcases List.mem_append.1 ht with ht|ht
        · exact g6 t ht
        · rw [List.mem_singleton] at ht;subst ht;assumption
      all_goals (simp [fitsTR,fitsMR,PV.ren,renL,MB.ren,upd_def,PV.nmb,nmbL,MB.nmb,strs];done)
   · repeat' (first|((first|apply qwd|apply qa1|apply qcd);(try intro K hk);focus (simp only [lvR11_93,mkT,go_sem,Nat.reduceEqDiff,↓reduceIte,reduceCtorEq];first|exact rfl|((repeat refine ai ?_);intros;apply hk;clear hk K)))|apply qw1|refine qwc lvR11_93 ?_|apply qt1|apply qw5|apply qt2|apply qt5|apply qw3|apply qj4|(refine qj6 ?_ ?_<;>intro hc<;>(try simp only [hc])<;>(try simp only [decide_eq_true_eq,decide_eq_false_iff_not] at hc)<;>(try (exfalso;omega))))
     refine s_loop (ι:=Nat×List Bs) (fun i=>[(4,.ref 1 0),(5,.ref 3 0),(7,.int .i64 i.1)]) (fun i=>[(0,.box [.seq (l.map bc),.int .i64 p9]),(1,.box [.str [],.str [],.bool false,.nil]),(2,.row 9 1 (strs i.2)),(3,.box [.str nm,.str tx,.bool hb,.own 2])]) 4
      (fun i=>i.1≤i.2.length∧i.2.length≤3∧ ∀ t ∈ i.2,t.length≤200) (fun i=>i.2.length - i.1) (0,its) (by omega) ⟨Nat.zero_le _,by dsimp only;omega,g6⟩ ?_ ?_
     · simp [fits,fitsT,fitsM,upd_def,PV.nmb,nmbL,MB.nmb]
     rintro ⟨j,ts⟩ ⟨e0,e1,e2⟩
     dsimp only at *
     simp only [mkS,mkT,mkM]
     have htl:=strs_length ts
     have htg:=strK_get ts
     by_cases hj:j<ts.length
     · obtain ⟨t,ht⟩:=get_some (xs:=ts) (k:=j) hj
       have ht2:=e2 t (List.mem_of_getElem? ht)
       repeat' (first|(refine s_draw 17 ?_ ?_;focus (decide +kernel))|(first|((first|apply qwd|apply qa1|apply qa2|apply qa3|apply qcd);(try intro K hk);focus (simp only [lvR11_93,mkT,go_sem,Nat.reduceEqDiff,Nat.reduceLeDiff,↓reduceIte,reduceCtorEq,exl,List.length_cons,List.length_nil,htl,htg,ht,Option.map_some,strs_st];first|exact rfl|((repeat refine ai ?_);intros;apply hk;clear hk K)))|apply qw8|apply qw1|refine qwc lvR11_93 ?_|apply qt1|apply qw5|apply qw2|apply qw9|apply qt4|apply qj1|(refine qj6 ?_ ?_<;>intro hc<;>(try simp only [hc])<;>(try simp only [decide_eq_true_eq,decide_eq_false_iff_not] at hc)<;>(try (exfalso;omega)))))
       refine s_again ((j+1,ts.set j (t.take (min (t.length:Int) 40).toNat))) ?_ ?_ ?_<;>(first|omega|(dsimp only;omega)|skip)
       · refine ⟨by dsimp only;rw [List.length_set];omega,by dsimp only;rw [List.length_set];omega,?_⟩
         intro u hu
         rcases List.mem_or_eq_of_mem_set hu with hu|rfl
         · exact e2 u hu
         · exact Nat.le_trans (List.length_take_le' _ _) ht2
       · dsimp only;rw [List.length_set];omega
       · simp [fits,fitsT,fitsM,upd_def,PV.nmb,nmbL,MB.nmb]
     · repeat' (first|((first|apply qwd|apply qa1|apply qa2|apply qcd);(try intro K hk);focus (simp only [lvR11_93,mkT,go_sem,Nat.reduceEqDiff,Nat.reduceAdd,Nat.reduceLeDiff,↓reduceIte,reduceCtorEq,List.length_cons,List.length_nil,htl];first|exact rfl|((repeat refine ai ?_);intros;apply hk;clear hk K)))|apply qw1|refine qwc lvR11_93 ?_|apply qt1|apply qt2|apply qt5|apply qw3|apply qw4|apply qj4|(refine qj6 ?_ ?_<;>intro hc<;>(try simp only [hc])<;>(try simp only [decide_eq_true_eq,decide_eq_false_iff_not] at hc)<;>(try (exfalso;omega))))
       ((first|refine fin_V ?_|refine fin_Ve ?_|refine fin_O ?_|refine fin_Oe ?_|refine fin_X ?_|refine fin_Xe ?_|refine fin_B ?_|refine fin_Be ?_);simp only [go_sem,MB.nmb,not_false_eq_true,↓upd_def,Nat.reduceEqDiff,Nat.reduceAdd,↓reduceIte,reduceCtorEq])
       exact ⟨Nat.le_refl _,hK _ _ ⟨⟨nm,_,hb,ts⟩,p9,rfl,rfl,⟨h2,Nat.le_trans (List.length_take_le' _ _) g5,by dsimp only;omega,e2⟩,g3,by omega⟩⟩
 · rename_i s1 p1 _ _ _ k1 _ _ k2 _ _ k4 _ _
   refine s_loop (ι:=Int×List Bs×Int×Bs×Bool) (fun i=>[(0,.ref 0 0),(4,.ref 1 0),(5,.ref 3 0),(6,.int .i64 i.1)]) (fun i=>[(0,.box [.seq (l.map bc),.int .i64 i.2.2.1]),(1,.box [.str [],.str [],.bool false,.nil]),(2,.row 9 1 (strs i.2.1)),(3,.box [.str nm,.str i.2.2.2.1,.bool i.2.2.2.2,.own 2])]) 4
    (fun i=>0≤i.1∧i.1≤3∧(i.2.1.length:Int)+i.1≤3∧p≤i.2.2.1∧i.2.2.1+i.1 * 10≤p+50∧i.2.2.2.1.length≤200∧ ∀ t ∈ i.2.1,t.length≤200) (fun i=>i.1.toNat) (k4,[],p1+1+1+1,s1,decide (k1=0)) (by omega) ⟨by dsimp only;omega,by dsimp only;omega,by dsimp only [List.length_nil];omega,by dsimp only;omega,by dsimp only;omega,by dsimp only;omega,by simp⟩ ?_ ?_
   · simp [fits,fitsT,fitsM,upd_def,PV.nmb,nmbL,MB.nmb,strs]
   rintro ⟨m,its,p9,tx,hb⟩ ⟨g0,g1,g2,g3,g4,g5,g6⟩
   dsimp only at *
   simp only [mkS,mkT,mkM]
   have hsl:=strs_length its
   have hsa:=strs_all its
   by_cases hm:0<m
   · repeat' (first|(refine qw11 [] [0,2,4,6] (.mk [0,2] (.cons 1 (.mk [] (.cons 3 (.mk [4] (.cons 5 (.mk [6] (.cons 7 (.mk [] .nil) .nil)) .nil)) .nil)) (.cons 3 (.mk [4] (.cons 1 (.mk [] (.cons 5 (.mk [6] (.cons 7 (.mk [] .nil) .nil)) .nil)) .nil)) .nil))) ?_ ?_;focus (decide +kernel))|refine qm0 ?_|(first|((first|apply qwd|apply qa1|apply qm1|apply qm2|apply qm3|apply qcd);(try intro K hk);focus (simp only [lvR11_93,mkT,go_sem,Nat.reduceEqDiff,Nat.reduceAdd,Nat.reduceLeDiff,↓reduceIte,reduceCtorEq,exl,List.length_cons,List.length_nil,hsl,strs_s];first|exact rfl|((repeat refine ai ?_);intros;apply hk;clear hk K)))|apply qw1|refine qwc lvR11_93 ?_|apply qt1|apply qw5|apply qw2|apply qt4|apply qj1|apply qyn|apply qy0|refine qy1 rfl ?_|refine qy2 rfl ?_ ?_|(refine qj6 ?_ ?_<;>intro hc<;>(try simp only [hc])<;>(try simp only [decide_eq_true_eq,decide_eq_false_iff_not] at hc)<;>(try (exfalso;omega)))|(refine qk1 ?_ ?_;focus (repeat (first|exact qsub0|(refine qsub1 ?_ ?_;focus (simp only [go_sem,Nat.reduceEqDiff,Nat.reduceAdd,Nat.reduceLeDiff,Nat.reduceLT,Nat.reduceSub,Int.reduceToNat,↓reduceIte,reduceCtorEq,exl,List.length_append,List.length_cons,List.length_nil,hsl,hsa,strs_s])))))))
     all_goals
      rename_i s9 p10 _ _ _
      refine s_againR ((m - 1,its++[s9],p10,tx,hb)) (fun i=>if i=2 then 4 else i) ?_ ?_ ?_ ?_ ?_ ?_<;>(first|omega|(dsimp only;omega)|(intro i hi;(try dsimp only);(repeat' split)<;>omega)|(intro i j hi hj h;(try dsimp only at h);(repeat' split at h)<;>omega)|skip)
      · refine ⟨by dsimp only;omega,by dsimp only;omega,by dsimp only;rw [List.length_append,List.length_singleton];omega,by dsimp only;omega,by dsimp only;omega,g5,?_⟩
        intro t ht
        rcases List.mem_append.1 ht with ht|ht
        · exact g6 t ht
        · rw [List.mem_singleton] at ht;subst ht;assumption
      all_goals (simp [fitsTR,fitsMR,PV.ren,renL,MB.ren,upd_def,PV.nmb,nmbL,MB.nmb,strs];done)
   · repeat' (first|((first|apply qwd|apply qa1|apply qcd);(try intro K hk);focus (simp only [lvR11_93,mkT,go_sem,Nat.reduceEqDiff,↓reduceIte,reduceCtorEq];first|exact rfl|((repeat refine ai ?_);intros;apply hk;clear hk K)))|apply qw1|refine qwc lvR11_93 ?_|apply qt1|apply qw5|apply qt2|apply qt5|apply qw3|apply qj4|(refine qj6 ?_ ?_<;>intro hc<;>(try simp only [hc])<;>(try simp only [decide_eq_true_eq,decide_eq_false_iff_not] at hc)<;>(try (exfalso;omega))))
     refine s_loop (ι:=Nat×List Bs) (fun i=>[(4,.ref 1 0),(5,.ref 3 0),(7,.int .i64 i.1)]) (fun i=>[(0,.box [.seq (l.map bc),.int .i64 p9]),(1,.box [.str [],.str [],.bool false,.nil]),(2,.row 9 1 (strs i.2)),(3,.box [.str nm,.str tx,.bool hb,.own 2])]) 4
      (fun i=>i.1≤i.2.length∧i.2.length≤3∧ ∀ t ∈ i.2,t.length≤200) (fun i=>i.2.length - i.1) (0,its) (by omega) ⟨Nat.zero_le _,by dsimp only;omega,g6⟩ ?_ ?_
     · simp [fits,fitsT,fitsM,upd_def,PV.nmb,nmbL,MB.nmb]
     rintro ⟨j,ts⟩ ⟨e0,e1,e2⟩
     dsimp only at *
     simp only [mkS,mkT,mkM]
     have htl:=strs_length ts
     have htg:=strK_get ts
     by_cases hj:j<ts.length
     · obtain ⟨t,ht⟩:=get_some (xs:=ts) (k:=j) hj
       have ht2:=e2 t (List.mem_of_getElem? ht)
       repeat' (first|(refine s_draw 17 ?_ ?_;focus (decide +kernel))|(first|((first|apply qwd|apply qa1|apply qa2|apply qa3|apply qcd);(try intro K hk);focus (simp only [lvR11_93,mkT,go_sem,Nat.reduceEqDiff,Nat.reduceLeDiff,↓reduceIte,reduceCtorEq,exl,List.length_cons,List.length_nil,htl,htg,ht,Option.map_some,strs_st];first|exact rfl|((repeat refine ai ?_);intros;apply hk;clear hk K)))|apply qw8|apply qw1|refine qwc lvR11_93 ?_|apply qt1|apply qw5|apply qw2|apply qw9|apply qt4|apply qj1|(refine qj6 ?_ ?_<;>intro hc<;>(try simp only [hc])<;>(try simp only [decide_eq_true_eq,decide_eq_false_iff_not] at hc)<;>(try (exfalso;omega)))))
       refine s_again ((j+1,ts.set j (t.take (min (t.length:Int) 40).toNat))) ?_ ?_ ?_<;>(first|omega|(dsimp only;omega)|skip)
       · refine ⟨by dsimp only;rw [List.length_set];omega,by dsimp only;rw [List.length_set];omega,?_⟩
         intro u hu
         rcases List.mem_or_eq_of_mem_set hu with hu|rfl
         · exact e2 u hu
         · exact Nat.le_trans (List.length_take_le' _ _) ht2
       · dsimp only;rw [List.length_set];omega
       · simp [fits,fitsT,fitsM,upd_def,PV.nmb,nmbL,MB.nmb]
     · repeat' (first|((first|apply qwd|apply qa1|apply qa2|apply qcd);(try intro K hk);focus (simp only [lvR11_93,mkT,go_sem,Nat.reduceEqDiff,Nat.reduceAdd,Nat.reduceLeDiff,↓reduceIte,reduceCtorEq,List.length_cons,List.length_nil,htl];first|exact rfl|((repeat refine ai ?_);intros;apply hk;clear hk K)))|apply qw1|refine qwc lvR11_93 ?_|apply qt1|apply qt2|apply qt5|apply qw3|apply qw4|apply qj4|(refine qj6 ?_ ?_<;>intro hc<;>(try simp only [hc])<;>(try simp only [decide_eq_true_eq,decide_eq_false_iff_not] at hc)<;>(try (exfalso;omega))))
       ((first|refine fin_V ?_|refine fin_Ve ?_|refine fin_O ?_|refine fin_Oe ?_|refine fin_X ?_|refine fin_Xe ?_|refine fin_B ?_|refine fin_Be ?_);simp only [go_sem,MB.nmb,not_false_eq_true,↓upd_def,Nat.reduceEqDiff,Nat.reduceAdd,↓reduceIte,reduceCtorEq])
       exact ⟨Nat.le_refl _,hK _ _ ⟨⟨nm,_,hb,ts⟩,p9,rfl,rfl,⟨h2,Nat.le_trans (List.length_take_le' _ _) g5,by dsimp only;omega,e2⟩,g3,by omega⟩⟩
end Go.Proofs.YtnbjogilidfkdaaGreat

/- Drawn data; parts and data. -/
namespace Go.Proofs.YtnbjogilidfkdaaGreat
attribute [local irreducible] awp arun acalm FinP Fin AX.then AX.inBlock Again aG gsel amix amixN amixC aop aopc aopd cutK
attribute [local go_sem] aBSliceD aSlice aSliceC boundOf aMk aCall aCallC aLenL aLen aPick_t aPick_f aNil aAlloc aBox aBuild bldPV aBSlice bsPV aApp newsOf destOf drp aConvX aConv aConvInt aLoad cellsAt aStore cellsPV setAt aFld aField aIdx aIndex aUn aBin' aBin aMax aExtract pvOf PV.isCell nmbL PV.nmb List.map_cons List.map_nil List.all_cons List.all_nil Bool.and_true Bool.true_and if_true if_false List.getD_cons_zero List.getD_cons_succ List.getD_nil Option.isSome_some true_and and_true and_self eq_self true_or or_true List.drop_zero List.drop_succ_cons List.drop_nil List.take_zero List.take_succ_cons List.take_nil List.length_cons List.length_nil List.length_map Option.getD_some Option.getD_none List.nil_append List.cons_append List.append_nil Option.some.injEq exists_eq_left' List.getElem?_cons_zero List.getElem?_cons_succ Int.toNat_natCast Int.natCast_inj toNat_succ Nat.zero_add res res1 resC owns owns1 ownsC List.flatMap_cons List.flatMap_nil List.flatten_cons List.flatten_nil List.mem_cons List.not_mem_nil or_false false_or forall_eq forall_eq_or_imp isFro frz frz1 pureC tabA isBld List.cons.injEq PV.seq.injEq PV.int.injEq PV.str.injEq PV.bool.injEq PV.agg.injEq inR tab Γof aRes packR Option.map_some Option.map_none rel Prod.exists exists_and_left exists_eq_left and_assoc beq_self_eq_true Bool.not_true Bool.not_false decide_true decide_false List.set_cons_zero List.set_cons_succ rst_nil rst_cons
attribute [local go_sem ↓] evT upd_def aop aopc aopd
set_option maxRecDepth 100000
set_option linter.unusedVariables false
set_option linter.unusedSimpArgs false
open Go.RowKit
def lvR12_51:Nat→List Nat
 | 0=>[0,1]
 | 1=>[0,1,5]
 | 2=>[0,1,5,6]
 | 3=>[0,1,5,6,7]
 | 4=>[0,1,5,6,7,13]
 | 5=>[0,1,5,6,7]
 | 6=>[0,1,5,6,7,18]
 | 7=>[0,1,5,6,7]
 | 8=>[0,5,30]
 | 9=>[0,5,32]
 | 10=>[5]
 | 11=>[0,5,32,38]
 | 12=>[5]
 | 13=>[5,32,46]
 | 14=>[5]
 | 15=>[5,53]
 | 16=>[5]
 | 17=>[4]
 | _=>[]
--LV=R12
@[go_sem] def fdDC:AC:=fun args mem n K=>match args with
 | [.ref i o,.str nm]=>(match mem i with
   | some (.box [.seq es,.int .i64 p])=>o=0∧(∃ l:Bs,es=l.map bc∧l.length≤2000)∧0≤p∧p+60≤1000000∧nm.length≤100∧ ∀ (fn ft:Bs) (fh:Bool) (fi:List Bs) (p':Int),bdF ⟨fn,ft,fh,fi⟩→p≤p'→p'≤p+60→K (.agg [.str fn,.str ft,.bool fh,.seq (strs fi)]) (upd mem i (some (.box [.seq es,.int .i64 p']))) n
   | _=>False)
 | _=>False
theorem fdD_ok:ACok Tryz.prog 93 fdDC:=fdD_ok0.mono fun args mem n K h=>by
 unfold fdDC at h
 split at h
 · rename_i i o nm
   split at h
   · rename_i es p hm
     obtain ⟨rfl,⟨l,rfl,hl⟩,h0,h1,h2,hK⟩:=h
     refine ⟨((l,p),nm),i,rfl,⟨hl,h0,h1,h2⟩,hm,?_⟩
     rintro r b' ⟨⟨fn,ft,fh,fi⟩,p',rfl,rfl,h1,h2,h3⟩
     exact hK fn ft fh fi p' h1 h2 h3
   · exact h.elim
 · exact h.elim
def bdFs (l:List FieldD):Prop:=l.length≤8∧ ∀ f ∈ l,bdF f
theorem fs_pt (d:List FieldD) (a b:Bs) (c:Bool) (i:List Bs):encFs d++[[.str a,.str b,.bool c,.seq (strs i)]]=encFs (d++[⟨a,b,c,i⟩]):=by rw [encFs_append];rfl
theorem fs_p0 (d:List FieldD) (a b:Bs) (c:Bool):encFs d++[[.str a,.str b,.bool c,.seq []]]=encFs (d++[⟨a,b,c,[]⟩]):=by rw [encFs_append];rfl
theorem fs_p2 (d:List FieldD) (a b a' b':Bs) (c c':Bool):encFs d++[[.str a,.str b,.bool c,.seq []],[.str a',.str b',.bool c',.seq []]]=encFs (d++[⟨a,b,c,[]⟩,⟨a',b',c',[]⟩]):=by rw [encFs_append];rfl
theorem fs_p6 (d:List FieldD) (a b:Bs) (c:Bool):encFs d++[[.str a,.str b,.bool c,.seq [[.str [49]],[.str [50]],[.str [51]],[.str [52]],[.str [53]],[.str [54]]]]]=encFs (d++[⟨a,b,c,[[49],[50],[51],[52],[53],[54]]⟩]):=by rw [encFs_append];rfl
def nm6:List Bs:=[[97],[98],[117,115,101,114],[120,45,49],[108,105,115,116],[102,108,97,103]]
theorem nm6_len: ∀ t ∈ nm6,t.length≤100:=by decide
@[go_sem] def daD0:AC:=locO 46 4 (α:=(Bs×Int)×Int) (fun x=>[.int .i64 x.2]) (fun x=>rdB x.1.1 x.1.2) (fun x=>x.1.1.length≤2000∧0≤x.1.2∧x.1.2+500≤1000000∧0≤x.2∧x.2≤1000) (fun x es b'=> ∃ data p',es=encFs data∧b'=rdB x.1.1 p'∧bdFs data∧x.1.2≤p'∧p'≤x.1.2+500)
set_option maxHeartbeats 16000000 in
theorem daD_ok0:ACok Tryz.prog 51 daD0:=by
 refine locO_ok 2 (tabA_cons pick_ok (tabA_cons odd_ok (tabA_cons nmD_ok (tabA_cons fdD_ok (tabA_nil (Γof_ok tab_nil)))))) tab_nil mixed [.tmp 4] Tryz.func51 rfl rfl (by kernel_rfl) (by kernel_rfl) (fun _=>rfl) (by kernel_rfl) (fun x=>by simp [nmbL,PV.nmb]) (fun x=>by simp [go_sem,MB.nmb,nmbL,PV.nmb]) ?_
 rintro ⟨⟨l,p⟩,m⟩ K ⟨hl,h0,h1,h2,h3⟩ hK
 dsimp only at *
 unfold entry
 simp only [mkM,rdB] at *
 repeat' (first|((first|apply qwd|apply qa1);(try intro K hk);focus (simp only [lvR12_51,mkT,go_sem,Nat.reduceEqDiff,Nat.reduceAdd,↓reduceIte,reduceCtorEq];first|exact rfl|((repeat refine ai ?_);intros;apply hk;clear hk K)))|apply qw1|refine qwc lvR12_51 ?_|apply qt1|apply qw5)
 refine s_loop (ι:=Nat×List FieldD×Int) (fun i=>[(0,.ref 0 0),(1,.int .i64 m),(5,.own 1),(6,.own 2),(7,.int .i64 i.1)]) (fun i=>[(0,.box [.seq (l.map bc),.int .i64 i.2.2]),(1,.row 46 4 (encFs i.2.1)),(2,.row 9 1 (strs nm6))]) 3 (fun i=>i.1≤6∧i.2.1.length≤i.1∧(∀ f ∈ i.2.1,bdF f)∧p≤i.2.2∧i.2.2+61 * (6 - i.1:Nat)≤p+366) (fun i=>6 - i.1) (0,[],p) (by omega) ⟨by dsimp only;omega,Nat.le_refl _,by simp,by dsimp only;omega,by dsimp only;omega⟩ ?_ ?_
 · simp [fits,fitsT,fitsM,upd_def,PV.nmb,nmbL,MB.nmb,encFs,strs,nm6]
 rintro ⟨k,data,p9⟩ ⟨g0,g1,g2,g3,g4⟩
 dsimp only at *
 simp only [mkS,mkT,mkM]
 have hfl:=encFs_length data
 have hfa:=encFs_all data
 have hnl:(strs nm6).length=6:=rfl
 by_cases hk:k<6
 · obtain ⟨nm,hnm⟩:=get_some (xs:=nm6) (k:=k) (by exact hk)
   have hng:(strs nm6)[k]?=some [.str nm]:=by rw [strK_get,hnm];rfl
   have hn2:=nm6_len nm (List.mem_of_getElem? hnm)
   repeat' (first|((first|apply qwd|apply qa1|apply qcd);(try intro K hk);focus (simp only [lvR12_51,mkT,go_sem,Nat.reduceEqDiff,Nat.reduceAdd,Nat.reduceLeDiff,↓reduceIte,reduceCtorEq,exl,hfl,hnl,hng,fs_pt];first|exact rfl|((repeat refine ai ?_);intros;apply hk;clear hk K)))|apply qw1|refine qwc lvR12_51 ?_|apply qt1|apply qw5|apply qw2|apply qt4|apply qj1|apply qj4|(refine qj6 ?_ ?_<;>intro hc<;>(try simp only [hc])<;>(try simp only [decide_eq_true_eq,decide_eq_false_iff_not] at hc)<;>(try (exfalso;omega))))
   · rename_i pk _ _ fn ft fh fi p10 hbf _ _
     refine s_againR ((k+1,data++[⟨fn,ft,fh,fi⟩],p10)) (fun i=>if i=1 then 4 else i) ?_ ?_ ?_ ?_ ?_ ?_<;>(first|omega|(dsimp only;omega)|(intro i hi;(try dsimp only);(repeat' split)<;>omega)|(intro i j hi hj h;(try dsimp only at h);(repeat' split at h)<;>omega)|skip)
     · refine ⟨by dsimp only;omega,by dsimp only;rw [List.length_append,List.length_singleton];omega,?_,by dsimp only;omega,by dsimp only;omega⟩
       intro f hf
       rcases List.mem_append.1 hf with hf|hf
       · exact g2 f hf
       · rw [List.mem_singleton] at hf;subst hf;exact hbf
     all_goals (simp [fitsTR,fitsMR,PV.ren,renL,MB.ren,upd_def,PV.nmb,nmbL,MB.nmb];done)
   · refine s_again ((k+1,data,p9+1)) ?_ ?_ ?_<;>(first|omega|(dsimp only;omega)|skip)
     · exact ⟨by dsimp only;omega,by dsimp only;omega,g2,by dsimp only;omega,by dsimp only;omega⟩
     · simp [fits,fitsT,fitsM,upd_def,PV.nmb,nmbL,MB.nmb]
 · obtain rfl:k=6:=by omega
   repeat' (first|((first|apply qwd|apply qa1|apply qcd);(try intro K hk);focus (simp only [lvR12_51,mkT,go_sem,Nat.reduceEqDiff,Nat.reduceAdd,Nat.reduceLeDiff,Nat.reduceLT,↓reduceIte,reduceCtorEq,exl,hfl,hnl,fs_p0,fs_p2,fs_p6];first|exact rfl|((repeat refine ai ?_);intros;apply hk;clear hk K)))|apply qw1|refine qwc lvR12_51 ?_|apply qt1|apply qw5|apply qw2|apply qt2|apply qt4|apply qt5|apply qw3|apply qw4|apply qj1|apply qj4|(refine qj6 ?_ ?_<;>intro hc<;>(try simp only [hc])<;>(try simp only [decide_eq_true_eq,decide_eq_false_iff_not] at hc)<;>(try (exfalso;omega))))
   all_goals
    ((first|refine fin_V ?_|refine fin_Ve ?_|refine fin_O ?_|refine fin_Oe ?_|refine fin_X ?_|refine fin_Xe ?_|refine fin_B ?_|refine fin_Be ?_);simp only [go_sem,PV.own.injEq,MB.row.injEq,MB.nmb,not_false_eq_true,ne_eq,↓upd_def,↓reduceIte,reduceCtorEq])
    refine hK _ _ ⟨_,_,rfl,rfl,⟨?_,?_⟩,by omega,by omega⟩
    · (try simp only [List.length_append,List.length_cons,List.length_nil]);omega
    · first
       | exact g2
       | (intro f hf
          rcases List.mem_append.1 hf with hf|hf
          · exact g2 f hf
          · simp only [List.mem_cons,List.not_mem_nil,or_false] at hf
            first
             | (subst hf;refine ⟨?_,?_,?_,?_⟩<;>(simp<;>omega);done)
             | (subst hf;refine ⟨?_,?_,?_,?_⟩<;>(first|(dsimp only;omega)|(simp;done));done)
             | (rcases hf with rfl|rfl<;>(refine ⟨?_,?_,?_,?_⟩<;>(first|(dsimp only;omega)|(simp;done)))))
@[go_sem] def daDC:AC:=fun args mem n K=>match args with
 | [.ref i o,.int .i64 m]=>0≤m∧m≤1000∧(match mem i with
   | some (.box [.seq es,.int .i64 p])=>o=0∧(∃ l:Bs,es=l.map bc∧l.length≤2000)∧0≤p∧p+500≤1000000∧ ∀ (d:List FieldD) (p':Int),bdFs d→p≤p'→p'≤p+500→K (.own n) (upd (upd mem i (some (.box [.seq es,.int .i64 p']))) n (some (.row 46 4 (encFs d)))) (n+1)
   | _=>False)
 | _=>False
theorem daD_ok:ACok Tryz.prog 51 daDC:=daD_ok0.mono fun args mem n K h=>by
 unfold daDC at h
 split at h
 · rename_i i o m
   obtain ⟨hm0,hm1,h⟩:=h
   split at h
   · rename_i es p hm
     obtain ⟨rfl,⟨l,rfl,hl⟩,h0,h1,hK⟩:=h
     refine ⟨((l,p),m),i,rfl,⟨hl,h0,h1,hm0,hm1⟩,hm,?_⟩
     rintro es b' ⟨d,p',rfl,rfl,h1,h2,h3⟩
     exact hK d p' h1 h2 h3
   · exact h.elim
 · exact h.elim
theorem drwFP:ACok Tryz.prog 22 (drwG (α:=List PartD×List FieldD) (fun x=>gdX x.1∧bdFs x.2) (fun x=> .tup [.seq (encPs x.1),.seq (encFs x.2)])):=drw_of (by
 refine ac_body 1 (tabA_cons open_ok (tabA_cons tpl_ok (tabA_cons daD_ok (tabA_nil (Γof_ok tab_nil))))) tab_nil mixed [.tmp 2,.tmp 3] Tryz.func22 rfl rfl (by kernel_rfl) (by kernel_rfl) ?_ (by kernel_rfl) ?_
 · intro args mem n K h
   obtain ⟨es,rfl,h⟩:=drw_args h
   rfl
 intro args mem n K h
 obtain ⟨es,rfl,⟨l,rfl,hl⟩,hK⟩:=drw_args h
 have hba:=bc_all l
 unfold entry
 repeat' (first|((first|apply qa1);(try intro K hk);focus (simp only [go_sem,Nat.reduceEqDiff,↓reduceIte,exl,q_1,q_3,q_9];first|exact rfl|((repeat refine ai ?_);intros;apply hk;clear hk K)))|apply qw8|apply qw1|apply qw6|apply qt1|apply qw4)
 rename List PartD=>xs
 rename List FieldD=>d
 refine fin_retA ?_
 simp only [go_sem,↓upd_def,↓reduceIte,q_1]
 refine hK (xs,d) _ _ _ ⟨⟨by dsimp only;omega,by dsimp only;omega⟩,by assumption⟩ ?_ (by omega)
 simp [res,res1,resC,upd_def])
end Go.Proofs.YtnbjogilidfkdaaGreat
