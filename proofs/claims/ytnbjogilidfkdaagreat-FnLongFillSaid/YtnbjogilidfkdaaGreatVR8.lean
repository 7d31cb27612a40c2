/- The drawn texts. -/
import Derived.Test.YtnbjogilidfkdaaGreatVX1

namespace Go.Proofs.YtnbjogilidfkdaaGreat
attribute [local irreducible] awp arun acalm FinP Fin AX.then AX.inBlock Again aG gsel amix amixN amixC aop aopc aopd cutK
attribute [local go_sem] aBSliceD aSlice aSliceC boundOf aMk aCall aCallC aLenL aLen aPick_t aPick_f aNil aAlloc aBox aBuild bldPV aBSlice bsPV aApp newsOf destOf drp aConvX aConv aConvInt aLoad cellsAt aStore cellsPV setAt aFld aField aIdx aIndex aUn aBin' aBin aMax aExtract pvOf PV.isCell nmbL PV.nmb List.map_cons List.map_nil List.all_cons List.all_nil Bool.and_true Bool.true_and if_true if_false List.getD_cons_zero List.getD_cons_succ List.getD_nil Option.isSome_some true_and and_true and_self eq_self true_or or_true List.drop_zero List.drop_succ_cons List.drop_nil List.take_zero List.take_succ_cons List.take_nil List.length_cons List.length_nil List.length_map Option.getD_some Option.getD_none List.nil_append List.cons_append List.append_nil Option.some.injEq exists_eq_left' List.getElem?_cons_zero List.getElem?_cons_succ Int.toNat_natCast Int.natCast_inj toNat_succ Nat.zero_add res res1 resC owns owns1 ownsC List.flatMap_cons List.flatMap_nil List.flatten_cons List.flatten_nil List.mem_cons List.not_mem_nil or_false false_or forall_eq forall_eq_or_imp isFro frz frz1 pureC tabA isBld List.cons.injEq PV.seq.injEq PV.int.injEq PV.str.injEq PV.bool.injEq PV.agg.injEq inR tab Γof aRes packR Option.map_some Option.map_none rel Prod.exists exists_and_left exists_eq_left and_assoc beq_self_eq_true Bool.not_true Bool.not_false decide_true decide_false List.set_cons_zero List.set_cons_succ rst_nil rst_cons
attribute [local go_sem ↓] evT upd_def aop aopc aopd
set_option maxRecDepth 100000
set_option linter.unusedVariables false
set_option linter.unusedSimpArgs false
open Go.RowKit
def lvR8_122:Nat→List Nat
 | 0=>[0,1]
 | 1=>[0,1,5]
 | 2=>[0,1,5,6]
 | 3=>[0,1,5,6,10]
 | 4=>[0,1,5,6]
 | 5=>[0,1,5,6]
 | 6=>[0,5,22]
 | 7=>[5]
 | 8=>[4]
 | _=>[]
--LV=R8
@[go_sem] def txD0:AC:=locV (α:=(Bs×Int)×Int) (fun x=>[.int .i64 x.2]) (fun x=>rdB x.1.1 x.1.2) (fun x=>x.1.1.length≤2000∧0≤x.1.2∧x.1.2+10≤1000000∧0≤x.2∧x.2≤1000) (fun x r b'=> ∃ (s:Bs) (p':Int),r= .str s∧b'=rdB x.1.1 p'∧s.length≤200∧x.1.2≤p'∧p'≤x.1.2+10)
set_option maxHeartbeats 8000000 in
theorem txD_ok0:ACok Tryz.prog 122 txD0:=by
 refine locV_ok 2 (tabA_cons pick_ok (tabA_cons odd_ok (tabA_nil (Γof_ok tab_nil)))) tab_nil mixed [.tmp 4] Tryz.func122 rfl rfl (by kernel_rfl) (by kernel_rfl) (fun _=>rfl) (by kernel_rfl) (fun x=>by simp [nmbL,PV.nmb]) (fun x=>by simp [go_sem,MB.nmb,nmbL,PV.nmb]) ?_
 rintro ⟨⟨l,p⟩,m0⟩ K ⟨hl,h0,h1,h2,h3⟩ hK
 dsimp only at *
 unfold entry
 simp only [mkM,rdB] at *
 repeat' (first|((first|apply qwd|apply qa1);(try intro K hk);focus (simp only [lvR8_122,mkT,go_sem,Nat.reduceEqDiff,↓reduceIte,reduceCtorEq,exl];first|exact rfl|((repeat refine ai ?_);intros;apply hk;clear hk K)))|apply qw1|refine qwc lvR8_122 ?_|apply qt1|apply qw5)
 rename Int=>k0
 refine s_loop (ι:=Int×Bs×Int) (fun i=>[(0,.ref 0 0),(1,.int .i64 m0),(5,.str i.2.1),(6,.int .i64 i.1)]) (fun i=>[(0,.box [.seq (l.map bc),.int .i64 i.2.2])]) 1 (fun i=>0≤i.1∧i.1≤6∧(i.2.1.length:Int)≤(6 - i.1) * 20∧p+1≤i.2.2∧i.2.2≤p+1+(6 - i.1)) (fun i=>i.1.toNat) (k0,[],p+1) (by omega) ⟨by dsimp only;omega,by dsimp only;omega,by simp;omega,by dsimp only;omega,by dsimp only;omega⟩ ?_ ?_
 · simp [fits,fitsT,fitsM,upd_def,PV.nmb,nmbL,MB.nmb]
 rintro ⟨m,t,p2⟩ ⟨g0,g1,g2,g3,g4⟩
 dsimp only at *
 simp only [mkS,mkT,mkM]
 repeat' (first|((first|apply qwd|apply qa1|apply qcd);(try intro K hk);focus (simp only [lvR8_122,mkT,go_sem,Nat.reduceEqDiff,Nat.reduceAdd,↓reduceIte,reduceCtorEq,exl];first|exact rfl|((repeat refine ai ?_);intros;apply hk;clear hk K)))|apply qw1|refine qwc lvR8_122 ?_|apply qt1|apply qw5|apply qw2|apply qt2|apply qt5|apply qw3|apply qw4|apply qj1|apply qj4|(refine qj6 ?_ ?_<;>intro hc<;>(try simp only [hc])<;>(try simp only [decide_eq_true_eq,decide_eq_false_iff_not] at hc)<;>(try (exfalso;omega))))
 · (refine qa1 fun K hk=>?_;apply qload 20;(focus (simp only [go_sem,↓upd_def,↓evT,↓reduceIte];exact rfl));(focus (simp only [go_sem,↓upd_def,↓reduceIte,reduceCtorEq];exact rfl));(focus (simp only [go_sem]));(focus (simp only [List.length_cons,List.length_nil];omega));(focus kernel_rfl);intro tx htx;apply hk;clear hk K)
   repeat' (first|((first|apply qwd|apply qa1);(try intro K hk);focus (simp only [lvR8_122,mkT,go_sem,Nat.reduceEqDiff,↓reduceIte,reduceCtorEq];first|exact rfl|((repeat refine ai ?_);intros;apply hk;clear hk K)))|refine qwc lvR8_122 ?_|apply qt1|apply qt4)
   refine s_again ((m - 1,t++tx,p2+1)) ?_ ?_ ?_<;>(first|omega|(dsimp only;omega)|skip)
   · refine ⟨by dsimp only;omega,by dsimp only;omega,?_,by dsimp only;omega,by dsimp only;omega⟩
     dsimp only
     rw [List.length_append]
     omega
   all_goals simp [fits,fitsT,fitsM,upd_def,PV.nmb,nmbL,MB.nmb]
 · (refine qa1 fun K hk=>?_;apply qload 1;(focus (simp only [go_sem,↓upd_def,↓evT,↓reduceIte];exact rfl));(focus (simp only [go_sem,↓upd_def,↓reduceIte,reduceCtorEq];exact rfl));(focus (simp only [go_sem]));(focus (simp only [List.length_cons,List.length_nil];omega));(focus kernel_rfl);intro tx htx;apply hk;clear hk K)
   repeat' (first|((first|apply qwd|apply qa1);(try intro K hk);focus (simp only [lvR8_122,mkT,go_sem,Nat.reduceEqDiff,↓reduceIte];first|exact rfl|((repeat refine ai ?_);intros;apply hk;clear hk K)))|apply qw1|refine qwc lvR8_122 ?_|apply qt1|apply qw4)
   ((first|refine fin_V ?_|refine fin_Ve ?_|refine fin_O ?_|refine fin_Oe ?_|refine fin_X ?_|refine fin_Xe ?_|refine fin_B ?_|refine fin_Be ?_);simp only [go_sem,MB.nmb,not_false_eq_true,↓upd_def,↓reduceIte])
   refine hK _ _ ⟨_,_,rfl,rfl,?_,?_,?_⟩
   · rw [List.length_append];omega
   · omega
   · omega
 · ((first|refine fin_V ?_|refine fin_Ve ?_|refine fin_O ?_|refine fin_Oe ?_|refine fin_X ?_|refine fin_Xe ?_|refine fin_B ?_|refine fin_Be ?_);simp only [go_sem,MB.nmb,not_false_eq_true,↓upd_def,↓reduceIte])
   refine hK _ _ ⟨_,_,rfl,rfl,?_,?_,?_⟩<;>omega
@[go_sem] def txDC:AC:=fun args mem n K=>match args with
 | [.ref i o,.int .i64 m]=>(match mem i with
   | some (.box [.seq es,.int .i64 p])=>o=0∧(∃ l:Bs,es=l.map bc∧l.length≤2000)∧0≤p∧p+10≤1000000∧0≤m∧m≤1000∧ ∀ (s:Bs) (p':Int),s.length≤200→p≤p'→p'≤p+10→K (.str s) (upd mem i (some (.box [.seq es,.int .i64 p']))) n
   | _=>False)
 | _=>False
theorem txD_ok:ACok Tryz.prog 122 txDC:=txD_ok0.mono fun args mem n K h=>by
 unfold txDC at h
 split at h
 · rename_i i o m
   split at h
   · rename_i es p hm
     obtain ⟨rfl,⟨l,rfl,hl⟩,h0,h1,h2,h3,hK⟩:=h
     refine ⟨((l,p),m),i,rfl,⟨hl,h0,h1,h2,h3⟩,hm,?_⟩
     rintro r b' ⟨s,p',rfl,rfl,h1,h2,h3⟩
     exact hK s p' h1 h2 h3
   · exact h.elim
 · exact h.elim
end Go.Proofs.YtnbjogilidfkdaaGreat

/- Contracts: entities read back (the reference), percent signs, script texts. -/
namespace Go.Proofs.YtnbjogilidfkdaaGreat
attribute [local irreducible] awp arun acalm FinP Fin AX.then AX.inBlock Again aG gsel amix amixN amixC aop aopc aopd cutK
attribute [local go_sem] aBSliceD aSlice aSliceC boundOf aMk aCall aCallC aLenL aLen aPick_t aPick_f aNil aAlloc aBox aBuild bldPV aBSlice bsPV aApp newsOf destOf drp aConvX aConv aConvInt aLoad cellsAt aStore cellsPV setAt aFld aField aIdx aIndex aUn aBin' aBin aMax aExtract pvOf PV.isCell nmbL PV.nmb List.map_cons List.map_nil List.all_cons List.all_nil Bool.and_true Bool.true_and if_true if_false List.getD_cons_zero List.getD_cons_succ List.getD_nil Option.isSome_some true_and and_true and_self eq_self true_or or_true List.drop_zero List.drop_succ_cons List.drop_nil List.take_zero List.take_succ_cons List.take_nil List.length_cons List.length_nil List.length_map Option.getD_some Option.getD_none List.nil_append List.cons_append List.append_nil Option.some.injEq exists_eq_left' List.getElem?_cons_zero List.getElem?_cons_succ Int.toNat_natCast Int.natCast_inj toNat_succ Nat.zero_add res res1 resC owns owns1 ownsC List.flatMap_cons List.flatMap_nil List.flatten_cons List.flatten_nil List.mem_cons List.not_mem_nil or_false false_or forall_eq forall_eq_or_imp isFro frz frz1 pureC tabA isBld List.cons.injEq PV.seq.injEq PV.int.injEq PV.str.injEq PV.bool.injEq PV.agg.injEq inR tab Γof aRes packR Option.map_some Option.map_none rel Prod.exists exists_and_left exists_eq_left and_assoc beq_self_eq_true Bool.not_true Bool.not_false decide_true decide_false List.set_cons_zero List.set_cons_succ rst_nil rst_cons
attribute [local go_sem ↓] evT upd_def aop aopc aopd
set_option maxRecDepth 100000
set_option linter.unusedVariables false
set_option linter.unusedSimpArgs false
open Go.RowKit
theorem hexU_at (n:Nat):([48,49,50,51,52,53,54,55,56,57,65,66,67,68,69,70]:Bs).getD n 0=hexU.getD n 0:=rfl
theorem shr4 (b:UInt8):((b.toNat:Int) / 16).toNat=b.toNat / 16:=by omega
theorem and15' (b:UInt8):((b.toNat:Int) % 16).toNat=b.toNat % 16:=by omega
@[go_sem] def pctC:PC:=rel (α:=Bs×Bs) (fun x=>[.str x.1,.str x.2]) (fun x=>x.1.length≤1099511627776∧x.2.length≤1099511627776) (fun x=> .str (pctS x.2 x.1))
set_option maxHeartbeats 4000000 in
theorem pct_i:PureOk Tryz.prog 100 pctC:=by
 refine pure_relA 2 (tabA_cons wstr_ok (tabA_cons wbyte_ok (tabA_cons bstr_ok (tabA_nil (Γof_ok (tab_cons let_i (tab_cons digb_i (tab_cons has_i tab_nil)))))))) (tab_cons let_i (tab_cons digb_i (tab_cons has_i tab_nil))) mixed [.tmp 4] Tryz.func100 rfl rfl (by kernel_rfl) (by kernel_rfl) (fun _=>rfl) (by kernel_rfl) ?_
 rintro ⟨s,keep⟩ K ⟨hl,hl'⟩ hK
 dsimp only at *
 unfold entry
 repeat' (first|((first|apply qa1);(try intro K hk);focus (simp only [go_sem,↓reduceIte];first|exact rfl|((repeat refine ai ?_);intros;apply hk;clear hk K)))|apply qw8|apply qw1|apply qw6|apply qt1|apply qw5)
 refine s_loop (ι:=Nat) (fun k=>[(0,.str s),(1,.str keep),(5,.ref 0 0),(6,.int .i64 k)]) (fun k=>[(0,.gen bld [.str (pctS keep (s.take k))])]) 1 (fun k=>k≤s.length) (fun k=>s.length - k) 0 (by omega) (by omega) ?_ ?_
 · simp [fits,fitsT,fitsM,upd_def,PV.nmb,MB.nmb,pctS]
 intro k hk
 have hbl:=byte_lt s k
 have hx1:=byte_lt hexU ((s.getD k 0).toNat / 16)
 have hx2:=byte_lt hexU ((s.getD k 0).toNat % 16)
 have hL1:=pctS_len keep (s.take k)
 rw [List.length_take_of_le hk] at hL1
 simp only [mkS,mkT,mkM]
 repeat' (first|((first|apply qa1|apply qh1|apply qg1 rfl|apply qcd);(try intro K hk);focus (simp only [go_sem,Nat.reduceEqDiff,Nat.reduceAdd,Nat.reduceLeDiff,Int.reduceToNat,↓reduceIte,reduceCtorEq,hexU_at,shr4,and15',List.length_append];first|exact rfl|((repeat refine ai ?_);intros;apply hk;clear hk K)))|apply qw8|apply qw1|apply qw6|apply qt1|apply qw5|apply qw2|apply qt2|apply qt4|apply qt5|apply qw3|apply qw4|apply qj1|apply qj2|apply qj3|apply qj4|apply qu1|(refine qj6 ?_ ?_<;>intro hc<;>(try simp only [hc])<;>(try simp only [decide_eq_true_eq,decide_eq_false_iff_not] at hc)<;>(try (exfalso;omega))))
 all_goals first
  | (refine s_again (k+1) ?_ ?_ ?_<;>(first|omega|(dsimp only;omega)|skip)
     have hS:pctS keep (s.take (k+1))=pctS keep (s.take k)++pctW keep (s.getD k 0):=flatMap_snoc (by omega)
     rw [hS]
     clear hK
     generalize s.getD k 0=b at *
     simp [fits,fitsT,fitsM,upd_def,PV.nmb,MB.nmb,pctW,pct1, *]
     done)
  | (((first|refine fin_ret ?_|refine fin_end ?_);simp only [go_sem,↓upd_def,↓reduceIte])
     rw [List.take_of_length_le (by omega)]
     exact hK)
theorem escP_i:PureOk Tryz.prog 63 (tC fun s=> .str (pctS keep3 s)):=by
 refine pure_rel 1 (tab_cons pct_i tab_nil) mixed [.tmp 2] Tryz.func63 rfl rfl (by kernel_rfl) (by kernel_rfl) (fun _=>rfl) (by kernel_rfl) ?_
 rintro s K hl hK
 unfold entry
 repeat' (first|((first|apply qa1);(try intro K hk);focus (simp only [go_sem,Nat.reduceAdd,Nat.reduceLeDiff,↓reduceIte,reduceCtorEq];first|exact rfl|((repeat refine ai ?_);intros;apply hk;clear hk K)))|apply qw8|apply qw1|apply qw6|apply qt1|apply qw4)
 ((first|refine fin_ret ?_|refine fin_end ?_);simp only [go_sem,↓upd_def,↓reduceIte])
 exact hK
theorem plain_i:PureOk Tryz.prog 62 (tC fun s=> .str (pctS keepA s)):=by
 refine pure_rel 1 (tab_cons pct_i tab_nil) mixed [.tmp 2] Tryz.func62 rfl rfl (by kernel_rfl) (by kernel_rfl) (fun _=>rfl) (by kernel_rfl) ?_
 rintro s K hl hK
 unfold entry
 repeat' (first|((first|apply qa1);(try intro K hk);focus (simp only [go_sem,Nat.reduceAdd,Nat.reduceLeDiff,↓reduceIte,reduceCtorEq];first|exact rfl|((repeat refine ai ?_);intros;apply hk;clear hk K)))|apply qw8|apply qw1|apply qw6|apply qt1|apply qw4)
 ((first|refine fin_ret ?_|refine fin_end ?_);simp only [go_sem,↓upd_def,↓reduceIte])
 exact hK
theorem cut1 {l:Bs} {n:Nat} {i:Int} (hi:i=n) (h:n<l.length):List.drop i.toNat (List.take (i+1).toNat l)=[l.getD n 0]:=by
 subst hi
 rw [show ((n:Int)+1).toNat=n+1 by omega,Int.toNat_natCast,take_succ_getD h,List.drop_append_of_le_length (by simp;omega),List.drop_of_length_le (by simp;omega)]
 rfl
set_option maxHeartbeats 4000000 in
theorem hex3_s:PureOk Tryz.prog 132 (byC fun b=> .str (pct1 b)):=by
 refine pure_rel 1 tab_nil mixed [.tmp 2] Tryz.func132 rfl rfl (by kernel_rfl) (by kernel_rfl) (fun _=>rfl) (by kernel_rfl) ?_
 rintro x K ⟨h0,h1⟩ hK
 obtain ⟨b,rfl⟩:=byte_of h0 h1
 simp only [ofI_nat] at hK
 have q1:=cut1 (l:=hexU) (i:=(b.toNat:Int) / 16) (n:=b.toNat / 16) (by omega) (by show _<16;omega)
 have q2:=cut1 (l:=hexU) (i:=(b.toNat:Int) % 16) (n:=b.toNat % 16) (by omega) (by show _<16;omega)
 unfold hexU at q1 q2
 unfold entry
 repeat' (first|((first|apply qa1|apply qa2|apply qa3|apply qh1|apply qh2|apply qg1 rfl|apply qcd);(try intro K hk);focus (simp only [go_sem,Nat.reduceEqDiff,Nat.reduceAdd,Nat.reduceLeDiff,Nat.reduceLT,Nat.reduceSub,Int.reduceToNat,↓reduceIte,reduceCtorEq,q1,q2];first|exact rfl|((repeat refine ai ?_);intros;apply hk;clear hk K)))|apply qw8|apply qw1|apply qw6|apply qt1|apply qw5|apply qw2|apply qw9|apply qt2|apply qt3|apply qt4|apply qt5|apply qt6|apply qw3|apply qw4|apply qj1|apply qj2|apply qj3|apply qj4|apply qj5|apply qu1|apply qu2|(refine qj6 ?_ ?_<;>intro hc<;>(try simp only [hc])<;>(try simp only [decide_eq_true_eq,decide_eq_false_iff_not,Bool.not_eq_true',Bool.not_eq_false',Bool.not_eq_true,reduceCtorEq] at hc)<;>(try (exfalso;omega)))|(refine qt7 ?_ ?_;focus decide)|(refine qw7 ?_ ?_ ?_;(focus (decide +kernel));(focus (decide +kernel))))
 all_goals
  ((first|refine fin_ret ?_|refine fin_end ?_);simp only [go_sem,↓upd_def,Nat.reduceEqDiff,Nat.reduceAdd,↓reduceIte,reduceCtorEq])
  exact hK
set_option maxHeartbeats 4000000 in
theorem plain3_s:PureOk Tryz.prog 131 (byC fun b=> .bool (plain3 b)):=by
 refine pure_rel 1 (tab_cons let_s (tab_cons digb_s tab_nil)) mixed [.tmp 2] Tryz.func131 rfl rfl (by kernel_rfl) (by kernel_rfl) (fun _=>rfl) (by kernel_rfl) ?_
 rintro x K ⟨h0,h1⟩ hK
 obtain ⟨b,rfl⟩:=byte_of h0 h1
 simp only [ofI_nat] at hK
 unfold entry
 repeat' (first|((first|apply qa1|apply qa2|apply qa3|apply qh1|apply qh2|apply qg1 rfl|apply qcd);(try intro K hk);focus (simp only [go_sem,Nat.reduceEqDiff,Nat.reduceAdd,Nat.reduceLeDiff,Nat.reduceLT,Nat.reduceSub,Int.reduceToNat,↓reduceIte,reduceCtorEq];first|exact rfl|((repeat refine ai ?_);intros;apply hk;clear hk K)))|apply qw8|apply qw1|apply qw6|apply qt1|apply qw5|apply qw2|apply qw9|apply qt2|apply qt3|apply qt4|apply qt5|apply qt6|apply qw3|apply qw4|apply qj1|apply qj2|apply qj3|apply qj4|apply qj5|apply qu1|apply qu2|(refine qj6 ?_ ?_<;>intro hc<;>(try simp only [hc])<;>(try simp only [decide_eq_true_eq,decide_eq_false_iff_not,Bool.not_eq_true',Bool.not_eq_false',Bool.not_eq_true,reduceCtorEq] at hc)<;>(try (exfalso;omega)))|(refine qt7 ?_ ?_;focus decide)|(refine qw7 ?_ ?_ ?_;(focus (decide +kernel));(focus (decide +kernel))))
 all_goals
  ((first|refine fin_ret ?_|refine fin_end ?_);simp only [go_sem,↓upd_def,Nat.reduceEqDiff,Nat.reduceAdd,↓reduceIte,reduceCtorEq])
  refine K_bool hK ?_
  unfold plain3 hasB
  clear hK
  simp [*]
  try omega
  try simp only [decide_eq_decide,← Bool.decide_or,eq_iff_iff];omega
end Go.Proofs.YtnbjogilidfkdaaGreat
