/- Contracts: fillWith with its closures; FillSafe. -/
import Derived.Test.YtnbjogilidfkdaaGreatVF12
import Derived.Test.YtnbjogilidfkdaaGreatVK3
import Derived.Test.YtnbjogilidfkdaaGreatVX16
import Derived.Test.YtnbjogilidfkdaaGreatVXC
import Derived.Test.YtnbjogilidfkdaaGreatVS10

namespace Go.Proofs.YtnbjogilidfkdaaGreat
attribute [local irreducible] awp arun acalm FinP Fin AX.then AX.inBlock Again aG gsel amix amixN amixC aop aopc aopd cutK
attribute [local go_sem] aBSliceD aSlice aSliceC boundOf aMk aCall aCallC aLenL aLen aPick_t aPick_f aNil aAlloc aBox aBuild bldPV aBSlice bsPV aApp newsOf destOf drp aConvX aConv aConvInt aLoad cellsAt aStore cellsPV setAt aFld aField aIdx aIndex aUn aBin' aBin aMax aExtract pvOf PV.isCell nmbL PV.nmb List.map_cons List.map_nil List.all_cons List.all_nil Bool.and_true Bool.true_and if_true if_false List.getD_cons_zero List.getD_cons_succ List.getD_nil Option.isSome_some true_and and_true and_self eq_self true_or or_true List.drop_zero List.drop_succ_cons List.drop_nil List.take_zero List.take_succ_cons List.take_nil List.length_cons List.length_nil List.length_map Option.getD_some Option.getD_none List.nil_append List.cons_append List.append_nil Option.some.injEq exists_eq_left' List.getElem?_cons_zero List.getElem?_cons_succ Int.toNat_natCast Int.natCast_inj toNat_succ Nat.zero_add res res1 resC owns owns1 ownsC List.flatMap_cons List.flatMap_nil List.flatten_cons List.flatten_nil List.mem_cons List.not_mem_nil or_false false_or forall_eq forall_eq_or_imp isFro frz frz1 pureC tabA isBld List.cons.injEq PV.seq.injEq PV.int.injEq PV.str.injEq PV.bool.injEq PV.agg.injEq inR tab Γof aRes packR Option.map_some Option.map_none rel Prod.exists exists_and_left exists_eq_left and_assoc beq_self_eq_true Bool.not_true Bool.not_false decide_true decide_false List.set_cons_zero List.set_cons_succ rst_nil rst_cons
attribute [local go_sem ↓] evT upd_def aop aopc aopd
set_option maxRecDepth 100000
set_option linter.unusedVariables false
set_option linter.unusedSimpArgs false
open Go.RowKit
def lvX22_7:Nat→List Nat
 | 0=>[0,1]
 | 1=>[0,1,14]
 | 2=>[4,5]
 | 3=>[0,1,6]
 | 4=>[6]
 | 5=>[4,5]
 | _=>[]
def lvX22_25:Nat→List Nat
 | 0=>[0,1,3,4,7,10]
 | 1=>[1,3,4,7,10,17,18,19]
 | 2=>[1,3,4,7,10,17,18,19,20]
 | 3=>[1,3,4,7,10,12,17,18,19]
 | 4=>[1,3,4,7,10,12,13,17,18,19]
 | 5=>[1,3,4,7,10,12,13,17,18,19,31]
 | 6=>[1,3,4,7,10,12,13,17,18,19,31,32]
 | 7=>[1,3,4,7,10,12,17,18,19]
 | 8=>[1,3,4,7,10,17,18,19]
 | 9=>[1,3,4,7,10,12,13,17,18,19,31,42]
 | 10=>[1,3,4,7,10,17,18,19]
 | 11=>[1,3,4,7,10,17,18,19]
 | 12=>[1,3,4,7,10,12,13,17,18,19,31,50]
 | 13=>[1,3,4,7,10,12,17,18,19,53]
 | 14=>[1,3,4,7,10,17,18,19]
 | 15=>[1,3,4,7,10,17,18,19]
 | 16=>[1,3,4,7,10,12,13,17,18,19,68]
 | 17=>[1,3,4,7,10,12,17,18,19,71,72,73]
 | 18=>[1,3,4,7,10,12,17,18,19,71,72,73,74]
 | 19=>[1,3,4,7,10,12,16,17,18,19,71,72,73]
 | 20=>[1,3,4,7,10,12,17,18,19,71,72,73]
 | 21=>[1,3,4,7,10,12,17,18,19,71,72,73]
 | 22=>[1,3,4,7,10,17,18,19]
 | 23=>[10]
 | _=>[]
--LV=X22
def blkEs (ev:List Ev):MB:= .gen bld [.str (cat outS ev)]
@[go_sem] def chCs:AC:=locG (α:=List Ev×FieldD×St) (fun x=>[.agg (encF x.2.1),.agg (encS x.2.2),.ref 0 0]) (fun x=>blkEs x.1) (fun x=>wEs x.1+wE (.hole x.2.1 x.2.2)≤109951162777600∧stV x.2.2=true∧x.2.1.text.length≤40) (fun x r b'=>r= .tup []∧b'=blkEs (x.1++[.hole x.2.1 x.2.2]))
@[go_sem] def ctCs:AC:=locG (α:=List Ev×Bs) (fun x=>[.str x.2,.ref 0 0]) (fun x=>blkEs x.1) (fun x=>wEs x.1+wE (.txt x.2)≤109951162777600) (fun x r b'=>r= .tup []∧b'=blkEs (x.1++[.txt x.2]))
theorem ch_s:ACok Tryz.prog 26 chCs:=by
 refine locG_ok 3 (tabA_cons wstr_ok (tabA_nil (Γof_ok (tab_cons place_i (tab_cons ef_i tab_nil))))) (tab_cons place_i (tab_cons ef_i tab_nil)) mixed [] Tryz.func26 rfl rfl (by kernel_rfl) (by kernel_rfl) (fun _=>rfl) (by kernel_rfl) (fun x=>by first|rfl|simp [nmbL,PV.nmb]) (fun x=>by first|rfl|simp [go_sem,MB.nmb,nmbL,PV.nmb]) ?_
 rintro ⟨ev,⟨fn,ft,fh,fi⟩,s⟩ K ⟨hl,hv,ht⟩ hK
 dsimp only at *
 have ho:=okS_of hv
 have hpb:=placeM_bd s
 have hcl:=cat_len (g:=outS) outS_len ev
 have hel:=outS_len (.hole ⟨fn,ft,fh,fi⟩ s)
 have hol:outS (.hole ⟨fn,ft,fh,fi⟩ s)=escFor (placeM s) ft:=rfl
 rw [hol] at hel
 have hcs:cat outS (ev++[.hole ⟨fn,ft,fh,fi⟩ s])=cat outS ev++escFor (placeM s) ft:=by rw [cat_append];simp [cat,outS]
 unfold entry
 simp only [mkM,blkEs] at *
 repeat' (first|(refine s_draw 5 ?_ ?_;focus (decide +kernel))|(first|((first|apply qa1|apply qa3);(try intro K hk);focus (simp only [go_sem,Nat.reduceEqDiff,Nat.reduceAdd,Nat.reduceLeDiff,↓reduceIte,reduceCtorEq,encS_eq,ex_St,St_eta,encF_mk];first|exact rfl|((repeat refine ai ?_);intros;apply hk;clear hk K)))|apply qw8|apply qw1|apply qw6|apply qt1|apply qw9))
 ((first|refine fin_V ?_|refine fin_Ve ?_|refine fin_O ?_|refine fin_Oe ?_|refine fin_X ?_|refine fin_Xe ?_|refine fin_B ?_|refine fin_Be ?_);simp only [go_sem,MB.nmb,not_false_eq_true,↓upd_def,↓reduceIte])
 exact hK _ _ ⟨rfl,by rw [hcs]⟩
theorem ct_s:ACok Tryz.prog 30 ctCs:=by
 refine locG_ok 2 (tabA_cons wstr_ok (tabA_nil (Γof_ok tab_nil))) tab_nil mixed [] Tryz.func30 rfl rfl (by kernel_rfl) (by kernel_rfl) (fun _=>rfl) (by kernel_rfl) (fun x=>by first|rfl|simp [nmbL,PV.nmb]) (fun x=>by first|rfl|simp [go_sem,MB.nmb,nmbL,PV.nmb]) ?_
 rintro ⟨ev,t⟩ K hl hK
 dsimp only at *
 have hcl:=cat_len (g:=outS) outS_len ev
 have hel:=outS_len (.txt t)
 have hol:outS (.txt t)=t:=rfl
 rw [hol] at hel
 have hcs:cat outS (ev++[.txt t])=cat outS ev++t:=by rw [cat_append];simp [cat,outS]
 unfold entry
 simp only [mkM,blkEs] at *
 repeat' (first|((first|apply qa1);(try intro K hk);focus (simp only [go_sem,Nat.reduceEqDiff,↓reduceIte];first|exact rfl|((repeat refine ai ?_);intros;apply hk;clear hk K)))|apply qw8|apply qw6)
 ((first|refine fin_V ?_|refine fin_Ve ?_|refine fin_O ?_|refine fin_Oe ?_|refine fin_X ?_|refine fin_Xe ?_|refine fin_B ?_|refine fin_Be ?_);simp only [go_sem,MB.nmb,not_false_eq_true,↓upd_def,↓reduceIte])
 exact hK _ _ ⟨rfl,by rw [hcs]⟩
@[go_sem] def fwCs (n:Nat):AC:=locG (α:=List Ev×List PartD×List FieldD×St) (fun x=>[.seq (encPs x.2.1),.seq (encFs x.2.2.1),.agg (encS x.2.2.2),.clo 26 [.ref 0 0],.clo 30 [.ref 0 0]]) (fun x=>blkEs x.1)
 (fun x=>wtL x.2.1<n∧wtL x.2.1≤1073741824∧stV x.2.2.2=true∧(∃ d b,gdL d b x.2.1=true∧x.2.2.1.length+d≤900)∧dBd x.2.2.1∧wEs x.1+wEs (evL x.2.2.1 x.2.2.2 x.2.1).1≤109951162777600)
 (fun x r b'=>r= .agg (encS (evL x.2.2.1 x.2.2.2 x.2.1).2)∧b'=blkEs (x.1++(evL x.2.2.1 x.2.2.2 x.2.1).1))
set_option maxHeartbeats 16000000 in
theorem fw_s: ∀ n,ACok Tryz.prog 25 (fwCs n):=by
 intro n
 induction n with
 | zero=>exact locG_never ⟨_,Tryz.func25,by kernel_rfl,by kernel_rfl⟩ (fun x h=>absurd h.1 (Nat.not_lt_zero _))
 | succ n ih =>
 refine locG_ok 5 (tabA_cons ih (tabA_cons ch_s (tabA_cons ct_s (tabA_nil (Γof_ok (tab_cons fld_i (tab_cons wi_i (tab_cons after_i (tab_cons beh_i tab_nil))))))))) (tab_cons fld_i (tab_cons wi_i (tab_cons after_i (tab_cons beh_i tab_nil)))) mixed [.cell 10 48] Tryz.func25 rfl rfl (by kernel_rfl) (by kernel_rfl) (fun _=>rfl) (by kernel_rfl) (fun x=>by first|rfl|simp [nmbL,PV.nmb]) (fun x=>by first|rfl|simp [go_sem,MB.nmb,nmbL,PV.nmb]) ?_
 rintro ⟨ev,xs,data,s⟩ K ⟨hn,hb,hv,⟨d,b,hgd,hdd⟩,hdb,hle⟩ hK
 dsimp only at *
 clear ih
 have hlw:=len_le_wtL xs
 unfold entry
 repeat' (first|((first|apply qwd|apply qa1);(try intro K hk);focus (simp only [lvX22_25,mkT,go_sem,Nat.reduceEqDiff,Nat.reduceAdd,↓reduceIte,reduceCtorEq,encS_eq,encPs_length];first|exact rfl|((repeat refine ai ?_);intros;apply hk;clear hk K)))|apply qw1|refine qwc lvX22_25 ?_|apply qt1|apply qw5)
 refine s_loop (ι:=Nat) (fun k=>[(1,.seq (encFs data)),(3,.clo 26 [.ref 0 0]),(4,.clo 30 [.ref 0 0]),(7,.ref 1 0),(10,.ref 2 0),(17,.seq (encPs xs)),(18,.int .i64 xs.length),(19,.int .i64 k)]) (fun k=>[(0,blkEs (ev++(evL data s (xs.take k)).1)),(1,.box (encS (evL data s (xs.take k)).2)),(2,.box (encS st0))]) 3 (fun k=>k≤xs.length) (fun k=>xs.length - k) 0 (by omega) (Nat.zero_le _) ?_ ?_
 · simp [fits,fitsT,fitsM,upd_def,PV.nmb,nmbL,MB.nmb,mkM,blkEs,evL_nil,encS,st0]
 intro k hk
 have hvk:=stV_ev9L data (xs.take k) s hv
 simp only [mkS,mkT,mkM]
 by_cases hkl:k<xs.length
 · obtain ⟨⟨kd,t,nm,ps,os⟩,hx⟩:=get_some (xs:=xs) (k:=k) (by omega)
   have htk:=take_snoc' hx
   have ws:=wtL_split hx
   rw [wtP_mk] at ws
   have hget:=encPs_get xs
   have hs:=evL_snoc (data:=data) (s:=s) hx
   have hsp:=ev_split (data:=data) (s:=s) hx
   have hgp:=gd_mem hgd hx
   have hdeep:=gd_deep hgp
   have ho:=okS_of hvk
   have hlp:=len_le_wtL ps
   have hlo:=len_le_wtL os
   have hfb:=find_bd hdb nm
   have hfl:=fun t=>with_len data t
   have hwb:=fun t ht=> @with_bd data hdb t ht
   generalize hcur:evL data s (xs.take k)=cur at *
   obtain ⟨evk,cu⟩:=cur
   dsimp only at hs hvk ho hsp
   generalize hff:findF data nm=fq at *
   obtain ⟨fn,ft,fh,fi⟩:=fq
   dsimp only at hfb
   have hwa:=wEs_append ev evk
   by_cases k1:kd=1
   · rw [ev1 k1] at hs hsp
     have w1:wEs [Ev.txt t]=t.length+1:=by rw [wEs_one,wE_txt]
     rw [w1] at hsp
     have w2:=wE_txt t
     repeat' (first|((first|apply qwd|apply qa1|apply qa2|apply qcd);(try intro K hk);focus (simp only [lvX22_25,mkT,go_sem,Nat.reduceEqDiff,Nat.reduceAdd,Nat.reduceLeDiff,↓reduceIte,reduceCtorEq,hget,hx,encP_mk,encS_eq,encF_mk,encFs_iff,hff,k1,decide_true];first|exact rfl|((repeat refine ai ?_);intros;apply hk;clear hk K)))|apply qw1|refine qwc lvX22_25 ?_|apply qt1|apply qw5|apply qw2|apply qj1|(refine qj6 ?_ ?_<;>intro hc<;>(try simp only [hc])<;>(try simp only [decide_eq_true_eq,decide_eq_false_iff_not] at hc)<;>(try (exfalso;omega))))
     (refine qa1 fun K hk=>?_);simp only [go_sem,↓upd_def,↓evT,Nat.reduceEqDiff,↓reduceIte,↓aop];repeat (refine And.intro ?_ ?_;focus (first|omega|assumption|with_reducible rfl|(simp only [go_sem,↓upd_def,↓evT,Nat.reduceEqDiff,Nat.reduceAdd,Nat.reduceLeDiff,Nat.reduceLT,Nat.reduceSub,Int.reduceToNat,↓reduceIte,reduceCtorEq,↓aop,↓aopc,↓aopd,encPs_length,hget,hx,encP_mk,encS_eq,ex_St,St_eta,encF_mk,encFs_iff,hff];done)))
     unfold locG
     refine ⟨(ev++evk,t),0,rfl,rfl,by dsimp only;omega,?_⟩
     rintro r b' ⟨rfl,rfl⟩
     apply hk;clear hk K
     dsimp only
     repeat' (first|((first|apply qwd|apply qa1|apply qa2);(try intro K hk);focus (simp only [lvX22_25,mkT,go_sem,Nat.reduceEqDiff,Nat.reduceAdd,Nat.reduceLeDiff,↓reduceIte,reduceCtorEq,encS_eq,ex_St,St_eta];first|exact rfl|((repeat refine ai ?_);intros;apply hk;clear hk K)))|refine qwc lvX22_25 ?_|apply qt1|apply qt4)
     refine s_again (k+1) ?_ ?_ ?_<;>(first|omega|(dsimp only;omega)|skip)
     simp [fits,fitsT,fitsM,upd_def,PV.nmb,nmbL,MB.nmb,blkEs,hs,List.append_assoc,encS,st0]
   by_cases k2:kd=2
   · rw [ev2 k2,hff] at hs hsp
     have w1:wEs [Ev.hole ⟨fn,ft,fh,fi⟩ cu]=18 * ft.length+2:=by rw [wEs_one,wE_hole]
     rw [w1] at hsp
     have w2:=wE_hole ⟨fn,ft,fh,fi⟩ cu
     dsimp only at w2
     repeat' (first|((first|apply qwd|apply qa1|apply qa2|apply qcd);(try intro K hk);focus (simp only [lvX22_25,mkT,go_sem,Nat.reduceEqDiff,Nat.reduceAdd,Nat.reduceLeDiff,↓reduceIte,reduceCtorEq,hget,hx,encP_mk,encS_eq,encF_mk,encFs_iff,hff,k2,decide_true];first|exact rfl|((repeat refine ai ?_);intros;apply hk;clear hk K)))|apply qw1|refine qwc lvX22_25 ?_|apply qt1|apply qw5|apply qw2|apply qj1|apply qj4|(refine qj6 ?_ ?_<;>intro hc<;>(try simp only [hc])<;>(try simp only [decide_eq_true_eq,decide_eq_false_iff_not] at hc)<;>(try (exfalso;omega))))
     (refine qa1 fun K hk=>?_);simp only [go_sem,↓upd_def,↓evT,Nat.reduceEqDiff,↓reduceIte,↓aop,encS_eq];repeat (refine And.intro ?_ ?_;focus (first|omega|assumption|with_reducible rfl|(simp only [go_sem,↓upd_def,↓evT,Nat.reduceEqDiff,Nat.reduceAdd,Nat.reduceLeDiff,Nat.reduceLT,Nat.reduceSub,Int.reduceToNat,↓reduceIte,reduceCtorEq,↓aop,↓aopc,↓aopd,encPs_length,hget,hx,encP_mk,encS_eq,ex_St,St_eta,encF_mk,encFs_iff,hff];done)))
     unfold locG
     refine ⟨(ev++evk,⟨fn,ft,fh,fi⟩,cu),0,rfl,rfl,⟨by dsimp only;omega,hvk,hfb.1⟩,?_⟩
     rintro r b' ⟨rfl,rfl⟩
     apply hk;clear hk K
     dsimp only
     repeat' (first|((first|apply qwd|apply qa1|apply qa2);(try intro K hk);focus (simp only [lvX22_25,mkT,go_sem,Nat.reduceEqDiff,Nat.reduceAdd,Nat.reduceLeDiff,↓reduceIte,reduceCtorEq,encS_eq,ex_St,St_eta];first|exact rfl|((repeat refine ai ?_);intros;apply hk;clear hk K)))|refine qwc lvX22_25 ?_|apply qt1|apply qt4)
     refine s_again (k+1) ?_ ?_ ?_<;>(first|omega|(dsimp only;omega)|skip)
     simp [fits,fitsT,fitsM,upd_def,PV.nmb,nmbL,MB.nmb,blkEs,hs,List.append_assoc,encS,st0]
   by_cases k3:kd=3
   · obtain ⟨hd1,hd2,hd3⟩:=hdeep (.inl k3)
     have g1: ∃ d b,gdL d b ps=true∧data.length+d≤900:=⟨d - 1,false,hd2,by omega⟩
     have g2: ∃ d b,gdL d b os=true∧data.length+d≤900:=⟨d - 1,false,hd3,by omega⟩
     cases fh with
     | true =>
       rw [ev3 k3 (by rw [hff])] at hs hsp
       repeat' (first|((first|apply qwd|apply qa1|apply qa2|apply qcd);(try intro K hk);focus (simp only [lvX22_25,mkT,go_sem,Nat.reduceEqDiff,Nat.reduceAdd,Nat.reduceLeDiff,↓reduceIte,reduceCtorEq,hget,hx,encP_mk,encS_eq,encF_mk,encFs_iff,hff,k3,decide_true];first|exact rfl|((repeat refine ai ?_);intros;apply hk;clear hk K)))|apply qw1|refine qwc lvX22_25 ?_|apply qt1|apply qw5|apply qw2|apply qj1|apply qj4|(refine qj6 ?_ ?_<;>intro hc<;>(try simp only [hc])<;>(try simp only [decide_eq_true_eq,decide_eq_false_iff_not] at hc)<;>(try (exfalso;omega))))
       (refine qa1 fun K hk=>?_);simp only [go_sem,↓upd_def,↓evT,Nat.reduceEqDiff,↓reduceIte,↓aop,encS_eq];repeat (refine And.intro ?_ ?_;focus (first|omega|assumption|with_reducible rfl|(simp only [go_sem,↓upd_def,↓evT,Nat.reduceEqDiff,Nat.reduceAdd,Nat.reduceLeDiff,Nat.reduceLT,Nat.reduceSub,Int.reduceToNat,↓reduceIte,reduceCtorEq,↓aop,↓aopc,↓aopd,encPs_length,hget,hx,encP_mk,encS_eq,ex_St,St_eta,encF_mk,encFs_iff,hff];done)))
       unfold locG
       refine ⟨(ev++evk,ps,data,cu),0,rfl,rfl,⟨by dsimp only;omega,by dsimp only;omega,hvk,g1,hdb,by dsimp only;omega⟩,?_⟩
       rintro r b' ⟨rfl,rfl⟩
       apply hk;clear hk K
       dsimp only
       repeat' (first|((first|apply qwd|apply qa1|apply qa2);(try intro K hk);focus (simp only [lvX22_25,mkT,go_sem,Nat.reduceEqDiff,Nat.reduceAdd,Nat.reduceLeDiff,↓reduceIte,reduceCtorEq];first|exact rfl|((repeat refine ai ?_);intros;apply hk;clear hk K)))|refine qwc lvX22_25 ?_|apply qt1|apply qt4)
       refine s_again (k+1) ?_ ?_ ?_<;>(first|omega|(dsimp only;omega)|skip)
       simp [fits,fitsT,fitsM,upd_def,PV.nmb,nmbL,MB.nmb,blkEs,hs,List.append_assoc,encS,st0]
     | false =>
       rw [ev3o k3 (by rw [hff])] at hs hsp
       repeat' (first|((first|apply qwd|apply qa1|apply qa2|apply qcd);(try intro K hk);focus (simp only [lvX22_25,mkT,go_sem,Nat.reduceEqDiff,Nat.reduceAdd,Nat.reduceLeDiff,↓reduceIte,reduceCtorEq,hget,hx,encP_mk,encS_eq,encF_mk,encFs_iff,hff,k3,decide_true];first|exact rfl|((repeat refine ai ?_);intros;apply hk;clear hk K)))|apply qw1|refine qwc lvX22_25 ?_|apply qt1|apply qw5|apply qw2|apply qj1|apply qj4|(refine qj6 ?_ ?_<;>intro hc<;>(try simp only [hc])<;>(try simp only [decide_eq_true_eq,decide_eq_false_iff_not] at hc)<;>(try (exfalso;omega))))
       (refine qa1 fun K hk=>?_);simp only [go_sem,↓upd_def,↓evT,Nat.reduceEqDiff,↓reduceIte,↓aop,encS_eq];repeat (refine And.intro ?_ ?_;focus (first|omega|assumption|with_reducible rfl|(simp only [go_sem,↓upd_def,↓evT,Nat.reduceEqDiff,Nat.reduceAdd,Nat.reduceLeDiff,Nat.reduceLT,Nat.reduceSub,Int.reduceToNat,↓reduceIte,reduceCtorEq,↓aop,↓aopc,↓aopd,encPs_length,hget,hx,encP_mk,encS_eq,ex_St,St_eta,encF_mk,encFs_iff,hff];done)))
       unfold locG
       refine ⟨(ev++evk,os,data,cu),0,rfl,rfl,⟨by dsimp only;omega,by dsimp only;omega,hvk,g2,hdb,by dsimp only;omega⟩,?_⟩
       rintro r b' ⟨rfl,rfl⟩
       apply hk;clear hk K
       dsimp only
       repeat' (first|((first|apply qwd|apply qa1|apply qa2);(try intro K hk);focus (simp only [lvX22_25,mkT,go_sem,Nat.reduceEqDiff,Nat.reduceAdd,Nat.reduceLeDiff,↓reduceIte,reduceCtorEq];first|exact rfl|((repeat refine ai ?_);intros;apply hk;clear hk K)))|refine qwc lvX22_25 ?_|apply qt1|apply qt4)
       refine s_again (k+1) ?_ ?_ ?_<;>(first|omega|(dsimp only;omega)|skip)
       simp [fits,fitsT,fitsM,upd_def,PV.nmb,nmbL,MB.nmb,blkEs,hs,List.append_assoc,encS,st0]
   by_cases k4:kd=4
   · obtain ⟨hd1,hd2,hd3⟩:=hdeep (.inr k4)
     have g1: ∀ t,∃ d b,gdL d b ps=true∧(withF data t).length+d≤900:=fun t=>⟨d - 1,false,hd2,by have:=hfl t;omega⟩
     obtain ⟨hf1,hf2,hf3⟩:=hfb
     have hsl:=strs_length fi
     have hgs:=strK_get fi
     rw [ev4 k4,hff] at hs hsp
     dsimp only at hs hsp
     repeat' (first|((first|apply qwd|apply qa1|apply qa2|apply qcd);(try intro K hk);focus (simp only [lvX22_25,mkT,go_sem,Nat.reduceEqDiff,Nat.reduceAdd,Nat.reduceLeDiff,↓reduceIte,reduceCtorEq,hget,hx,encP_mk,encS_eq,encF_mk,encFs_iff,hff,k4,hsl,decide_true];first|exact rfl|((repeat refine ai ?_);intros;apply hk;clear hk K)))|apply qw1|refine qwc lvX22_25 ?_|apply qt1|apply qw5|apply qw2|apply qj1|apply qj4|(refine qj6 ?_ ?_<;>intro hc<;>(try simp only [hc])<;>(try simp only [decide_eq_true_eq,decide_eq_false_iff_not] at hc)<;>(try (exfalso;omega))))
     refine s_loop (ι:=Nat) (fun j=>[(1,.seq (encFs data)),(3,.clo 26 [.ref 0 0]),(4,.clo 30 [.ref 0 0]),(7,.ref 1 0),(10,.ref 2 0),(12,.ref 3 0),(17,.seq (encPs xs)),(18,.int .i64 xs.length),(19,.int .i64 k),(71,.seq (strs fi)),(72,.int .i64 fi.length),(73,.int .i64 j)])
      (fun j=>[(0,blkEs (ev++evk++evI data cu ps (fi.take j))),(1,.box (encS cu)),(2,.box (encS st0)),(3,.box [.int .i64 kd,.str t,.str nm,.seq (encPs ps),.seq (encPs os)])]) 4 (fun j=>j≤fi.length) (fun j=>fi.length - j) 0 (by omega) (Nat.zero_le _) ?_ ?_
     · simp [fits,fitsT,fitsM,upd_def,PV.nmb,nmbL,MB.nmb,blkEs,evI_nil,encS,st0,k4]
     intro j hj
     simp only [mkS,mkT,mkM]
     by_cases hjl:j<fi.length
     · obtain ⟨it,ht⟩:=get_some (xs:=fi) (k:=j) hjl
       have hi1:=hf3 it (List.mem_of_getElem? ht)
       have hi2:=hwb it hi1
       have hi3:=g1 it
       have hi4:=hfl it
       have hi5:=evI_split (data:=data) (s:=cu) (ps:=ps) ht
       have hi6:=evI_snoc (data:=data) (s:=cu) (ps:=ps) ht
       have hi7:=wEs_append (ev++evk) (evI data cu ps (fi.take j))
       repeat' (first|(refine s_draw 8 ?_ ?_;focus (decide +kernel))|(first|((first|apply qwd|apply qa1|apply qa3|apply qcd);(try intro K hk);focus (simp only [lvX22_25,mkT,go_sem,Nat.reduceEqDiff,Nat.reduceAdd,Nat.reduceLeDiff,↓reduceIte,reduceCtorEq,encS_eq,encFs_iff,hgs,ht,Option.map_some];first|exact rfl|((repeat refine ai ?_);intros;apply hk;clear hk K)))|apply qw1|refine qwc lvX22_25 ?_|apply qt1|apply qw5|apply qw2|apply qw9|apply qj1|(refine qj6 ?_ ?_<;>intro hc<;>(try simp only [hc])<;>(try simp only [decide_eq_true_eq,decide_eq_false_iff_not] at hc)<;>(try (exfalso;omega)))))
       (refine qa1 fun K hk=>?_);simp only [go_sem,↓upd_def,↓evT,Nat.reduceEqDiff,↓reduceIte,↓aop,encS_eq];repeat (refine And.intro ?_ ?_;focus (first|omega|assumption|with_reducible rfl|(simp only [go_sem,↓upd_def,↓evT,Nat.reduceEqDiff,Nat.reduceAdd,Nat.reduceLeDiff,Nat.reduceLT,Nat.reduceSub,Int.reduceToNat,↓reduceIte,reduceCtorEq,↓aop,↓aopc,↓aopd,encPs_length,hget,hx,encP_mk,encS_eq,ex_St,St_eta,encF_mk,encFs_iff,hff];done)))
       unfold locG
       refine ⟨(ev++evk++evI data cu ps (fi.take j),ps,withF data it,cu),0,rfl,rfl,⟨by dsimp only;omega,by dsimp only;omega,hvk,hi3,hi2,by dsimp only;omega⟩,?_⟩
       rintro r b' ⟨rfl,rfl⟩
       apply hk;clear hk K
       dsimp only
       repeat' (first|((first|apply qwd|apply qa1);(try intro K hk);focus (simp only [lvX22_25,mkT,go_sem,Nat.reduceEqDiff,↓reduceIte];first|exact rfl|((repeat refine ai ?_);intros;apply hk;clear hk K)))|apply qw8|refine qwc lvX22_25 ?_|apply qt1|apply qt4)
       refine s_again (j+1) ?_ ?_ ?_<;>(first|omega|(dsimp only;omega)|skip)
       simp [fits,fitsT,fitsM,upd_def,PV.nmb,nmbL,MB.nmb,blkEs,hi6,List.append_assoc,encS,st0]
     · obtain rfl:j=fi.length:=by omega
       repeat' (first|((first|apply qwd|apply qa1|apply qcd);(try intro K hk);focus (simp only [lvX22_25,mkT,go_sem,Nat.reduceEqDiff,↓reduceIte,encS_eq];first|exact rfl|((repeat refine ai ?_);intros;apply hk;clear hk K)))|apply qw1|refine qwc lvX22_25 ?_|apply qt1|apply qt2|apply qt4|apply qt5|apply qw3|apply qj4|(refine qj6 ?_ ?_<;>intro hc<;>(try simp only [hc])<;>(try simp only [decide_eq_true_eq,decide_eq_false_iff_not] at hc)<;>(try (exfalso;omega))))
       refine s_again (k+1) ?_ ?_ ?_<;>(first|omega|(dsimp only;omega)|skip)
       rw [List.take_length]
       simp [fits,fitsT,fitsM,upd_def,PV.nmb,nmbL,MB.nmb,blkEs,hs,List.append_assoc,encS,st0]
   · rw [ev0 k1 k2 k3 k4] at hs
     repeat' (first|((first|apply qwd|apply qa1|apply qa2|apply qcd);(try intro K hk);focus (simp only [lvX22_25,mkT,go_sem,Nat.reduceEqDiff,Nat.reduceAdd,Nat.reduceLeDiff,↓reduceIte,reduceCtorEq,hget,hx,encP_mk,encS_eq,encF_mk,encFs_iff,hff,k1,k2,k3,k4,decide_false];first|exact rfl|((repeat refine ai ?_);intros;apply hk;clear hk K)))|apply qw1|refine qwc lvX22_25 ?_|apply qt1|apply qw5|apply qw2|apply qt4|apply qj1|apply qj4|(refine qj6 ?_ ?_<;>intro hc<;>(try simp only [hc])<;>(try simp only [decide_eq_true_eq,decide_eq_false_iff_not] at hc)<;>(try (exfalso;omega))))
     refine s_again (k+1) ?_ ?_ ?_<;>(first|omega|(dsimp only;omega)|skip)
     simp [fits,fitsT,fitsM,upd_def,PV.nmb,nmbL,MB.nmb,blkEs,hs,encS,st0]
 · obtain rfl:k=xs.length:=by omega
   repeat' (first|((first|apply qwd|apply qa1|apply qa2|apply qcd);(try intro K hk);focus (simp only [lvX22_25,mkT,go_sem,Nat.reduceEqDiff,Nat.reduceAdd,Nat.reduceLeDiff,↓reduceIte,reduceCtorEq,encS_eq];first|exact rfl|((repeat refine ai ?_);intros;apply hk;clear hk K)))|apply qw1|refine qwc lvX22_25 ?_|apply qt1|apply qt2|apply qt5|apply qw3|apply qw4|apply qj4|(refine qj6 ?_ ?_<;>intro hc<;>(try simp only [hc])<;>(try simp only [decide_eq_true_eq,decide_eq_false_iff_not] at hc)<;>(try (exfalso;omega))))
   ((first|refine fin_V ?_|refine fin_Ve ?_|refine fin_O ?_|refine fin_Oe ?_|refine fin_X ?_|refine fin_Xe ?_|refine fin_B ?_|refine fin_Be ?_);simp only [go_sem,MB.nmb,not_false_eq_true,↓upd_def,Nat.reduceAdd,↓reduceIte,reduceCtorEq])
   rw [List.take_length] at *
   exact ⟨Nat.le_refl _,rfl,hK _ _ ⟨rfl,rfl⟩⟩
@[go_sem] def fwQs:AC:=locG (α:=List Ev×List PartD×List FieldD×St) (fun x=>[.seq (encPs x.2.1),.seq (encFs x.2.2.1),.agg (encS x.2.2.2),.clo 26 [.ref 0 0],.clo 30 [.ref 0 0]]) (fun x=>blkEs x.1)
 (fun x=>wtL x.2.1≤1073741824∧stV x.2.2.2=true∧(∃ d b,gdL d b x.2.1=true∧x.2.2.1.length+d≤900)∧dBd x.2.2.1∧wEs x.1+wEs (evL x.2.2.1 x.2.2.2 x.2.1).1≤109951162777600)
 (fun x r b'=>r= .agg (encS (evL x.2.2.1 x.2.2.2 x.2.1).2)∧b'=blkEs (x.1++(evL x.2.2.1 x.2.2.2 x.2.1).1))
theorem fwQ_s:ACok Tryz.prog 25 fwQs:=⟨(fw_s 0).fn,fun c mem n av vs K hI hn hr hC=>by
 obtain ⟨x,i,h1,h2,h3,h4⟩:=hC
 exact (fw_s (wtL x.2.1+1)).run c mem n av vs K hI hn hr ⟨x,i,h1,h2,⟨Nat.lt_succ_self _,h3⟩,h4⟩⟩
@[go_sem] def fsC:PC:=rel (α:=List PartD×List FieldD) (fun x=>[.seq (encPs x.1),.seq (encFs x.2)]) (fun x=>wtL x.1≤1073741824∧okF x.2) (fun x=> .tup [.str ((fillM x.1 x.2).getD []),.bool (fillM x.1 x.2).isSome])
theorem fs_i:PureOk Tryz.prog 7 fsC:=by
 refine pure_relA 2 (tabA_cons fwQ_s (tabA_cons bstr_ok (tabA_nil (Γof_ok (tab_cons ts_i (tab_cons dv_i tab_nil)))))) (tab_cons ts_i (tab_cons dv_i tab_nil)) mixed [.tmp 4,.tmp 5] Tryz.func7 rfl rfl (by kernel_rfl) (by kernel_rfl) (fun _=>rfl) (by kernel_rfl) ?_
 rintro ⟨xs,data⟩ K ⟨hb,hok⟩ hK
 dsimp only at *
 unfold entry
 unfold fillM at hK
 cases hp:safeM xs
 · rw [hp] at hK
   simp only [Bool.false_eq_true,false_and,if_false,Option.getD_none,Option.isSome_none] at hK
   repeat' (first|((first|apply qwd|apply qa1|apply qg1 rfl|apply qcd);(try intro K hk);focus (simp only [lvX22_7,mkT,go_sem,Nat.reduceEqDiff,↓reduceIte,reduceCtorEq,hp,Bool.not_false];first|exact rfl|((repeat refine ai ?_);intros;apply hk;clear hk K)))|apply qw1|refine qwc lvX22_7 ?_|apply qt1|apply qt3|apply qw4|apply qj1|apply qj3|apply qu1)
   ((first|refine fin_ret ?_|refine fin_end ?_);simp only [go_sem,↓upd_def,Nat.reduceEqDiff,↓reduceIte])
   exact hK
 cases hd:dataB data
 · rw [hd] at hK
   simp only [Bool.false_eq_true,and_false,if_false,Option.getD_none,Option.isSome_none] at hK
   repeat' (first|((first|apply qwd|apply qa1|apply qh1|apply qg1 rfl|apply qcd);(try intro K hk);focus (simp only [lvX22_7,mkT,go_sem,Nat.reduceEqDiff,↓reduceIte,reduceCtorEq,hp,hd,encFs_iff,Bool.not_false,Bool.not_true];first|exact rfl|((repeat refine ai ?_);intros;apply hk;clear hk K)))|apply qw1|refine qwc lvX22_7 ?_|apply qt1|apply qt3|apply qw4|apply qj1|apply qj2|apply qu1)
   ((first|refine fin_ret ?_|refine fin_end ?_);simp only [go_sem,↓upd_def,Nat.reduceEqDiff,↓reduceIte])
   exact hK
 rw [hp,hd] at hK
 simp only [and_self,if_true,Option.getD_some,Option.isSome_some] at hK
 obtain ⟨g0,g1,_,_⟩:=safe_parts hp
 have g2:=dataB_bd hd
 have g3:=dataB_len hd
 have g4:=plW_bd g1 g2 hb
 have g5: ∃ d b,gdL d b xs=true∧data.length+d≤900:=⟨_,_,g1,by omega⟩
 repeat' (first|((first|apply qwd|apply qa1|apply qh1|apply qg1 rfl|apply qcd);(try intro K hk);focus (simp only [lvX22_7,mkT,go_sem,Nat.reduceEqDiff,↓reduceIte,reduceCtorEq,hp,hd,encFs_iff,Bool.not_true,List.size_toArray];first|exact rfl|((repeat refine ai ?_);intros;apply hk;clear hk K)))|apply qw1|refine qwc lvX22_7 ?_|apply qt1|apply qw2|apply qj2|apply qj4|apply qu1)
 (refine qa1 fun K hk=>?_);simp only [go_sem,↓upd_def,↓evT,Nat.reduceEqDiff,↓reduceIte,↓aop];repeat (refine And.intro ?_ ?_;focus (first|omega|assumption|with_reducible rfl|(simp only [go_sem,↓upd_def,↓evT,Nat.reduceEqDiff,Nat.reduceAdd,Nat.reduceLeDiff,Nat.reduceLT,Nat.reduceSub,Int.reduceToNat,↓reduceIte,reduceCtorEq,↓aop,↓aopc,↓aopd,hp,hd,encFs_iff];done)))
 unfold locG
 refine ⟨([],xs,data,st0),0,rfl,rfl,⟨hb,stV_st0,g5,g2,by dsimp only;rw [wEs_nil,Nat.zero_add];exact g4⟩,?_⟩
 rintro r b' ⟨rfl,rfl⟩
 apply hk;clear hk K
 dsimp only [blkEs]
 repeat' (first|((first|apply qwd|apply qa1);(try intro K hk);focus (simp only [lvX22_7,mkT,go_sem,Nat.reduceEqDiff,↓reduceIte,reduceCtorEq,List.nil_append];first|exact rfl|((repeat refine ai ?_);intros;apply hk;clear hk K)))|apply qw1|refine qwc lvX22_7 ?_|apply qt1|apply qw4)
 ((first|refine fin_ret ?_|refine fin_end ?_);simp only [go_sem,↓upd_def,Nat.reduceEqDiff,↓reduceIte])
 exact hK
end Go.Proofs.YtnbjogilidfkdaaGreat
