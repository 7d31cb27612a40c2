/- Contracts: cleaned tokens, the program's. -/
import Derived.Test.YtnbjogilidfkdaaEX55
import Derived.Test.YtnbjogilidfkdaaER14
import Derived.Test.YtnbjogilidfkdaaEX63
import Derived.Test.YtnbjogilidfkdaaEK28
import Derived.Test.YtnbjogilidfkdaaEXC

namespace Go.Proofs.Ytnbjogilidfkdaa
attribute [local irreducible] awp arun acalm FinP Fin AX.then AX.inBlock Again aG gsel amix amixN amixC aop aopc aopd cutK
attribute [local go_sem] aBSliceD aSlice aSliceC boundOf aMk aCall aCallC aLenL aLen aPick_t aPick_f aNil aAlloc aBox aBuild bldPV aBSlice bsPV aApp newsOf destOf drp aConvX aConv aConvInt aLoad cellsAt aStore cellsPV setAt aFld aField aIdx aIndex aUn aBin' aBin aMax aExtract pvOf PV.isCell nmbL PV.nmb List.map_cons List.map_nil List.all_cons List.all_nil Bool.and_true Bool.true_and if_true if_false List.getD_cons_zero List.getD_cons_succ List.getD_nil Option.isSome_some true_and and_true and_self eq_self true_or or_true List.drop_zero List.drop_succ_cons List.drop_nil List.take_zero List.take_succ_cons List.take_nil List.length_cons List.length_nil List.length_map Option.getD_some Option.getD_none List.nil_append List.cons_append List.append_nil Option.some.injEq exists_eq_left' List.getElem?_cons_zero List.getElem?_cons_succ Int.toNat_natCast Int.natCast_inj toNat_succ Nat.zero_add res res1 resC owns owns1 ownsC List.flatMap_cons List.flatMap_nil List.flatten_cons List.flatten_nil List.mem_cons List.not_mem_nil or_false false_or forall_eq forall_eq_or_imp isFro frz frz1 pureC tabA isBld List.cons.injEq PV.seq.injEq PV.int.injEq PV.str.injEq PV.bool.injEq PV.agg.injEq inR tab Γof aRes packR Option.map_some Option.map_none rel Prod.exists exists_and_left exists_eq_left and_assoc beq_self_eq_true Bool.not_true Bool.not_false decide_true decide_false List.set_cons_zero List.set_cons_succ rst_nil rst_cons
attribute [local go_sem ↓] evT upd_def aop aopc aopd
set_option maxRecDepth 100000
set_option linter.unusedVariables false
set_option linter.unusedSimpArgs false
open Go.RowKit
def lvX57_13:Nat→List Nat
 | 0=>[0]
 | 1=>[0,3]
 | 2=>[3,14,15,16]
 | 3=>[3,14,15,16,17]
 | 4=>[3,5,14,15,16]
 | 5=>[3,5,14,15,16,43]
 | 6=>[3,5,6,14,15,16]
 | 7=>[3,5,6,14,15,16,46,47,48]
 | 8=>[3,5,6,14,15,16,46,47,48,49]
 | 9=>[3,5,6,8,14,15,16,46,47,48]
 | 10=>[3,5,6,8,14,15,16,46,47,48,60]
 | 11=>[3,5,6,14,15,16,46,47,48]
 | 12=>[3,5,6,14,15,16,46,47,48]
 | 13=>[3,5,14,15,16]
 | 14=>[3,14,15,16]
 | 15=>[3,14,15,16]
 | 16=>[3,9]
 | 17=>[9,75,76,77]
 | 18=>[9,75,76,77,78]
 | 19=>[9,11,75,76,77]
 | 20=>[9,11,12,75,76,77]
 | 21=>[9,11,12,75,76,77,98]
 | 22=>[9,75,76,77]
 | 23=>[9,75,76,77]
 | 24=>[9,75,76,77]
 | 25=>[2]
 | _=>[]
--LV=X57
set_option maxHeartbeats 8000000 in
theorem cn_i:PureOk Try.prog 13 cnC:=by
 refine pure_rel 1 (tab_cons tgA_i (tab_cons pr_i (tab_cons cl_i tab_nil))) mixed [.tmp 2] Try.func13 rfl rfl (by kernel_rfl) (by kernel_rfl) (fun _=>rfl) (by kernel_rfl) ?_
 rintro l K ⟨hsm,hwf⟩ hK
 obtain ⟨hl,hall⟩:=id hsm
 have hall2: ∀ t ∈ l,t.pairs.length≤1048576:=fun t ht=>by have:=(hall t ht).2.2.1;omega
 unfold entry
 repeat' (first|((first|apply qwd|apply qa1);(try intro K hk);focus (simp only [lvX57_13,mkT,go_sem,Nat.reduceEqDiff,↓reduceIte,reduceCtorEq,encTks_len];first|exact rfl|((repeat refine ai ?_);intros;apply hk;clear hk K)))|apply qw1|refine qwc lvX57_13 ?_|apply qt1|apply qw5)
 refine s_loop (ι:=Nat) (fun k=>[(3,.own 0),(14,.seq (encTks l)),(15,.int .i64 l.length),(16,.int .i64 k)]) (fun k=>[(0,.row 29 4 (encTks (keepMk (l.take k))))]) 1 (fun k=>k≤l.length) (fun k=>l.length - k) 0 (by omega) (Nat.zero_le _) ?_ ?_
 · simp [fits,fitsT,fitsM,upd_def,PV.nmb,MB.nmb,keepMk,encTks_nil]
 intro k hk
 simp only [mkS,mkT,mkM]
 by_cases hkl:k<l.length
 · obtain ⟨⟨kd,nm,v,ps⟩,hx⟩:=get_some (xs:=l) (k:=k) hkl
   have hsk:=smTk_at hsm hx
   obtain ⟨b1,b2,b3,b4⟩:=hsk
   have hwx:=hwf _ (List.mem_of_getElem? hx)
   obtain ⟨hw1,hw2⟩:=hwx
   dsimp only at b1 b2 b3 b4 hw1 hw2
   have hg:(encTks l)[k]?=some [.int .i64 kd,.str nm,.str v,.seq (encPrs ps)]:=by rw [encTks_get,hx];rfl
   have hkm:=keepMk_snoc hx
   have hkl2:=keepMk_len (l.take k)
   rw [List.length_take] at hkl2
   rcases hw1 with rfl|rfl|rfl|rfl|rfl
   · have hps0:ps=[]:=hw2 (by decide)
     rw [if_neg (by simp [dropN])] at hkm
     repeat' (first|((first|apply qwd|apply qa1|apply qa2|apply qh1|apply qg1 rfl|apply qcd);(try intro K hk);focus (simp only [lvX57_13,mkT,go_sem,Nat.reduceEqDiff,Nat.reduceAdd,Nat.reduceLeDiff,↓reduceIte,reduceCtorEq,encPrs_len,hg,Int.reduceEq,decide_false];first|exact rfl|((repeat refine ai ?_);intros;apply hk;clear hk K)))|apply qw1|refine qwc lvX57_13 ?_|apply qt1|apply qw5|apply qw2|apply qj1|apply qj2|apply qj4|apply qu1|(refine qj6 ?_ ?_<;>intro hc<;>(try simp only [hc])<;>(try simp only [decide_eq_true_eq,decide_eq_false_iff_not] at hc)<;>(try (exfalso;omega))))
     refine s_loop (ι:=Nat) (fun j=>[(3,.own 0),(5,.ref 1 0),(6,.own 2),(14,.seq (encTks l)),(15,.int .i64 l.length),(16,.int .i64 k),(46,.seq (encPrs ps)),(47,.int .i64 ps.length),(48,.int .i64 j)]) (fun j=>[(0,.row 29 4 (encTks (keepMk (l.take k)))),(1,.box [.int .i64 1,.str nm,.str v,.seq (encPrs ps)]),(2,.row 33 2 (encPrs ((ps.take j).filter (prN nm))))]) 3 (fun j=>j≤ps.length) (fun j=>ps.length - j) 0 (by omega) (Nat.zero_le _) ?_ ?_
     · simp [fits,fitsT,fitsM,upd_def,PV.nmb,nmbL,MB.nmb,encPrs_nil]
     intro j hj
     simp only [mkS,mkT,mkM]
     by_cases hjl:j<ps.length
     · exact absurd hjl (by rw [hps0];exact Nat.not_lt_zero _)
     · obtain rfl:j=ps.length:=by omega
       rw [List.take_length]
       repeat' (first|((first|apply qwd|apply qa1|apply qa2|apply qcd);(try intro K hk);focus (simp only [lvX57_13,mkT,go_sem,Nat.reduceEqDiff,Nat.reduceAdd,Nat.reduceLeDiff,↓reduceIte,reduceCtorEq,encTks_len,encTks_pt];first|exact rfl|((repeat refine ai ?_);intros;apply hk;clear hk K)))|apply qw1|refine qwc lvX57_13 ?_|apply qt1|apply qt2|apply qt4|apply qt5|apply qw3|apply qj4|(refine qj6 ?_ ?_<;>intro hc<;>(try simp only [hc])<;>(try simp only [decide_eq_true_eq,decide_eq_false_iff_not] at hc)<;>(try (exfalso;omega))))
       refine s_againR (k+1) (fun i=>if i=0 then 4 else i) ?_ ?_ ?_ ?_ ?_ ?_<;>(first|omega|(dsimp only;omega)|(intro i hi;(try dsimp only);(repeat' split)<;>omega)|(intro i j hi hj h;(try dsimp only at h);(repeat' split at h)<;>omega)|skip)
       all_goals (simp [fitsTR,fitsMR,PV.ren,MB.ren,upd_def,PV.nmb,MB.nmb,hkm,keepT];done)
   · cases ht:tagN nm with
     | true =>
       rw [if_neg (by simp [dropN,ht])] at hkm
       repeat' (first|((first|apply qwd|apply qa1|apply qa2|apply qh1|apply qg1 rfl|apply qcd);(try intro K hk);focus (simp only [lvX57_13,mkT,go_sem,Nat.reduceEqDiff,Nat.reduceAdd,Nat.reduceLeDiff,↓reduceIte,reduceCtorEq,encPrs_len,hg,ht,Int.reduceEq,decide_true,decide_false,Bool.not_true];first|exact rfl|((repeat refine ai ?_);intros;apply hk;clear hk K)))|apply qw1|refine qwc lvX57_13 ?_|apply qt1|apply qw5|apply qw2|apply qj1|apply qj2|apply qj3|apply qj4|apply qu1|(refine qj6 ?_ ?_<;>intro hc<;>(try simp only [hc])<;>(try simp only [decide_eq_true_eq,decide_eq_false_iff_not] at hc)<;>(try (exfalso;omega))))
       refine s_loop (ι:=Nat) (fun j=>[(3,.own 0),(5,.ref 1 0),(6,.own 2),(14,.seq (encTks l)),(15,.int .i64 l.length),(16,.int .i64 k),(46,.seq (encPrs ps)),(47,.int .i64 ps.length),(48,.int .i64 j)]) (fun j=>[(0,.row 29 4 (encTks (keepMk (l.take k)))),(1,.box [.int .i64 2,.str nm,.str v,.seq (encPrs ps)]),(2,.row 33 2 (encPrs ((ps.take j).filter (prN nm))))]) 3 (fun j=>j≤ps.length) (fun j=>ps.length - j) 0 (by omega) (Nat.zero_le _) ?_ ?_
       · simp [fits,fitsT,fitsM,upd_def,PV.nmb,nmbL,MB.nmb,encPrs_nil]
       intro j hj
       simp only [mkS,mkT,mkM]
       by_cases hjl:j<ps.length
       · obtain ⟨⟨pn,pv⟩,hp⟩:=get_some (xs:=ps) (k:=j) hjl
         obtain ⟨c1,c2⟩:=b4 _ (List.mem_of_getElem? hp)
         have hpg:(encPrs ps)[j]?=some [.str pn,.str pv]:=by rw [encPrs_get,hp];rfl
         have hf:=filt_snoc (p:=prN nm) hp
         have hfl:((ps.take j).filter (prN nm)).length≤j:=Nat.le_trans (List.length_filter_le _ _) (by rw [List.length_take];omega)
         dsimp only at c1 c2
         cases hpr:prN nm (pn,pv) with
         | true =>
           have hpb:pairB nm pn pv=true:=hpr
           rw [if_pos hpr] at hf
           repeat' (first|((first|apply qwd|apply qa1|apply qa2|apply qh1|apply qg1 rfl|apply qcd);(try intro K hk);focus (simp only [lvX57_13,mkT,go_sem,Nat.reduceEqDiff,Nat.reduceAdd,Nat.reduceLeDiff,↓reduceIte,reduceCtorEq,encPrs_len,encPrs_pt,hpg,hpb,ex_2,decide_true,Bool.not_true];first|exact rfl|((repeat refine ai ?_);intros;apply hk;clear hk K)))|apply qw1|refine qwc lvX57_13 ?_|apply qt1|apply qw5|apply qw2|apply qt4|apply qj1|apply qj2|apply qu1|(refine qj6 ?_ ?_<;>intro hc<;>(try simp only [hc])<;>(try simp only [decide_eq_true_eq,decide_eq_false_iff_not] at hc)<;>(try (exfalso;omega))))
           refine s_againR (j+1) (fun i=>if i=2 then 5 else i) ?_ ?_ ?_ ?_ ?_ ?_<;>(first|omega|(dsimp only;omega)|(intro i hi;(try dsimp only);(repeat' split)<;>omega)|(intro i j hi hj h;(try dsimp only at h);(repeat' split at h)<;>omega)|skip)
           all_goals (simp [fitsTR,fitsMR,PV.ren,renL,MB.ren,upd_def,PV.nmb,nmbL,MB.nmb,hf];done)
         | false =>
           have hpb:pairB nm pn pv=false:=hpr
           rw [if_neg (by rw [hpr];decide),List.append_nil] at hf
           repeat' (first|((first|apply qwd|apply qa1|apply qa2|apply qh1|apply qg1 rfl|apply qcd);(try intro K hk);focus (simp only [lvX57_13,mkT,go_sem,Nat.reduceEqDiff,Nat.reduceAdd,Nat.reduceLeDiff,↓reduceIte,reduceCtorEq,hpg,hpb,ex_2,decide_true,Bool.not_true];first|exact rfl|((repeat refine ai ?_);intros;apply hk;clear hk K)))|apply qw1|refine qwc lvX57_13 ?_|apply qt1|apply qw5|apply qw2|apply qt4|apply qj1|apply qj2|apply qj4|apply qu1|(refine qj6 ?_ ?_<;>intro hc<;>(try simp only [hc])<;>(try simp only [decide_eq_true_eq,decide_eq_false_iff_not] at hc)<;>(try (exfalso;omega))))
           refine s_again (j+1) ?_ ?_ ?_<;>(first|omega|(dsimp only;omega)|skip)
           all_goals (simp [fits,fitsT,fitsM,upd_def,PV.nmb,nmbL,MB.nmb,hf];done)
       · obtain rfl:j=ps.length:=by omega
         rw [List.take_length]
         repeat' (first|((first|apply qwd|apply qa1|apply qa2|apply qcd);(try intro K hk);focus (simp only [lvX57_13,mkT,go_sem,Nat.reduceEqDiff,Nat.reduceAdd,Nat.reduceLeDiff,↓reduceIte,reduceCtorEq,encTks_len,encTks_pt];first|exact rfl|((repeat refine ai ?_);intros;apply hk;clear hk K)))|apply qw1|refine qwc lvX57_13 ?_|apply qt1|apply qt2|apply qt4|apply qt5|apply qw3|apply qj4|(refine qj6 ?_ ?_<;>intro hc<;>(try simp only [hc])<;>(try simp only [decide_eq_true_eq,decide_eq_false_iff_not] at hc)<;>(try (exfalso;omega))))
         refine s_againR (k+1) (fun i=>if i=0 then 4 else i) ?_ ?_ ?_ ?_ ?_ ?_<;>(first|omega|(dsimp only;omega)|(intro i hi;(try dsimp only);(repeat' split)<;>omega)|(intro i j hi hj h;(try dsimp only at h);(repeat' split at h)<;>omega)|skip)
         all_goals (simp [fitsTR,fitsMR,PV.ren,MB.ren,upd_def,PV.nmb,MB.nmb,hkm,keepT];done)
     | false =>
       rw [if_pos (by simp [dropN,ht]),List.append_nil] at hkm
       repeat' (first|((first|apply qwd|apply qa1|apply qa2|apply qh1|apply qg1 rfl|apply qcd);(try intro K hk);focus (simp only [lvX57_13,mkT,go_sem,Nat.reduceEqDiff,Nat.reduceAdd,Nat.reduceLeDiff,↓reduceIte,reduceCtorEq,hg,ht,Int.reduceEq,decide_true,decide_false,Bool.not_false];first|exact rfl|((repeat refine ai ?_);intros;apply hk;clear hk K)))|apply qw1|refine qwc lvX57_13 ?_|apply qt1|apply qw5|apply qw2|apply qt2|apply qt5|apply qw3|apply qj1|apply qj2|apply qj3|apply qu1|(refine qj6 ?_ ?_<;>intro hc<;>(try simp only [hc])<;>(try simp only [decide_eq_true_eq,decide_eq_false_iff_not] at hc)<;>(try (exfalso;omega))))
       refine s_again (k+1) ?_ ?_ ?_<;>(first|omega|(dsimp only;omega)|skip)
       all_goals (simp [fits,fitsT,fitsM,upd_def,PV.nmb,MB.nmb,hkm];done)
   · have hps0:ps=[]:=hw2 (by decide)
     cases ht:tagN nm with
     | true =>
       rw [if_neg (by simp [dropN,ht])] at hkm
       repeat' (first|((first|apply qwd|apply qa1|apply qa2|apply qh1|apply qg1 rfl|apply qcd);(try intro K hk);focus (simp only [lvX57_13,mkT,go_sem,Nat.reduceEqDiff,Nat.reduceAdd,Nat.reduceLeDiff,↓reduceIte,reduceCtorEq,encPrs_len,hg,ht,Int.reduceEq,decide_true,decide_false,Bool.not_true];first|exact rfl|((repeat refine ai ?_);intros;apply hk;clear hk K)))|apply qw1|refine qwc lvX57_13 ?_|apply qt1|apply qw5|apply qw2|apply qj1|apply qj2|apply qj4|apply qu1|(refine qj6 ?_ ?_<;>intro hc<;>(try simp only [hc])<;>(try simp only [decide_eq_true_eq,decide_eq_false_iff_not] at hc)<;>(try (exfalso;omega))))
       refine s_loop (ι:=Nat) (fun j=>[(3,.own 0),(5,.ref 1 0),(6,.own 2),(14,.seq (encTks l)),(15,.int .i64 l.length),(16,.int .i64 k),(46,.seq (encPrs ps)),(47,.int .i64 ps.length),(48,.int .i64 j)]) (fun j=>[(0,.row 29 4 (encTks (keepMk (l.take k)))),(1,.box [.int .i64 3,.str nm,.str v,.seq (encPrs ps)]),(2,.row 33 2 (encPrs ((ps.take j).filter (prN nm))))]) 3 (fun j=>j≤ps.length) (fun j=>ps.length - j) 0 (by omega) (Nat.zero_le _) ?_ ?_
       · simp [fits,fitsT,fitsM,upd_def,PV.nmb,nmbL,MB.nmb,encPrs_nil]
       intro j hj
       simp only [mkS,mkT,mkM]
       by_cases hjl:j<ps.length
       · exact absurd hjl (by rw [hps0];exact Nat.not_lt_zero _)
       · obtain rfl:j=ps.length:=by omega
         rw [List.take_length]
         repeat' (first|((first|apply qwd|apply qa1|apply qa2|apply qcd);(try intro K hk);focus (simp only [lvX57_13,mkT,go_sem,Nat.reduceEqDiff,Nat.reduceAdd,Nat.reduceLeDiff,↓reduceIte,reduceCtorEq,encTks_len,encTks_pt];first|exact rfl|((repeat refine ai ?_);intros;apply hk;clear hk K)))|apply qw1|refine qwc lvX57_13 ?_|apply qt1|apply qt2|apply qt4|apply qt5|apply qw3|apply qj4|(refine qj6 ?_ ?_<;>intro hc<;>(try simp only [hc])<;>(try simp only [decide_eq_true_eq,decide_eq_false_iff_not] at hc)<;>(try (exfalso;omega))))
         refine s_againR (k+1) (fun i=>if i=0 then 4 else i) ?_ ?_ ?_ ?_ ?_ ?_<;>(first|omega|(dsimp only;omega)|(intro i hi;(try dsimp only);(repeat' split)<;>omega)|(intro i j hi hj h;(try dsimp only at h);(repeat' split at h)<;>omega)|skip)
         all_goals (simp [fitsTR,fitsMR,PV.ren,MB.ren,upd_def,PV.nmb,MB.nmb,hkm,keepT];done)
     | false =>
       rw [if_pos (by simp [dropN,ht]),List.append_nil] at hkm
       repeat' (first|((first|apply qwd|apply qa1|apply qa2|apply qh1|apply qg1 rfl|apply qcd);(try intro K hk);focus (simp only [lvX57_13,mkT,go_sem,Nat.reduceEqDiff,Nat.reduceAdd,Nat.reduceLeDiff,↓reduceIte,reduceCtorEq,hg,ht,Int.reduceEq,decide_true,decide_false,Bool.not_false];first|exact rfl|((repeat refine ai ?_);intros;apply hk;clear hk K)))|apply qw1|refine qwc lvX57_13 ?_|apply qt1|apply qw5|apply qw2|apply qt2|apply qt5|apply qw3|apply qj1|apply qj2|apply qu1|(refine qj6 ?_ ?_<;>intro hc<;>(try simp only [hc])<;>(try simp only [decide_eq_true_eq,decide_eq_false_iff_not] at hc)<;>(try (exfalso;omega))))
       refine s_again (k+1) ?_ ?_ ?_<;>(first|omega|(dsimp only;omega)|skip)
       all_goals (simp [fits,fitsT,fitsM,upd_def,PV.nmb,MB.nmb,hkm];done)
   · rw [if_pos (by simp [dropN]),List.append_nil] at hkm
     repeat' (first|((first|apply qwd|apply qa1|apply qa2|apply qg1 rfl|apply qcd);(try intro K hk);focus (simp only [lvX57_13,mkT,go_sem,Nat.reduceEqDiff,Nat.reduceAdd,Nat.reduceLeDiff,↓reduceIte,reduceCtorEq,hg,decide_true];first|exact rfl|((repeat refine ai ?_);intros;apply hk;clear hk K)))|apply qw1|refine qwc lvX57_13 ?_|apply qt1|apply qw5|apply qw2|apply qt2|apply qt5|apply qw3|apply qj1|apply qj3|apply qj5|apply qu1|(refine qj6 ?_ ?_<;>intro hc<;>(try simp only [hc])<;>(try simp only [decide_eq_true_eq,decide_eq_false_iff_not] at hc)<;>(try (exfalso;omega))))
     refine s_again (k+1) ?_ ?_ ?_<;>(first|omega|(dsimp only;omega)|skip)
     all_goals (simp [fits,fitsT,fitsM,upd_def,PV.nmb,MB.nmb,hkm];done)
   · rw [if_pos (by simp [dropN]),List.append_nil] at hkm
     repeat' (first|((first|apply qwd|apply qa1|apply qa2|apply qh1|apply qg1 rfl|apply qcd);(try intro K hk);focus (simp only [lvX57_13,mkT,go_sem,Nat.reduceEqDiff,Nat.reduceAdd,Nat.reduceLeDiff,↓reduceIte,reduceCtorEq,hg,Int.reduceEq,decide_true,decide_false];first|exact rfl|((repeat refine ai ?_);intros;apply hk;clear hk K)))|apply qw1|refine qwc lvX57_13 ?_|apply qt1|apply qw5|apply qw2|apply qt2|apply qt5|apply qw3|apply qj1|apply qj2|apply qj3|apply qj5|apply qu1|(refine qj6 ?_ ?_<;>intro hc<;>(try simp only [hc])<;>(try simp only [decide_eq_true_eq,decide_eq_false_iff_not] at hc)<;>(try (exfalso;omega))))
     refine s_again (k+1) ?_ ?_ ?_<;>(first|omega|(dsimp only;omega)|skip)
     all_goals (simp [fits,fitsT,fitsM,upd_def,PV.nmb,MB.nmb,hkm];done)
 · obtain rfl:k=l.length:=by omega
   have hs2:=sm_keep hsm
   obtain ⟨hj1,hj2⟩:=jn_keep hs2
   rw [cleanMk_eq] at hK
   rw [List.take_length]
   repeat' (first|((first|apply qwd|apply qa1|apply qcd);(try intro K hk);focus (simp only [lvX57_13,mkT,go_sem,Nat.reduceEqDiff,Nat.reduceAdd,↓reduceIte,reduceCtorEq,encTks_len,encTks_iff];first|exact rfl|((repeat refine ai ?_);intros;apply hk;clear hk K)))|apply qw1|refine qwc lvX57_13 ?_|apply qt1|apply qw5|apply qt2|apply qt5|apply qw3|apply qj4|(refine qj6 ?_ ?_<;>intro hc<;>(try simp only [hc])<;>(try simp only [decide_eq_true_eq,decide_eq_false_iff_not] at hc)<;>(try (exfalso;omega))))
   generalize hc:closeF [] (keepMk l)=c at *
   refine s_loop (ι:=Nat) (fun k=>[(9,.own 1),(75,.seq (encTks c)),(76,.int .i64 c.length),(77,.int .i64 k)]) (fun k=>[(1,.row 29 4 (encTks ((c.take k).foldl addT [])))]) 2 (fun k=>k≤c.length∧((c.take k).foldl addT []).length≤k∧ ∀ t ∈ (c.take k).foldl addT [],t.value.length≤k * 72000) (fun k=>c.length - k) 0 (by omega) ⟨Nat.zero_le _,Nat.zero_le _,fun t h=>by cases h⟩ ?_ ?_
   · simp [fits,fitsT,fitsM,upd_def,PV.nmb,MB.nmb,encTks_nil]
   rintro k ⟨hk,hol,hov⟩
   simp only [mkS,mkT,mkM]
   by_cases hkl:k<c.length
   · obtain ⟨⟨kd,nm,v,ps⟩,hx⟩:=get_some (xs:=c) (k:=k) hkl
     have hv:v.length≤72000:=hj2 _ (List.mem_of_getElem? hx)
     have hg:(encTks c)[k]?=some [.int .i64 kd,.str nm,.str v,.seq (encPrs ps)]:=by rw [encTks_get,hx];rfl
     have hj:=joinM_snoc hx
     generalize ho:(c.take k).foldl addT []=o at *
     rcases List.eq_nil_or_concat o with rfl|⟨o',u,rfl⟩
     · have hz1:decide (((0:Nat):Int) - 1 ≥ 0)=false:=by simp
       rw [addT_nil] at hj
       repeat' (first|((first|apply qwd|apply qa1|apply qa2|apply qg1 rfl|apply qcd);(try intro K hk);focus (simp only [lvX57_13,mkT,go_sem,Nat.reduceEqDiff,Nat.reduceAdd,Nat.reduceLeDiff,↓reduceIte,reduceCtorEq,encTks_len,encTks_pt,hg,hz1,List.length_nil];first|exact rfl|((repeat refine ai ?_);intros;apply hk;clear hk K)))|apply qw1|refine qwc lvX57_13 ?_|apply qt1|apply qw5|apply qw2|apply qt4|apply qj1|apply qj4|apply qu1|(refine qj6 ?_ ?_<;>intro hc<;>(try simp only [hc])<;>(try simp only [decide_eq_true_eq,decide_eq_false_iff_not] at hc)<;>(try (exfalso;omega))))
       all_goals
        refine s_againR (k+1) (fun i=>if i=1 then 4 else i) ?_ ?_ ?_ ?_ ?_ ?_<;>(first|omega|(dsimp only;omega)|(intro i hi;(try dsimp only);(repeat' split)<;>omega)|(intro i j hi hj h;(try dsimp only at h);(repeat' split at h)<;>omega)|skip)
        all_goals first
         | (refine ⟨by omega,?_,?_⟩<;>(try rw [hj])<;>first|(simp;done)|(simp;omega))
         | (simp [fitsTR,fitsMR,PV.ren,MB.ren,upd_def,PV.nmb,MB.nmb,hj];done)
     · rw [List.concat_eq_append] at *
       rw [addT_snoc] at hj
       obtain ⟨ku,nu,vu,pu⟩:=u
       dsimp only at hj
       have hul:(o'++[(⟨ku,nu,vu,pu⟩:TokD)]).length=o'.length+1:=by simp
       rw [hul] at hol
       have hvu:vu.length≤k * 72000:=hov ⟨ku,nu,vu,pu⟩ (by simp)
       have hv1:v.length≤(k+1) * 72000:=Nat.le_trans hv (Nat.le_mul_of_pos_left _ (Nat.succ_pos k))
       have hvu1:vu.length≤(k+1) * 72000:=Nat.le_trans hvu (Nat.mul_le_mul_right _ (Nat.le_succ k))
       have hvv1:(vu++v).length≤(k+1) * 72000:=by rw [List.length_append,Nat.add_mul,Nat.one_mul];exact Nat.add_le_add hvu hv
       have hgu:=encTks_getl o' ⟨ku,nu,vu,pu⟩
       rw [encTk_mk] at hgu
       have hl1:((o'.length+1:Nat):Int) - 1=(o'.length:Int):=by omega
       have hge:decide ((o'.length:Int) ≥ 0)=true:=decide_eq_true (by omega)
       by_cases hb:kd=1∧ku=1
       · rw [if_pos hb] at hj
         obtain ⟨rfl,rfl⟩:=hb
         have hset:=encTks_setl o' ⟨1,nu,vu,pu⟩ ⟨1,nu,vu++v,pu⟩
         rw [encTk_mk] at hset
         repeat' (first|(refine qw10 [2] [0,1,3,5,6,7,9] [0,1,5,6,2,3,4,7,8,9,10] ?_ ?_;focus (decide +kernel))|(first|((first|apply qwd|apply qa1|apply qa2|apply qh1|apply qm1|apply qm2|apply qm3|apply qg1 rfl|apply qcd);(try intro K hk);focus (simp only [lvX57_13,mkT,go_sem,Nat.reduceEqDiff,Nat.reduceAdd,Nat.reduceLeDiff,↓reduceIte,reduceCtorEq,encTks_len,hg,hul,hl1,hge,hgu,hset,Int.toNat_natCast,decide_true];first|exact rfl|((repeat refine ai ?_);intros;apply hk;clear hk K)))|apply qw1|refine qwc lvX57_13 ?_|apply qt1|apply qw5|apply qw2|apply qt4|apply qj1|apply qu1|apply qne|(refine qj6 ?_ ?_<;>intro hc<;>(try simp only [hc])<;>(try simp only [decide_eq_true_eq,decide_eq_false_iff_not] at hc)<;>(try (exfalso;omega)))|(refine qk1 ?_ ?_;focus (repeat (first|exact qsub0|(refine qsub1 ?_ ?_;focus (simp only [go_sem,Nat.reduceEqDiff,↓reduceIte])))))))
         refine s_again (k+1) ?_ ?_ ?_<;>(first|omega|(dsimp only;omega)|skip)
         all_goals first
          | (refine ⟨by omega,by rw [hj];simp only [List.length_append,List.length_cons,List.length_nil];omega,?_⟩
             rw [hj]
             intro t ht
             rcases List.mem_append.1 ht with ht|ht
             · exact Nat.le_trans (hov t (List.mem_append_left _ ht)) (Nat.mul_le_mul_right _ (Nat.le_succ k))
             · obtain rfl:=List.mem_singleton.1 ht
               exact hvv1)
          | (simp [fits,fitsT,fitsM,upd_def,PV.nmb,MB.nmb,hj];done)
       · rw [if_neg hb] at hj
         repeat' (first|((first|apply qwd|apply qa1|apply qa2|apply qh1|apply qg1 rfl|apply qcd);(try intro K hk);focus (simp only [lvX57_13,mkT,go_sem,Nat.reduceEqDiff,Nat.reduceAdd,Nat.reduceLeDiff,↓reduceIte,reduceCtorEq,encTks_len,encTks_pt,hg,hul,hl1,hge,hgu,Int.toNat_natCast];first|exact rfl|((repeat refine ai ?_);intros;apply hk;clear hk K)))|apply qw1|refine qwc lvX57_13 ?_|apply qt1|apply qw5|apply qw2|apply qt4|apply qj1|apply qj4|apply qu1|(refine qj6 ?_ ?_<;>intro hc<;>(try simp only [hc])<;>(try simp only [decide_eq_true_eq,decide_eq_false_iff_not] at hc)<;>(try (exfalso;omega))))
         all_goals
          refine s_againR (k+1) (fun i=>if i=1 then 4 else i) ?_ ?_ ?_ ?_ ?_ ?_<;>(first|omega|(dsimp only;omega)|(intro i hi;(try dsimp only);(repeat' split)<;>omega)|(intro i j hi hj h;(try dsimp only at h);(repeat' split at h)<;>omega)|skip)
          all_goals first
           | (refine ⟨by omega,by rw [hj];simp only [List.length_append,List.length_cons,List.length_nil];omega,?_⟩
              rw [hj]
              intro t ht
              rcases List.mem_append.1 ht with ht|ht
              · exact Nat.le_trans (hov t (List.mem_append_left _ ht)) (Nat.mul_le_mul_right _ (Nat.le_succ k))
              · rcases List.mem_cons.1 ht with rfl|ht
                · exact hvu1
                · obtain rfl:=List.mem_singleton.1 ht
                  exact hv1)
           | (simp [fitsTR,fitsMR,PV.ren,MB.ren,upd_def,PV.nmb,MB.nmb,hj];done)
   · obtain rfl:k=c.length:=by omega
     repeat' (first|((first|apply qwd|apply qa1|apply qcd);(try intro K hk);focus (simp only [lvX57_13,mkT,go_sem,Nat.reduceEqDiff,↓reduceIte];first|exact rfl|((repeat refine ai ?_);intros;apply hk;clear hk K)))|apply qw1|refine qwc lvX57_13 ?_|apply qt1|apply qt2|apply qt5|apply qw3|apply qw4|apply qj4|(refine qj6 ?_ ?_<;>intro hc<;>(try simp only [hc])<;>(try simp only [decide_eq_true_eq,decide_eq_false_iff_not] at hc)<;>(try (exfalso;omega))))
     ((first|refine fin_ret ?_|refine fin_end ?_);simp only [go_sem,↓upd_def,↓reduceIte])
     rw [List.take_length]
     exact hK
end Go.Proofs.Ytnbjogilidfkdaa

/- The law's walk: clean tokens. -/
namespace Go.Proofs.Ytnbjogilidfkdaa
attribute [local irreducible] awp arun acalm FinP Fin AX.then AX.inBlock Again aG gsel amix amixN amixC aop aopc aopd cutK
attribute [local go_sem] aBSliceD aSlice aSliceC boundOf aMk aCall aCallC aLenL aLen aPick_t aPick_f aNil aAlloc aBox aBuild bldPV aBSlice bsPV aApp newsOf destOf drp aConvX aConv aConvInt aLoad cellsAt aStore cellsPV setAt aFld aField aIdx aIndex aUn aBin' aBin aMax aExtract pvOf PV.isCell nmbL PV.nmb List.map_cons List.map_nil List.all_cons List.all_nil Bool.and_true Bool.true_and if_true if_false List.getD_cons_zero List.getD_cons_succ List.getD_nil Option.isSome_some true_and and_true and_self eq_self true_or or_true List.drop_zero List.drop_succ_cons List.drop_nil List.take_zero List.take_succ_cons List.take_nil List.length_cons List.length_nil List.length_map Option.getD_some Option.getD_none List.nil_append List.cons_append List.append_nil Option.some.injEq exists_eq_left' List.getElem?_cons_zero List.getElem?_cons_succ Int.toNat_natCast Int.natCast_inj toNat_succ Nat.zero_add res res1 resC owns owns1 ownsC List.flatMap_cons List.flatMap_nil List.flatten_cons List.flatten_nil List.mem_cons List.not_mem_nil or_false false_or forall_eq forall_eq_or_imp isFro frz frz1 pureC tabA isBld List.cons.injEq PV.seq.injEq PV.int.injEq PV.str.injEq PV.bool.injEq PV.agg.injEq inR tab Γof aRes packR Option.map_some Option.map_none rel Prod.exists exists_and_left exists_eq_left and_assoc beq_self_eq_true Bool.not_true Bool.not_false decide_true decide_false List.set_cons_zero List.set_cons_succ rst_nil rst_cons
attribute [local go_sem ↓] evT upd_def aop aopc aopd
set_option maxRecDepth 100000
set_option linter.unusedVariables false
set_option linter.unusedSimpArgs false
open Go.RowKit
def lvY44_3:Nat→List Nat
 | 0=>[0]
 | 1=>[0,9]
 | 2=>[2]
 | 3=>[3]
 | 4=>[3,4]
 | 5=>[4,18]
 | 6=>[2]
 | 7=>[4,5]
 | 8=>[4,5,22]
 | 9=>[4,5]
 | 10=>[4,5,39]
 | 11=>[2]
 | 12=>[4,5,6]
 | 13=>[4,5,6,47]
 | 14=>[4,5,6]
 | 15=>[4,5,6,64]
 | 16=>[2]
 | 17=>[2]
 | _=>[]
def lvY44_14:Nat→List Nat
 | 0=>[0,1]
 | 1=>[0,1,11]
 | 2=>[4]
 | 3=>[0,1,5]
 | 4=>[0,1,5,15]
 | 5=>[0,1,5]
 | 6=>[0,1,5,69]
 | 7=>[4]
 | 8=>[0,1,5,6]
 | 9=>[0,1,5,6,77]
 | 10=>[0,1,5,6]
 | 11=>[0,1,5,6,96]
 | 12=>[4]
 | 13=>[4]
 | _=>[]
--LV=Y44
@[go_sem] def smtC:PC:=rel (α:=List TokD) (fun l=>[.seq (encTks l),.seq (encTks l)]) (fun l=>l.length≤1048576∧ ∀ t ∈ l,t.pairs.length≤1048576) (fun _=> .bool true)
set_option maxHeartbeats 8000000 in
theorem smt_ok:PureOk Try.prog 14 smtC:=by
 refine pure_rel 2 tab_nil mixed [.tmp 4] Try.func14 rfl rfl (by kernel_rfl) (by kernel_rfl) (fun _=>rfl) (by kernel_rfl) ?_
 rintro l K ⟨hl,hall⟩ hK
 unfold entry
 repeat' (first|((first|apply qwd|apply qa1|apply qcd);(try intro K hk);focus (simp only [lvY44_14,mkT,go_sem,Nat.reduceEqDiff,↓reduceIte,reduceCtorEq,encTks_len];first|exact rfl|((repeat refine ai ?_);intros;apply hk;clear hk K)))|apply qw1|refine qwc lvY44_14 ?_|apply qt1|apply qw5|apply qw2|apply qj4)
 refine s_loop (ι:=Nat) (fun k=>[(0,.seq (encTks l)),(1,.seq (encTks l)),(5,.int .i64 k)]) (fun _=>[]) 0 (fun k=>k≤l.length) (fun k=>l.length - k) 0 (by omega) (Nat.zero_le _) ?_ ?_
 · simp [fits,fitsT,fitsM,upd_def,PV.nmb]
 intro k hk
 simp only [mkS,mkT,mkM]
 by_cases hkl:k<l.length
 · obtain ⟨⟨kd,nm,v,ps⟩,hx⟩:=get_some (xs:=l) (k:=k) hkl
   have hpl:ps.length≤1048576:=hall _ (List.mem_of_getElem? hx)
   have hg:(encTks l)[k]?=some [.int .i64 kd,.str nm,.str v,.seq (encPrs ps)]:=by rw [encTks_get,hx];rfl
   have hkn:((k:Nat):Int).toNat=k:=Int.toNat_natCast k
   repeat' (first|((first|apply qwd|apply qa1|apply qa3|apply qh2|apply qg1 rfl|apply qcd);(try intro K hk);focus (simp only [lvY44_14,mkT,go_sem,Nat.reduceEqDiff,Nat.reduceAdd,↓reduceIte,reduceCtorEq,encTks_len,encPrs_len,hg,hkn,decide_true,Bool.not_true];first|exact rfl|((repeat refine ai ?_);intros;apply hk;clear hk K)))|apply qw1|refine qwc lvY44_14 ?_|apply qt1|apply qw5|apply qw2|apply qw9|apply qj1|apply qj2|apply qj4|apply qu2|(refine qj6 ?_ ?_<;>intro hc<;>(try simp only [hc])<;>(try simp only [decide_eq_true_eq,decide_eq_false_iff_not] at hc)<;>(try (exfalso;omega)))|(refine qw7 ?_ ?_ ?_;(focus (decide +kernel));(focus (decide +kernel))))
   refine s_loop (ι:=Nat) (fun j=>[(0,.seq (encTks l)),(1,.seq (encTks l)),(5,.int .i64 k),(6,.int .i64 j)]) (fun _=>[]) 0 (fun j=>j≤ps.length) (fun j=>ps.length - j) 0 (by omega) (Nat.zero_le _) ?_ ?_
   · simp [fits,fitsT,fitsM,upd_def,PV.nmb]
   intro j hj
   simp only [mkS,mkT,mkM]
   by_cases hjl:j<ps.length
   · obtain ⟨⟨pn,pv⟩,hp⟩:=get_some (xs:=ps) (k:=j) hjl
     have hpg:(encPrs ps)[j]?=some [.str pn,.str pv]:=by rw [encPrs_get,hp];rfl
     have hjn:((j:Nat):Int).toNat=j:=Int.toNat_natCast j
     repeat' (first|((first|apply qwd|apply qa1|apply qa3|apply qcd);(try intro K hk);focus (simp only [lvY44_14,mkT,go_sem,Nat.reduceEqDiff,Nat.reduceAdd,Nat.reduceLeDiff,↓reduceIte,reduceCtorEq,encPrs_len,hg,hkn,hjn,hpg,decide_true,Bool.not_true];first|exact rfl|((repeat refine ai ?_);intros;apply hk;clear hk K)))|apply qw1|refine qwc lvY44_14 ?_|apply qt1|apply qw5|apply qw2|apply qw9|apply qt4|apply qj1|apply qj4|(refine qj6 ?_ ?_<;>intro hc<;>(try simp only [hc])<;>(try simp only [decide_eq_true_eq,decide_eq_false_iff_not] at hc)<;>(try (exfalso;omega)))|(refine qw7 ?_ ?_ ?_;(focus (decide +kernel));(focus (decide +kernel))))
     refine s_again (j+1) ?_ ?_ ?_<;>(first|omega|(dsimp only;omega)|skip)
     all_goals (simp [fits,fitsT,fitsM,upd_def,PV.nmb];done)
   · obtain rfl:j=ps.length:=by omega
     repeat' (first|((first|apply qwd|apply qa1|apply qcd);(try intro K hk);focus (simp only [lvY44_14,mkT,go_sem,Nat.reduceEqDiff,Nat.reduceAdd,↓reduceIte,reduceCtorEq,encPrs_len,hg,hkn];first|exact rfl|((repeat refine ai ?_);intros;apply hk;clear hk K)))|apply qw1|refine qwc lvY44_14 ?_|apply qt1|apply qt2|apply qt4|apply qt5|apply qw3|apply qj4|(refine qj6 ?_ ?_<;>intro hc<;>(try simp only [hc])<;>(try simp only [decide_eq_true_eq,decide_eq_false_iff_not] at hc)<;>(try (exfalso;omega))))
     refine s_again (k+1) ?_ ?_ ?_<;>(first|omega|(dsimp only;omega)|skip)
     all_goals (simp [fits,fitsT,fitsM,upd_def,PV.nmb];done)
 · obtain rfl:k=l.length:=by omega
   repeat' (first|((first|apply qwd|apply qa1|apply qcd);(try intro K hk);focus (simp only [lvY44_14,mkT,go_sem,Nat.reduceEqDiff,↓reduceIte,reduceCtorEq,encTks_len];first|exact rfl|((repeat refine ai ?_);intros;apply hk;clear hk K)))|apply qw1|refine qwc lvY44_14 ?_|apply qt1|apply qt2|apply qt5|apply qw3|apply qw4|apply qj4|(refine qj6 ?_ ?_<;>intro hc<;>(try simp only [hc])<;>(try simp only [decide_eq_true_eq,decide_eq_false_iff_not] at hc)<;>(try (exfalso;omega))))
   ((first|refine fin_ret ?_|refine fin_end ?_);simp only [go_sem,↓upd_def,↓reduceIte])
   exact hK
set_option maxHeartbeats 8000000 in
theorem FnCleanTokens_pure:PureOk Try.prog 3 (rel (α:=Bs) (fun x=>[.seq (x.map bc)]) (fun x=>x.length≤9223372036854775807) (fun _=> .bool true)):=by
 refine pure_relA 1 (tabA_cons drwCT (tabA_nil (Γof_ok (tab_cons cn_i (tab_cons cn_s (tab_cons smt_ok (tab_cons tgA_i (tab_cons pr_i (tab_cons ba_i (tab_cons alive9 tab_nil)))))))))) (tab_cons cn_i (tab_cons cn_s (tab_cons smt_ok (tab_cons tgA_i (tab_cons pr_i (tab_cons ba_i (tab_cons alive9 tab_nil))))))) mixed [.tmp 2] Try.func3 rfl rfl (by kernel_rfl) (by kernel_rfl) (fun _=>rfl) (by kernel_rfl) ?_
 rintro l0 K hl hK
 have hba:=bc_all l0
 unfold entry
 repeat' (first|((first|apply qwd|apply qa1|apply qcd);(try intro K hk);focus (simp only [lvY44_3,mkT,go_sem,Nat.reduceEqDiff,↓reduceIte,reduceCtorEq,exl,true_and,encTks_iff];first|exact rfl|((repeat refine ai ?_);intros;apply hk;clear hk K)))|apply qw1|refine qwc lvY44_3 ?_|apply qt1|apply qw2|apply qt3|apply qw4|apply qj1|apply qj4|(refine qj6 ?_ ?_<;>intro hc<;>(try simp only [hc])<;>(try simp only [decide_eq_true_eq,decide_eq_false_iff_not] at hc)<;>(try (exfalso;omega))))
 · ((first|refine fin_ret ?_|refine fin_end ?_);simp only [go_sem,↓upd_def,↓reduceIte])
   exact hK
 rename Bs=>s
 have hl1:smTks ((tokM s).getD [])∧ ∀ t ∈ (tokM s).getD [],wfT t:=by
  cases ht:tokM s with
  | none=>exact ⟨⟨Nat.zero_le _,fun t h=>by cases h⟩,fun t h=>by cases h⟩
  | some l=>exact wf_tok ht
 have hl2:smTks (cleanMk ((tokM s).getD [])):=by
  cases ht:tokM s with
  | none=>exact ⟨Nat.zero_le _,fun t h=>by cases h⟩
  | some l=>exact sm_clean ht
 generalize (tokM s).getD []=l at *
 have hwf:wfTks l:=hl1
 have hcc:=clean_clean hl1.2
 have hbal:=clean_bal l
 have hgd:=clean_good hl1.2
 have hwc:wfTks (cleanMk l):=⟨hl2,wf_clean hl1.2⟩
 generalize hcd:cleanMk l=c at *
 obtain ⟨hcl,hca⟩:=id hl2
 have hpl: ∀ t ∈ c,t.pairs.length≤1048576:=fun t ht=>by have:=(hca t ht).2.2.1;omega
 repeat' (first|((first|apply qwd|apply qa1|apply qcd);(try intro K hk);focus (simp only [lvY44_3,mkT,go_sem,Nat.reduceEqDiff,↓reduceIte,exl,true_and,hcd,encTks_iff,Bool.not_true];first|exact rfl|((repeat refine ai ?_);intros;apply hk;clear hk K)))|apply qw1|refine qwc lvY44_3 ?_|apply qt1|apply qw5|apply qw2|apply qj4)
 refine s_loop (ι:=Nat) (fun k=>[(4,.seq (encTks c)),(5,.int .i64 k)]) (fun _=>[]) 0 (fun k=>k≤c.length) (fun k=>c.length - k) 0 (by omega) (Nat.zero_le _) ?_ ?_
 · simp [fits,fitsT,fitsM,upd_def,PV.nmb]
 intro k hk
 simp only [mkS,mkT,mkM]
 by_cases hkl:k<c.length
 · obtain ⟨⟨kd,nm,v,ps⟩,hx⟩:=get_some (xs:=c) (k:=k) hkl
   obtain ⟨b1,b2,b3,b4⟩:=smTk_at hl2 hx
   obtain ⟨g1,g2,g3⟩:=hgd _ (List.mem_of_getElem? hx)
   dsimp only at b1 b2 b3 b4 g1 g2 g3
   have hg:(encTks c)[k]?=some [.int .i64 kd,.str nm,.str v,.seq (encPrs ps)]:=by rw [encTks_get,hx];rfl
   have hkn:((k:Nat):Int).toNat=k:=Int.toNat_natCast k
   have htg:kd=1∨((kd=1)=False∧tagN nm=true):=by
    by_cases h:kd=1
    · exact .inl h
    · exact .inr ⟨eq_false h,g2 h⟩
   rcases htg with rfl|⟨hk1,htg⟩
   · repeat' (first|((first|apply qwd|apply qa1|apply qg1 rfl|apply qcd);(try intro K hk);focus (simp only [lvY44_3,mkT,go_sem,Nat.reduceEqDiff,Nat.reduceAdd,↓reduceIte,encTks_len,hg,hkn,decide_true,Bool.not_true];first|exact rfl|((repeat refine ai ?_);intros;apply hk;clear hk K)))|apply qw1|refine qwc lvY44_3 ?_|apply qt1|apply qw5|apply qw2|apply qj1|apply qj4|apply qu1|(refine qj6 ?_ ?_<;>intro hc<;>(try simp only [hc])<;>(try simp only [decide_eq_true_eq,decide_eq_false_iff_not] at hc)<;>(try (exfalso;omega))))
     refine s_loop (ι:=Nat) (fun j=>[(4,.seq (encTks c)),(5,.int .i64 k),(6,.int .i64 j)]) (fun _=>[]) 0 (fun j=>j≤ps.length) (fun j=>ps.length - j) 0 (by omega) (Nat.zero_le _) ?_ ?_
     · simp [fits,fitsT,fitsM,upd_def,PV.nmb]
     intro j hj
     simp only [mkS,mkT,mkM]
     by_cases hjl:j<ps.length
     · obtain ⟨⟨pn,pv⟩,hp⟩:=get_some (xs:=ps) (k:=j) hjl
       obtain ⟨c1,c2⟩:=b4 _ (List.mem_of_getElem? hp)
       have hpg:(encPrs ps)[j]?=some [.str pn,.str pv]:=by rw [encPrs_get,hp];rfl
       have hpb:pairB nm pn pv=true:=g3 _ (List.mem_of_getElem? hp)
       have hjn:((j:Nat):Int).toNat=j:=Int.toNat_natCast j
       dsimp only at c1 c2
       repeat' (first|((first|apply qwd|apply qa1|apply qa3|apply qcd);(try intro K hk);focus (simp only [lvY44_3,mkT,go_sem,Nat.reduceEqDiff,Nat.reduceAdd,Nat.reduceLeDiff,↓reduceIte,encPrs_len,hg,hkn,Bool.not_true,hjn,hpg,hpb,ex_3];first|exact rfl|((repeat refine ai ?_);intros;apply hk;clear hk K)))|apply qw1|refine qwc lvY44_3 ?_|apply qt1|apply qw5|apply qw2|apply qw9|apply qt4|apply qj1|apply qj4|(refine qj6 ?_ ?_<;>intro hc<;>(try simp only [hc])<;>(try simp only [decide_eq_true_eq,decide_eq_false_iff_not] at hc)<;>(try (exfalso;omega)))|(refine qw7 ?_ ?_ ?_;(focus (decide +kernel));(focus (decide +kernel))))
       refine s_again (j+1) ?_ ?_ ?_<;>(first|omega|(dsimp only;omega)|skip)
       all_goals (simp [fits,fitsT,fitsM,upd_def,PV.nmb];done)
     · obtain rfl:j=ps.length:=by omega
       repeat' (first|((first|apply qwd|apply qa1|apply qcd);(try intro K hk);focus (simp only [lvY44_3,mkT,go_sem,Nat.reduceEqDiff,Nat.reduceAdd,↓reduceIte,encPrs_len,hg,hkn];first|exact rfl|((repeat refine ai ?_);intros;apply hk;clear hk K)))|apply qw1|refine qwc lvY44_3 ?_|apply qt1|apply qt2|apply qt4|apply qt5|apply qw3|apply qj4|(refine qj6 ?_ ?_<;>intro hc<;>(try simp only [hc])<;>(try simp only [decide_eq_true_eq,decide_eq_false_iff_not] at hc)<;>(try (exfalso;omega))))
       refine s_again (k+1) ?_ ?_ ?_<;>(first|omega|(dsimp only;omega)|skip)
       all_goals (simp [fits,fitsT,fitsM,upd_def,PV.nmb];done)
   · repeat' (first|((first|apply qwd|apply qa1|apply qh1|apply qg1 rfl|apply qcd);(try intro K hk);focus (simp only [lvY44_3,mkT,go_sem,Nat.reduceEqDiff,Nat.reduceAdd,↓reduceIte,encTks_len,hg,hkn,decide_false,Bool.not_true,Bool.not_false,hk1,htg];first|exact rfl|((repeat refine ai ?_);intros;apply hk;clear hk K)))|apply qw1|refine qwc lvY44_3 ?_|apply qt1|apply qw5|apply qw2|apply qj1|apply qj4|apply qu1|(refine qj6 ?_ ?_<;>intro hc<;>(try simp only [hc])<;>(try simp only [decide_eq_true_eq,decide_eq_false_iff_not] at hc)<;>(try (exfalso;omega))))
     refine s_loop (ι:=Nat) (fun j=>[(4,.seq (encTks c)),(5,.int .i64 k),(6,.int .i64 j)]) (fun _=>[]) 0 (fun j=>j≤ps.length) (fun j=>ps.length - j) 0 (by omega) (Nat.zero_le _) ?_ ?_
     · simp [fits,fitsT,fitsM,upd_def,PV.nmb]
     intro j hj
     simp only [mkS,mkT,mkM]
     by_cases hjl:j<ps.length
     · obtain ⟨⟨pn,pv⟩,hp⟩:=get_some (xs:=ps) (k:=j) hjl
       obtain ⟨c1,c2⟩:=b4 _ (List.mem_of_getElem? hp)
       have hpg:(encPrs ps)[j]?=some [.str pn,.str pv]:=by rw [encPrs_get,hp];rfl
       have hpb:pairB nm pn pv=true:=g3 _ (List.mem_of_getElem? hp)
       have hjn:((j:Nat):Int).toNat=j:=Int.toNat_natCast j
       dsimp only at c1 c2
       repeat' (first|((first|apply qwd|apply qa1|apply qa3|apply qcd);(try intro K hk);focus (simp only [lvY44_3,mkT,go_sem,Nat.reduceEqDiff,Nat.reduceAdd,Nat.reduceLeDiff,↓reduceIte,encPrs_len,hg,hkn,Bool.not_true,hjn,hpg,hpb,ex_3];first|exact rfl|((repeat refine ai ?_);intros;apply hk;clear hk K)))|apply qw1|refine qwc lvY44_3 ?_|apply qt1|apply qw5|apply qw2|apply qw9|apply qt4|apply qj1|apply qj4|(refine qj6 ?_ ?_<;>intro hc<;>(try simp only [hc])<;>(try simp only [decide_eq_true_eq,decide_eq_false_iff_not] at hc)<;>(try (exfalso;omega)))|(refine qw7 ?_ ?_ ?_;(focus (decide +kernel));(focus (decide +kernel))))
       refine s_again (j+1) ?_ ?_ ?_<;>(first|omega|(dsimp only;omega)|skip)
       all_goals (simp [fits,fitsT,fitsM,upd_def,PV.nmb];done)
     · obtain rfl:j=ps.length:=by omega
       repeat' (first|((first|apply qwd|apply qa1|apply qcd);(try intro K hk);focus (simp only [lvY44_3,mkT,go_sem,Nat.reduceEqDiff,Nat.reduceAdd,↓reduceIte,encPrs_len,hg,hkn];first|exact rfl|((repeat refine ai ?_);intros;apply hk;clear hk K)))|apply qw1|refine qwc lvY44_3 ?_|apply qt1|apply qt2|apply qt4|apply qt5|apply qw3|apply qj4|(refine qj6 ?_ ?_<;>intro hc<;>(try simp only [hc])<;>(try simp only [decide_eq_true_eq,decide_eq_false_iff_not] at hc)<;>(try (exfalso;omega))))
       refine s_again (k+1) ?_ ?_ ?_<;>(first|omega|(dsimp only;omega)|skip)
       all_goals (simp [fits,fitsT,fitsM,upd_def,PV.nmb];done)
 · obtain rfl:k=c.length:=by omega
   repeat' (first|((first|apply qwd|apply qa1|apply qh1|apply qg1 rfl|apply qcd);(try intro K hk);focus (simp only [lvY44_3,mkT,go_sem,Nat.reduceEqDiff,↓reduceIte,exl,ex_unit9,true_and,encTks_iff,encTks_len,hbal,hcc];first|exact rfl|((repeat refine ai ?_);intros;apply hk;clear hk K)))|apply qw1|refine qwc lvY44_3 ?_|apply qt1|apply qt2|apply qt5|apply qw3|apply qw4|apply qj1|apply qj4|apply qu1|(refine qj6 ?_ ?_<;>intro hc<;>(try simp only [hc])<;>(try simp only [decide_eq_true_eq,decide_eq_false_iff_not] at hc)<;>(try (exfalso;omega))))
   all_goals first
    | (((first|refine fin_ret ?_|refine fin_end ?_);simp only [go_sem,↓upd_def,↓reduceIte])
       exact hK)
    | skip
end Go.Proofs.Ytnbjogilidfkdaa
