/- Contracts: states behind parts, the reference. -/
import Derived.Test.YtnbjogilidfkdaaGreatVS7
import Derived.Test.YtnbjogilidfkdaaGreatVS4

namespace Go.Proofs.YtnbjogilidfkdaaGreat
attribute [local irreducible] awp arun acalm FinP Fin AX.then AX.inBlock Again aG gsel amix amixN amixC aop aopc aopd cutK
attribute [local go_sem] aBSliceD aSlice aSliceC boundOf aMk aCall aCallC aLenL aLen aPick_t aPick_f aNil aAlloc aBox aBuild bldPV aBSlice bsPV aApp newsOf destOf drp aConvX aConv aConvInt aLoad cellsAt aStore cellsPV setAt aFld aField aIdx aIndex aUn aBin' aBin aMax aExtract pvOf PV.isCell nmbL PV.nmb List.map_cons List.map_nil List.all_cons List.all_nil Bool.and_true Bool.true_and if_true if_false List.getD_cons_zero List.getD_cons_succ List.getD_nil Option.isSome_some true_and and_true and_self eq_self true_or or_true List.drop_zero List.drop_succ_cons List.drop_nil List.take_zero List.take_succ_cons List.take_nil List.length_cons List.length_nil List.length_map Option.getD_some Option.getD_none List.nil_append List.cons_append List.append_nil Option.some.injEq exists_eq_left' List.getElem?_cons_zero List.getElem?_cons_succ Int.toNat_natCast Int.natCast_inj toNat_succ Nat.zero_add res res1 resC owns owns1 ownsC List.flatMap_cons List.flatMap_nil List.flatten_cons List.flatten_nil List.mem_cons List.not_mem_nil or_false false_or forall_eq forall_eq_or_imp isFro frz frz1 pureC tabA isBld List.cons.injEq PV.seq.injEq PV.int.injEq PV.str.injEq PV.bool.injEq PV.agg.injEq inR tab Γof aRes packR Option.map_some Option.map_none rel Prod.exists exists_and_left exists_eq_left and_assoc beq_self_eq_true Bool.not_true Bool.not_false decide_true decide_false List.set_cons_zero List.set_cons_succ rst_nil rst_cons
attribute [local go_sem ↓] evT upd_def aop aopc aopd
set_option maxRecDepth 100000
set_option linter.unusedVariables false
set_option linter.unusedSimpArgs false
open Go.RowKit
def lvS8_74:Nat→List Nat
 | 0=>[1,2,4]
 | 1=>[1,2,4,5]
 | 2=>[1,2,4,5,6]
 | 3=>[1,2,4,5,6,13]
 | 4=>[1,2,4,5,6]
 | 5=>[1,2,4,5,6,7]
 | 6=>[1,2,4,5,6,7,21]
 | 7=>[1,2,4,5,6,7,8]
 | 8=>[1,2,4,5,6,8,31]
 | 9=>[4]
 | 10=>[1,2,4,5,6]
 | 11=>[1,2,4,5,6,7,21,34]
 | 12=>[1,2,4,5,6]
 | 13=>[1,2,4,5,6,7,21,40]
 | 14=>[1,2,4,5,6]
 | 15=>[1,2,4,5,6,7,44]
 | 16=>[1,2,4,5,6,51]
 | 17=>[4]
 | 18=>[1,2,4,5,6,55]
 | 19=>[4]
 | 20=>[4]
 | _=>[]
--LV=S8
set_option maxHeartbeats 16000000 in
theorem chk_s: ∀ n,PureOk Tryz.prog 74 (chkC n):=by
 intro n
 induction n with
 | zero=>exact never_rel Tryz.func74 (by kernel_rfl) (by kernel_rfl) (fun x h=>by omega)
 | succ n ih =>
 refine pure_rel 2 (tab_cons ih (tab_cons after_s (tab_cons beh_s tab_nil))) mixed [.cell 4 48] Tryz.func74 rfl rfl (by kernel_rfl) (by kernel_rfl) (fun _=>rfl) (by kernel_rfl) ?_
 rintro ⟨s,xs⟩ K ⟨hn,hb,hv,d,b,hgd⟩ hK
 dsimp only at *
 clear ih
 have hlw:=len_le_wtL xs
 unfold entry
 repeat' (first|((first|apply qwd|apply qa1|apply qa2|apply qa3|apply qh1|apply qh2|apply qg1 rfl|apply qcd);(try intro K hk);focus (simp only [lvS8_74,mkT,go_sem,Nat.reduceEqDiff,Nat.reduceAdd,Nat.reduceLeDiff,Nat.reduceLT,Nat.reduceSub,Int.reduceToNat,↓reduceIte,reduceCtorEq,encS_eq,ex_St,St_eta];first|exact rfl|((repeat refine ai ?_);intros;apply hk;clear hk K)))|apply qw8|apply qw1|refine qwc lvS8_74 ?_|apply qt1|apply qw5|apply qw2|apply qw9|apply qt2|apply qt3|apply qt4|apply qt5|apply qt6|apply qw3|apply qw4|apply qj1|apply qj2|apply qj3|apply qj4|apply qj5|apply qu1|apply qu2|(refine qj6 ?_ ?_<;>intro hc<;>(try simp only [hc])<;>(try simp only [decide_eq_true_eq,decide_eq_false_iff_not,Bool.not_eq_true',Bool.not_eq_false',Bool.not_eq_true,reduceCtorEq] at hc)<;>(try (exfalso;omega)))|(refine qt7 ?_ ?_;focus decide)|(refine qw7 ?_ ?_ ?_;(focus (decide +kernel));(focus (decide +kernel))))
 refine s_loop (ι:=Nat) (fun k=>[(1,.seq (encPs xs)),(2,.ref 0 0),(4,.ref 1 0),(5,.ref 2 0),(6,.int .i64 k)]) (fun k=>[(0,.box (encS (chkL s (xs.take k)))),(1,.box (encS st0)),(2,.box (encS bad))]) 3 (fun k=>k≤xs.length) (fun k=>xs.length - k) 0 (by omega) (by omega) ?_ ?_
 · simp [fits,fitsT,fitsM,upd_def,PV.nmb,nmbL,MB.nmb,List.getD_cons_zero,List.getD_cons_succ,chkL_nil,encS,st0,bad]
 intro k hk
 have hvk:=stV_chkL (xs.take k) s hv
 simp only [mkS,mkT,mkM]
 repeat' (first|((first|apply qwd|apply qa1|apply qa2|apply qa3|apply qh1|apply qh2|apply qg1 rfl|apply qcd);(try intro K hk);focus (simp only [lvS8_74,mkT,go_sem,Nat.reduceEqDiff,Nat.reduceAdd,Nat.reduceLeDiff,Nat.reduceLT,Nat.reduceSub,Int.reduceToNat,↓reduceIte,reduceCtorEq,encS_eq,ex_St,St_eta];first|exact rfl|((repeat refine ai ?_);intros;apply hk;clear hk K)))|apply qw8|apply qw1|refine qwc lvS8_74 ?_|apply qt1|apply qw5|apply qw2|apply qw9|apply qt2|apply qt3|apply qt4|apply qt5|apply qt6|apply qw3|apply qw4|apply qj1|apply qj2|apply qj3|apply qj4|apply qj5|apply qu1|apply qu2|(refine qj6 ?_ ?_<;>intro hc<;>(try simp only [hc])<;>(try simp only [decide_eq_true_eq,decide_eq_false_iff_not,Bool.not_eq_true',Bool.not_eq_false',Bool.not_eq_true,reduceCtorEq] at hc)<;>(try (exfalso;omega)))|(refine qt7 ?_ ?_;focus decide)|(refine qw7 ?_ ?_ ?_;(focus (decide +kernel));(focus (decide +kernel))))
 · obtain ⟨⟨kd,t,nm,ps,os⟩,hx⟩:=get_some (xs:=xs) (k:=k) (by omega)
   have htk:=take_snoc' hx
   have ws:=wtL_split hx
   rw [wtP_mk] at ws
   have hget:=encPs_get xs
   obtain ⟨hkd,hgp,hgo,hg4⟩:=gd_kids (gd_mem hgd hx)
   have hsn:=chkL_snoc' hv hx
   have hst:=chkL_stop' hv hx
   rw [chkP_mk] at hsn hst
   have ho:=okS_of hvk
   have hlp:=len_le_wtL ps
   have hlo:=len_le_wtL os
   generalize hcur:chkL s (xs.take k)=cur at *
   repeat' (first|((first|apply qwd|apply qa1|apply qa2|apply qa3|apply qh1|apply qh2|apply qg1 rfl|apply qcd);(try intro K hk);focus (simp only [lvS8_74,mkT,go_sem,Nat.reduceEqDiff,Nat.reduceAdd,Nat.reduceLeDiff,Nat.reduceLT,Nat.reduceSub,Int.reduceToNat,↓reduceIte,reduceCtorEq,hget,hx,encP_mk,encS_eq,ex_St,St_eta,eqSt];first|exact rfl|((repeat refine ai ?_);intros;apply hk;clear hk K)))|apply qw8|apply qw1|refine qwc lvS8_74 ?_|apply qt1|apply qw5|apply qw2|apply qw9|apply qt2|apply qt3|apply qt4|apply qt5|apply qt6|apply qw3|apply qw4|apply qj1|apply qj2|apply qj3|apply qj4|apply qj5|apply qu1|apply qu2|(refine qj6 ?_ ?_<;>intro hc<;>(try simp only [hc])<;>(try simp only [decide_eq_true_eq,decide_eq_false_iff_not,Bool.not_eq_true',Bool.not_eq_false',Bool.not_eq_true,reduceCtorEq] at hc)<;>(try (exfalso;omega)))|(refine qt7 ?_ ?_;focus decide)|(refine qw7 ?_ ?_ ?_;(focus (decide +kernel));(focus (decide +kernel))))
   all_goals repeat' (first|refine qm0 ?_|(first|((first|apply qwd|apply qa1|apply qa2|apply qa3|apply qh1|apply qh2|apply qg1 rfl|apply qcd);(try intro K hk);focus (simp only [lvS8_74,mkT,go_sem,Nat.reduceEqDiff,Nat.reduceAdd,Nat.reduceLeDiff,Nat.reduceLT,Nat.reduceSub,Int.reduceToNat,↓reduceIte,reduceCtorEq,encS_eq,ex_St,St_eta,eqSt];first|exact rfl|((repeat refine ai ?_);intros;apply hk;clear hk K)))|apply qw8|apply qw1|refine qwc lvS8_74 ?_|apply qt1|apply qw5|apply qw2|apply qw9|apply qt2|apply qt3|apply qt4|apply qt5|apply qt6|apply qw3|apply qw4|apply qj1|apply qj2|apply qj3|apply qj4|apply qj5|apply qu1|apply qu2|(refine qj6 ?_ ?_<;>intro hc<;>(try simp only [hc])<;>(try simp only [decide_eq_true_eq,decide_eq_false_iff_not,Bool.not_eq_true',Bool.not_eq_false',Bool.not_eq_true,reduceCtorEq] at hc)<;>(try (exfalso;omega)))|(refine qt7 ?_ ?_;focus decide)|(refine qw7 ?_ ?_ ?_;(focus (decide +kernel));(focus (decide +kernel)))))
   all_goals first
    | (((first|refine fin_ret ?_|refine fin_end ?_);simp only [go_sem,↓upd_def,Nat.reduceEqDiff,Nat.reduceAdd,↓reduceIte,reduceCtorEq])
       refine ⟨by omega,K_eq hK ?_⟩
       clear hK
       rw [hst]
       · rfl
       · first
          | (rw [if_pos (by omega)];assumption)
          | (rw [if_neg (by omega),if_pos (by omega)];assumption)
          | (rw [if_neg (by omega),if_neg (by omega),if_neg (by omega),if_neg (show ¬ chkL cur ps=chkL cur os by assumption)];rfl)
          | (rw [if_neg (by omega),if_neg (by omega),if_neg (by omega),if_pos (show chkL cur ps=chkL cur os by assumption)];assumption)
          | (rw [if_neg (by omega),if_neg (by omega),if_pos (by omega),if_neg (show ¬ chkL cur ps=cur by assumption)];rfl)
          | (rw [if_neg (by omega),if_neg (by omega),if_pos (by omega),if_pos (show chkL cur ps=cur by assumption)];assumption))
    | (refine s_again (k+1) ?_ ?_ ?_<;>(first|omega|(dsimp only;omega)|skip)
       have hS:=hsn
       first
        | rw [if_pos (show kd=1 by omega),if_neg (show ¬ (afterS cur t).mode=15 by assumption)] at hS
        | rw [if_neg (show ¬ kd=1 by omega),if_pos (show kd=2 by omega),if_neg (show ¬ (behindM cur).mode=15 by assumption)] at hS
        | rw [if_neg (show ¬ kd=1 by omega),if_neg (show ¬ kd=2 by omega),if_neg (show ¬ kd=4 by omega),if_pos (show chkL cur ps=chkL cur os by assumption),if_neg (show ¬ (chkL cur ps).mode=15 by assumption)] at hS
        | rw [if_neg (show ¬ kd=1 by omega),if_neg (show ¬ kd=2 by omega),if_pos (show kd=4 by omega),if_pos (show chkL cur ps=cur by assumption),if_neg (show ¬ cur.mode=15 by assumption)] at hS
       simp [fits,fitsT,fitsM,upd_def,PV.nmb,nmbL,MB.nmb,List.getD_cons_zero,List.getD_cons_succ,hS,encS,st0,bad])
    | skip
 · obtain rfl:k=xs.length:=by omega
   rw [List.take_length] at *
   ((first|refine fin_ret ?_|refine fin_end ?_);simp only [go_sem,↓upd_def,Nat.reduceEqDiff,Nat.reduceAdd,↓reduceIte,reduceCtorEq])
   exact ⟨by omega,hK⟩
end Go.Proofs.YtnbjogilidfkdaaGreat
