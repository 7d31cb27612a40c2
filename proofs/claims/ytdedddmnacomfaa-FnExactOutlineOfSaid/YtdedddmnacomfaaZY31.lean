/- The law's walk: ExactOutlineOf. -/
import Derived.Test.YtdedddmnacomfaaZT5
import Derived.Test.YtdedddmnacomfaaZX41
import Derived.Test.YtdedddmnacomfaaZX9

namespace Go.Proofs.Ytdedddmnacomfaa
attribute [local irreducible] awp arun acalm FinP Fin AX.then AX.inBlock Again aG gsel amix amixN amixC aop aopc aopd cutK
attribute [local go_sem] aBSliceD aSlice aSliceC boundOf aMk aCall aCallC aLenL aLen aPick_t aPick_f aNil aAlloc aBox aBuild bldPV aBSlice bsPV aApp newsOf destOf drp aConvX aConv aConvInt aLoad cellsAt aStore cellsPV setAt aFld aField aIdx aIndex aUn aBin' aBin aMax aExtract pvOf PV.isCell nmbL PV.nmb List.map_cons List.map_nil List.all_cons List.all_nil Bool.and_true Bool.true_and if_true if_false List.getD_cons_zero List.getD_cons_succ List.getD_nil Option.isSome_some true_and and_true and_self eq_self true_or or_true List.drop_zero List.drop_succ_cons List.drop_nil List.take_zero List.take_succ_cons List.take_nil List.length_cons List.length_nil List.length_map Option.getD_some Option.getD_none List.nil_append List.cons_append List.append_nil Option.some.injEq exists_eq_left' List.getElem?_cons_zero List.getElem?_cons_succ Int.toNat_natCast Int.natCast_inj toNat_succ Nat.zero_add res res1 resC owns owns1 ownsC List.flatMap_cons List.flatMap_nil List.flatten_cons List.flatten_nil List.mem_cons List.not_mem_nil or_false false_or forall_eq forall_eq_or_imp isFro frz frz1 pureC tabA isBld List.cons.injEq PV.seq.injEq PV.int.injEq PV.str.injEq PV.bool.injEq PV.agg.injEq inR tab Γof aRes packR Option.map_some Option.map_none rel Prod.exists exists_and_left exists_eq_left and_assoc beq_self_eq_true Bool.not_true Bool.not_false decide_true decide_false List.set_cons_zero List.set_cons_succ rst_nil rst_cons
attribute [local go_sem ↓] evT upd_def aop aopc aopd
set_option maxRecDepth 100000
set_option linter.unusedVariables false
set_option linter.unusedSimpArgs false
open Go.RowKit
--LV=Y31
theorem outM_bd (xs : List PartD) : (outM' xs).length ≤ 2 * wtL xs ∧ ∀ t ∈ outM' xs, t.length ≤ 3 + 2 * wtL xs := by
  unfold outM'
  split
  · have := outlL_len xs []
    exact ⟨this.1, fun t ht => by have := this.2 t ht; simpa using this⟩
  · exact ⟨by simp, fun t ht => by cases ht⟩
set_option maxHeartbeats 8000000 in
theorem FnExactOutlineOf_pure : PureOk Try.prog 3 (rel (α := List PartD) (fun x => [.seq (encPs x)]) (fun x => okL x ∧ x.length ≤ 9223372036854775807) (fun _ => .bool true)) := by
  refine pure_relA 1 (tabA_cons tjT_ok (tabA_cons olM_i (tabA_cons (borT_ok eqSs_ok) (tabA_cons (borT_ok eq_c) (tabA_cons mkPT_ok (tabA_cons mkSs_ok (tabA_cons (borT_ok hlSs_ok) (tabA_cons (pureT_ok ol_s) (tabA_nil (Γof_ok (tab_cons sz_c tab_nil))))))))))) (tab_cons sz_c tab_nil) mixed [.tmp 2] Try.func3 rfl rfl (by kernel_rfl) (by kernel_rfl) (fun _ => rfl) (by kernel_rfl) ?_
  rintro xs K ⟨hok, hl⟩ hK
  have hol := outM_bd xs
  have hmn := mnL_wt xs
  unfold entry
  repeat' (first | ((first | apply qa1 | apply qa2 | apply qa3 | apply qh1 | apply qh2 | apply qg1 rfl | apply qcd); (try intro K hk); focus (simp only [go_sem, Nat.reduceEqDiff, Nat.reduceAdd, Nat.reduceLeDiff, Nat.reduceLT, Nat.reduceSub, Int.reduceToNat, ↓reduceIte, reduceCtorEq]; first | exact rfl | ((repeat (refine And.intro ?_ ?_; focus (first | omega | assumption | with_reducible rfl))); intros; apply hk; clear hk K))) | apply qw8 | apply qw1 | apply qw6 | apply qt1 | apply qw5 | apply qw2 | apply qw9 | apply qt2 | apply qt3 | apply qt4 | apply qt5 | apply qt6 | apply qw3 | apply qw4 | apply qj1 | apply qj2 | apply qj3 | apply qj4 | apply qj5 | apply qu1 | apply qu2 | (refine qj6 ?_ ?_ <;> intro hc <;> (try simp only [hc]) <;> (try simp only [decide_eq_true_eq, decide_eq_false_iff_not, Bool.not_eq_true', Bool.not_eq_false', Bool.not_eq_true, reduceCtorEq] at hc) <;> (try (exfalso; omega))) | (refine qt7 ?_ ?_; focus decide) | (refine qw7 ?_ ?_ ?_; (focus (decide +kernel)); (focus (decide +kernel))))
  · ((first | refine fin_ret ?_ | refine fin_end ?_); simp only [go_sem, ↓upd_def, Nat.reduceEqDiff, Nat.reduceAdd, ↓reduceIte, reduceCtorEq])
    exact hK
  have h1 := leftI_pos ‹_›
  have hd1 : decide (1 + (mnL xs : Int) < 0) = false := decide_eq_false (by omega)
  have hd2 : decide (1 + ((outM' xs).length : Int) < 0) = false := decide_eq_false (by omega)
  have hss : okSs (outM' xs) := ⟨by omega, fun t ht => by have := hol.2 t ht; omega⟩
  have hmk : okSs (marks 1 (outM' xs).length) = True := okSs_marks (by omega) (by omega)
  repeat' (first | ((first | apply qa1 | apply qa2 | apply qa3 | apply qh1 | apply qh2 | apply qg1 rfl | apply qcd); (try intro K hk); focus (simp only [go_sem, Nat.reduceEqDiff, Nat.reduceAdd, Nat.reduceLeDiff, Nat.reduceLT, Nat.reduceSub, Int.reduceToNat, ↓reduceIte, reduceCtorEq, newT, newL, newTB, wrtF, borT, pureT, mrkK, plainV, plainU, resT, lendM, lendG_tree, encL_iff, MB.gen.injEq, MB.row.injEq, PV.own.injEq, hd1, hd2, bne_self_eq_false, Bool.not_true, decide_true, decide_eq_true_eq, strs_inj, heldM_marks, hmk, marks_len]; first | exact rfl | ((repeat (refine And.intro ?_ ?_; focus (first | omega | assumption | with_reducible rfl))); intros; apply hk; clear hk K))) | apply qw8 | apply qw1 | apply qw6 | apply qt1 | apply qw5 | apply qw2 | apply qw9 | apply qt2 | apply qt3 | apply qt4 | apply qt5 | apply qt6 | apply qw3 | apply qw4 | apply qj1 | apply qj2 | apply qj3 | apply qj4 | apply qj5 | apply qu1 | apply qu2 | (refine qj6 ?_ ?_ <;> intro hc <;> (try simp only [hc]) <;> (try simp only [decide_eq_true_eq, decide_eq_false_iff_not, Bool.not_eq_true', Bool.not_eq_false', Bool.not_eq_true, reduceCtorEq] at hc) <;> (try (exfalso; omega))) | (refine qt7 ?_ ?_; focus decide) | (refine qw7 ?_ ?_ ?_; (focus (decide +kernel)); (focus (decide +kernel))))
  all_goals first
    | (((first | refine fin_ret ?_ | refine fin_end ?_); simp only [go_sem, ↓upd_def, Nat.reduceEqDiff, Nat.reduceAdd, ↓reduceIte, reduceCtorEq])
       exact hK)
    | skip
end Go.Proofs.Ytdedddmnacomfaa
