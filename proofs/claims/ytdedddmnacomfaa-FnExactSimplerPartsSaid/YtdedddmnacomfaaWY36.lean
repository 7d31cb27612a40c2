/- The law's walk: SimplerParts, exactly. -/
import Derived.Test.YtdedddmnacomfaaWT9
import Derived.Test.YtdedddmnacomfaaWY2

namespace Go.Proofs.Ytdedddmnacomfaa
attribute [local irreducible] awp arun acalm FinP Fin AX.then AX.inBlock Again aG gsel amix amixN amixC aop aopc aopd cutK
attribute [local go_sem] aBSliceD aSlice aSliceC boundOf aMk aCall aCallC aLenL aLen aPick_t aPick_f aNil aAlloc aBox aBuild bldPV aBSlice bsPV aApp newsOf destOf drp aConvX aConv aConvInt aLoad cellsAt aStore cellsPV setAt aFld aField aIdx aIndex aUn aBin' aBin aMax aExtract pvOf PV.isCell nmbL PV.nmb List.map_cons List.map_nil List.all_cons List.all_nil Bool.and_true Bool.true_and if_true if_false List.getD_cons_zero List.getD_cons_succ List.getD_nil Option.isSome_some true_and and_true and_self eq_self true_or or_true List.drop_zero List.drop_succ_cons List.drop_nil List.take_zero List.take_succ_cons List.take_nil List.length_cons List.length_nil List.length_map Option.getD_some Option.getD_none List.nil_append List.cons_append List.append_nil Option.some.injEq exists_eq_left' List.getElem?_cons_zero List.getElem?_cons_succ Int.toNat_natCast Int.natCast_inj toNat_succ Nat.zero_add res res1 resC owns owns1 ownsC List.flatMap_cons List.flatMap_nil List.flatten_cons List.flatten_nil List.mem_cons List.not_mem_nil or_false false_or forall_eq forall_eq_or_imp isFro frz frz1 pureC tabA isBld List.cons.injEq PV.seq.injEq PV.int.injEq PV.str.injEq PV.bool.injEq PV.agg.injEq inR tab Γof aRes packR Option.map_some Option.map_none rel Prod.exists exists_and_left exists_eq_left and_assoc beq_self_eq_true Bool.not_true Bool.not_false decide_true decide_false List.set_cons_zero List.set_cons_succ rst_nil rst_cons
attribute [local go_sem ↓] evT upd_def aop aopc aopd
set_option maxRecDepth 100000
set_option linter.unusedVariables false
set_option linter.unusedSimpArgs false
open Go.RowKit
--LV=Y36
theorem simM_wt {xs r : List PartD} (h : simM xs = some r) : wtL r ≤ wtL xs := by
  unfold simM at h
  split at h
  · exact wt_smG h
  · cases h
theorem okL_wt : ∀ {xs : List PartD}, wtL xs ≤ 9223372036854775807 → okL xs
  | [], _ => by unfold okL; trivial
  | .mk k t n ps os :: xs, h => by
    have h1 := @okL_wt ps
    have h2 := @okL_wt os
    have h3 := @okL_wt xs
    have l1 := len_le_wtL ps
    have l2 := len_le_wtL os
    rw [wtL, wtP_mk] at h
    unfold okL
    rw [okP_mk]
    exact ⟨⟨by omega, by omega, by omega, by omega, h1 (by omega), h2 (by omega)⟩, h3 (by omega)⟩
set_option maxHeartbeats 8000000 in
theorem FnExactSimplerParts_pure : PureOk Try.prog 4 (rel (α := List PartD) (fun x => [.seq (encPs x)]) (fun x => okL x ∧ x.length ≤ 9223372036854775807) (fun _ => .bool true)) := by
  refine pure_relA 1 (tabA_cons tjT_ok (tabA_cons spT_i (tabA_cons (borT_ok eq_c) (tabA_cons mkPX_ok (tabA_cons (borT_ok hlPQ_ok) (tabA_cons (pureT_ok sp_s) (tabA_nil (Γof_ok (tab_cons sz_c tab_nil))))))))) (tab_cons sz_c tab_nil) mixed [.tmp 2] Try.func4 rfl rfl (by kernel_rfl) (by kernel_rfl) (fun _ => rfl) (by kernel_rfl) ?_
  rintro xs K ⟨hok, hl⟩ hK
  have hmn := mnL_wt xs
  have hm1 := mrL_mr
  have hm2 := mnL_mr
  unfold entry
  repeat' (first | ((first | apply qa1 | apply qa2 | apply qa3 | apply qh1 | apply qh2 | apply qg1 rfl | apply qcd); (try intro K hk); focus (simp only [go_sem, Nat.reduceEqDiff, Nat.reduceAdd, Nat.reduceLeDiff, Nat.reduceLT, Nat.reduceSub, Int.reduceToNat, ↓reduceIte, reduceCtorEq]; first | exact rfl | ((repeat (refine And.intro ?_ ?_; focus (first | omega | assumption | with_reducible rfl))); intros; apply hk; clear hk K))) | apply qw8 | apply qw1 | apply qw6 | apply qt1 | apply qw5 | apply qw2 | apply qw9 | apply qt2 | apply qt3 | apply qt4 | apply qt5 | apply qt6 | apply qw3 | apply qw4 | apply qj1 | apply qj2 | apply qj3 | apply qj4 | apply qj5 | apply qu1 | apply qu2 | (refine qj6 ?_ ?_ <;> intro hc <;> (try simp only [hc]) <;> (try simp only [decide_eq_true_eq, decide_eq_false_iff_not, Bool.not_eq_true', Bool.not_eq_false', Bool.not_eq_true, reduceCtorEq] at hc) <;> (try (exfalso; omega))) | (refine qt7 ?_ ?_; focus decide) | (refine qw7 ?_ ?_ ?_; (focus (decide +kernel)); (focus (decide +kernel))))
  · ((first | refine fin_ret ?_ | refine fin_end ?_); simp only [go_sem, ↓upd_def, Nat.reduceEqDiff, Nat.reduceAdd, ↓reduceIte, reduceCtorEq])
    exact hK
  have h1 := leftI_pos ‹_›
  have hd1 : decide (1 + (mnL xs : Int) < 0) = false := decide_eq_false (by omega)
  cases hsm : simM xs with
  | none =>
    repeat' (first | ((first | apply qa1 | apply qa2 | apply qa3 | apply qh1 | apply qh2 | apply qg1 rfl | apply qcd); (try intro K hk); focus (simp only [go_sem, Nat.reduceEqDiff, Nat.reduceAdd, Nat.reduceLeDiff, Nat.reduceLT, Nat.reduceSub, Int.reduceToNat, ↓reduceIte, reduceCtorEq, newT, borT, pureT, mrkK, plainV, plainU, resT, lendM, lendG_tree, encL_iff, MB.gen.injEq, PV.own.injEq, hsm, Option.getD_none, Option.isSome_none, hd1, bne_self_eq_false, Bool.not_true, decide_true]; first | exact rfl | ((repeat (refine And.intro ?_ ?_; focus (first | omega | assumption | with_reducible rfl))); intros; apply hk; clear hk K))) | apply qw8 | apply qw1 | apply qw6 | apply qt1 | apply qw5 | apply qw2 | apply qw9 | apply qt2 | apply qt3 | apply qt4 | apply qt5 | apply qt6 | apply qw3 | apply qw4 | apply qj1 | apply qj2 | apply qj3 | apply qj4 | apply qj5 | apply qu1 | apply qu2 | (refine qj6 ?_ ?_ <;> intro hc <;> (try simp only [hc]) <;> (try simp only [decide_eq_true_eq, decide_eq_false_iff_not, Bool.not_eq_true', Bool.not_eq_false', Bool.not_eq_true, reduceCtorEq] at hc) <;> (try (exfalso; omega))) | (refine qt7 ?_ ?_; focus decide) | (refine qw7 ?_ ?_ ?_; (focus (decide +kernel)); (focus (decide +kernel))))
    (refine qa1 fun K hk => ?_); simp only [go_sem, ↓upd_def, ↓evT, Nat.reduceEqDiff, Nat.reduceAdd, Nat.reduceLeDiff, Nat.reduceLT, Nat.reduceSub, Int.reduceToNat, ↓reduceIte, reduceCtorEq, ↓aop, ↓aopc, ↓aopd, newT, borT, pureT, mrkK, plainV, plainU, resT, lendM, lendG_tree, encL_iff, MB.gen.injEq, PV.own.injEq, hsm, Option.getD_none, Option.isSome_none, hd1, bne_self_eq_false, Bool.not_true, decide_true]; repeat (refine And.intro ?_ ?_; focus (first | omega | assumption | with_reducible rfl | (simp only [go_sem, ↓upd_def, ↓evT, Nat.reduceEqDiff, Nat.reduceAdd, Nat.reduceLeDiff, Nat.reduceLT, Nat.reduceSub, Int.reduceToNat, ↓reduceIte, reduceCtorEq, ↓aop, ↓aopc, ↓aopd, newT, borT, pureT, mrkK, plainV, plainU, resT, lendM, lendG_tree, encL_iff, MB.gen.injEq, PV.own.injEq, hsm, Option.getD_none, Option.isSome_none, hd1, bne_self_eq_false, Bool.not_true, decide_true]; done)))
    unfold spT newTB
    refine ⟨xs, by simp [resT, lendM, upd, lendG_tree], by omega, (fun q N h => by dsimp only at h; rw [hsm] at h; cases h), (fun _ => ?_)⟩
    apply hk; clear hk K
    have z1 : mrL ([] : List PartD) 1 = [] := mrL_nil 1
    have z2 : mnL ([] : List PartD) = 0 := mnL_nil
    have z3 : wtL ([] : List PartD) = 0 := wtL_nil
    have z4 : okL ([] : List PartD) := by unfold okL; trivial
    have z5 : ∀ x : List PartD, ([] = encPs x) = (x = []) := fun x => by rw [← encPs_nil, encPs_iff]; exact propext ⟨fun h => h.symm, fun h => h.symm⟩
    repeat' (first | ((first | apply qa1 | apply qa2 | apply qa3 | apply qh1 | apply qh2 | apply qg1 rfl | apply qcd); (try intro K hk); focus (simp only [go_sem, Nat.reduceEqDiff, Nat.reduceAdd, Nat.reduceLeDiff, Nat.reduceLT, Nat.reduceSub, Int.reduceToNat, ↓reduceIte, reduceCtorEq, newT, borT, pureT, mrkK, plainV, plainU, resT, lendM, lendG_tree, encL_iff, MB.gen.injEq, PV.own.injEq, hsm, z1, z2, z5, Option.getD_none, Option.isSome_none, hd1, eqB_rfl, bne_self_eq_false, Bool.not_true, decide_true]; first | exact rfl | ((repeat (refine And.intro ?_ ?_; focus (first | omega | assumption | with_reducible rfl))); intros; apply hk; clear hk K))) | apply qw8 | apply qw1 | apply qw6 | apply qt1 | apply qw5 | apply qw2 | apply qw9 | apply qt2 | apply qt3 | apply qt4 | apply qt5 | apply qt6 | apply qw3 | apply qw4 | apply qj1 | apply qj2 | apply qj3 | apply qj4 | apply qj5 | apply qu1 | apply qu2 | (refine qj6 ?_ ?_ <;> intro hc <;> (try simp only [hc]) <;> (try simp only [decide_eq_true_eq, decide_eq_false_iff_not, Bool.not_eq_true', Bool.not_eq_false', Bool.not_eq_true, reduceCtorEq] at hc) <;> (try (exfalso; omega))) | (refine qt7 ?_ ?_; focus decide) | (refine qw7 ?_ ?_ ?_; (focus (decide +kernel)); (focus (decide +kernel))))
    (refine qa1 fun K hk => ?_); simp only [go_sem, ↓upd_def, ↓evT, Nat.reduceEqDiff, Nat.reduceAdd, Nat.reduceLeDiff, Nat.reduceLT, Nat.reduceSub, Int.reduceToNat, ↓reduceIte, reduceCtorEq, ↓aop, ↓aopc, ↓aopd, newT, borT, pureT, mrkK, plainV, plainU, resT, lendM, lendG_tree, encL_iff, MB.gen.injEq, PV.own.injEq, hsm, z1, z2, z5, Option.getD_none, Option.isSome_none, hd1, eqB_rfl, bne_self_eq_false, Bool.not_true, decide_true]; repeat (refine And.intro ?_ ?_; focus (first | omega | assumption | with_reducible rfl | (simp only [go_sem, ↓upd_def, ↓evT, Nat.reduceEqDiff, Nat.reduceAdd, Nat.reduceLeDiff, Nat.reduceLT, Nat.reduceSub, Int.reduceToNat, ↓reduceIte, reduceCtorEq, ↓aop, ↓aopc, ↓aopd, newT, borT, pureT, mrkK, plainV, plainU, resT, lendM, lendG_tree, encL_iff, MB.gen.injEq, PV.own.injEq, hsm, z1, z2, z5, Option.getD_none, Option.isSome_none, hd1, eqB_rfl, bne_self_eq_false, Bool.not_true, decide_true]; done)))
    unfold spT newTB
    refine ⟨xs, by simp [resT, lendM, upd, lendG_tree], by omega, (fun q N h => by dsimp only at h; rw [hsm] at h; cases h), (fun _ => ?_)⟩
    apply hk; clear hk K
    repeat' (first | ((first | apply qa1 | apply qa2 | apply qa3 | apply qh1 | apply qh2 | apply qg1 rfl | apply qcd); (try intro K hk); focus (simp only [go_sem, Nat.reduceEqDiff, Nat.reduceAdd, Nat.reduceLeDiff, Nat.reduceLT, Nat.reduceSub, Int.reduceToNat, ↓reduceIte, reduceCtorEq, newT, borT, pureT, mrkK, plainV, plainU, resT, lendM, lendG_tree, encL_iff, MB.gen.injEq, PV.own.injEq, hsm, z1, z2, z5, Option.getD_none, Option.isSome_none, hd1, eqB_rfl, bne_self_eq_false, Bool.not_true, decide_true]; first | exact rfl | ((repeat (refine And.intro ?_ ?_; focus (first | omega | assumption | with_reducible rfl))); intros; apply hk; clear hk K))) | apply qw8 | apply qw1 | apply qw6 | apply qt1 | apply qw5 | apply qw2 | apply qw9 | apply qt2 | apply qt3 | apply qt4 | apply qt5 | apply qt6 | apply qw3 | apply qw4 | apply qj1 | apply qj2 | apply qj3 | apply qj4 | apply qj5 | apply qu1 | apply qu2 | (refine qj6 ?_ ?_ <;> intro hc <;> (try simp only [hc]) <;> (try simp only [decide_eq_true_eq, decide_eq_false_iff_not, Bool.not_eq_true', Bool.not_eq_false', Bool.not_eq_true, reduceCtorEq] at hc) <;> (try (exfalso; omega))) | (refine qt7 ?_ ?_; focus decide) | (refine qw7 ?_ ?_ ?_; (focus (decide +kernel)); (focus (decide +kernel))))
    all_goals first
      | (((first | refine fin_ret ?_ | refine fin_end ?_); simp only [go_sem, ↓upd_def, Nat.reduceEqDiff, Nat.reduceAdd, ↓reduceIte, reduceCtorEq])
         exact hK)
      | skip
  | some r =>
    have hwr := simM_wt hsm
    have hmr := mnL_wt r
    have hokr : okL r := okL_wt (by omega)
    have hlr := len_le_wtL r
    repeat' (first | ((first | apply qa1 | apply qa2 | apply qa3 | apply qh1 | apply qh2 | apply qg1 rfl | apply qcd); (try intro K hk); focus (simp only [go_sem, Nat.reduceEqDiff, Nat.reduceAdd, Nat.reduceLeDiff, Nat.reduceLT, Nat.reduceSub, Int.reduceToNat, ↓reduceIte, reduceCtorEq, newT, borT, pureT, mrkK, plainV, plainU, resT, lendM, lendG_tree, encL_iff, MB.gen.injEq, PV.own.injEq, hsm, Option.getD_some, Option.isSome_some, hd1, bne_self_eq_false, Bool.not_true, decide_true]; first | exact rfl | ((repeat (refine And.intro ?_ ?_; focus (first | omega | assumption | with_reducible rfl))); intros; apply hk; clear hk K))) | apply qw8 | apply qw1 | apply qw6 | apply qt1 | apply qw5 | apply qw2 | apply qw9 | apply qt2 | apply qt3 | apply qt4 | apply qt5 | apply qt6 | apply qw3 | apply qw4 | apply qj1 | apply qj2 | apply qj3 | apply qj4 | apply qj5 | apply qu1 | apply qu2 | (refine qj6 ?_ ?_ <;> intro hc <;> (try simp only [hc]) <;> (try simp only [decide_eq_true_eq, decide_eq_false_iff_not, Bool.not_eq_true', Bool.not_eq_false', Bool.not_eq_true, reduceCtorEq] at hc) <;> (try (exfalso; omega))) | (refine qt7 ?_ ?_; focus decide) | (refine qw7 ?_ ?_ ?_; (focus (decide +kernel)); (focus (decide +kernel))))
    (refine qa1 fun K hk => ?_); simp only [go_sem, ↓upd_def, ↓evT, Nat.reduceEqDiff, Nat.reduceAdd, Nat.reduceLeDiff, Nat.reduceLT, Nat.reduceSub, Int.reduceToNat, ↓reduceIte, reduceCtorEq, ↓aop, ↓aopc, ↓aopd, newT, borT, pureT, mrkK, plainV, plainU, resT, lendM, lendG_tree, encL_iff, MB.gen.injEq, PV.own.injEq, hsm, Option.getD_some, Option.isSome_some, hd1, bne_self_eq_false, Bool.not_true, decide_true]; repeat (refine And.intro ?_ ?_; focus (first | omega | assumption | with_reducible rfl | (simp only [go_sem, ↓upd_def, ↓evT, Nat.reduceEqDiff, Nat.reduceAdd, Nat.reduceLeDiff, Nat.reduceLT, Nat.reduceSub, Int.reduceToNat, ↓reduceIte, reduceCtorEq, ↓aop, ↓aopc, ↓aopd, newT, borT, pureT, mrkK, plainV, plainU, resT, lendM, lendG_tree, encL_iff, MB.gen.injEq, PV.own.injEq, hsm, Option.getD_some, Option.isSome_some, hd1, bne_self_eq_false, Bool.not_true, decide_true]; done)))
    unfold spT newTB
    refine ⟨xs, by simp [resT, lendM, upd, lendG_tree], by omega, ?_, (fun h => by dsimp only at h; rw [hsm] at h; cases h)⟩
    intro q N hq
    dsimp only at hq
    rw [hsm] at hq
    obtain rfl : encPs r = q := by simpa using hq
    apply hk; clear hk K
    repeat' (first | ((first | apply qa1 | apply qa2 | apply qa3 | apply qh1 | apply qh2 | apply qg1 rfl | apply qcd); (try intro K hk); focus (simp only [go_sem, Nat.reduceEqDiff, Nat.reduceAdd, Nat.reduceLeDiff, Nat.reduceLT, Nat.reduceSub, Int.reduceToNat, ↓reduceIte, reduceCtorEq, newT, borT, pureT, mrkK, plainV, plainU, resT, lendM, lendG_tree, encL_iff, MB.gen.injEq, PV.own.injEq, hsm, Option.getD_some, Option.isSome_some, hd1, hm1, hm2, bne_self_eq_false, Bool.not_true, decide_true]; first | exact rfl | ((repeat (refine And.intro ?_ ?_; focus (first | omega | assumption | with_reducible rfl))); intros; apply hk; clear hk K))) | apply qw8 | apply qw1 | apply qw6 | apply qt1 | apply qw5 | apply qw2 | apply qw9 | apply qt2 | apply qt3 | apply qt4 | apply qt5 | apply qt6 | apply qw3 | apply qw4 | apply qj1 | apply qj2 | apply qj3 | apply qj4 | apply qj5 | apply qu1 | apply qu2 | (refine qj6 ?_ ?_ <;> intro hc <;> (try simp only [hc]) <;> (try simp only [decide_eq_true_eq, decide_eq_false_iff_not, Bool.not_eq_true', Bool.not_eq_false', Bool.not_eq_true, reduceCtorEq] at hc) <;> (try (exfalso; omega))) | (refine qt7 ?_ ?_; focus decide) | (refine qw7 ?_ ?_ ?_; (focus (decide +kernel)); (focus (decide +kernel))))
    (refine qa1 fun K hk => ?_); simp only [go_sem, ↓upd_def, ↓evT, Nat.reduceEqDiff, Nat.reduceAdd, Nat.reduceLeDiff, Nat.reduceLT, Nat.reduceSub, Int.reduceToNat, ↓reduceIte, reduceCtorEq, ↓aop, ↓aopc, ↓aopd, newT, borT, pureT, mrkK, plainV, plainU, resT, lendM, lendG_tree, encL_iff, MB.gen.injEq, PV.own.injEq, hsm, Option.getD_some, Option.isSome_some, hd1, hm1, hm2, bne_self_eq_false, Bool.not_true, decide_true]; repeat (refine And.intro ?_ ?_; focus (first | omega | assumption | with_reducible rfl | (simp only [go_sem, ↓upd_def, ↓evT, Nat.reduceEqDiff, Nat.reduceAdd, Nat.reduceLeDiff, Nat.reduceLT, Nat.reduceSub, Int.reduceToNat, ↓reduceIte, reduceCtorEq, ↓aop, ↓aopc, ↓aopd, newT, borT, pureT, mrkK, plainV, plainU, resT, lendM, lendG_tree, encL_iff, MB.gen.injEq, PV.own.injEq, hsm, Option.getD_some, Option.isSome_some, hd1, hm1, hm2, bne_self_eq_false, Bool.not_true, decide_true]; done)))
    unfold spT newTB
    refine ⟨xs, by simp [resT, lendM, upd, lendG_tree], by omega, ?_, (fun h => by dsimp only at h; rw [hsm] at h; cases h)⟩
    intro q N hq
    dsimp only at hq
    rw [hsm] at hq
    obtain rfl : encPs r = q := by simpa using hq
    apply hk; clear hk K
    repeat' (first | ((first | apply qa1 | apply qa2 | apply qa3 | apply qh1 | apply qh2 | apply qg1 rfl | apply qcd); (try intro K hk); focus (simp only [go_sem, Nat.reduceEqDiff, Nat.reduceAdd, Nat.reduceLeDiff, Nat.reduceLT, Nat.reduceSub, Int.reduceToNat, ↓reduceIte, reduceCtorEq, newT, borT, pureT, mrkK, plainV, plainU, resT, lendM, lendG_tree, encL_iff, MB.gen.injEq, PV.own.injEq, hsm, Option.getD_some, Option.isSome_some, hd1, hm1, hm2, bne_self_eq_false, Bool.not_true, decide_true]; first | exact rfl | ((repeat (refine And.intro ?_ ?_; focus (first | omega | assumption | with_reducible rfl))); intros; apply hk; clear hk K))) | apply qw8 | apply qw1 | apply qw6 | apply qt1 | apply qw5 | apply qw2 | apply qw9 | apply qt2 | apply qt3 | apply qt4 | apply qt5 | apply qt6 | apply qw3 | apply qw4 | apply qj1 | apply qj2 | apply qj3 | apply qj4 | apply qj5 | apply qu1 | apply qu2 | (refine qj6 ?_ ?_ <;> intro hc <;> (try simp only [hc]) <;> (try simp only [decide_eq_true_eq, decide_eq_false_iff_not, Bool.not_eq_true', Bool.not_eq_false', Bool.not_eq_true, reduceCtorEq] at hc) <;> (try (exfalso; omega))) | (refine qt7 ?_ ?_; focus decide) | (refine qw7 ?_ ?_ ?_; (focus (decide +kernel)); (focus (decide +kernel))))
    all_goals first
      | (((first | refine fin_ret ?_ | refine fin_end ?_); simp only [go_sem, ↓upd_def, Nat.reduceEqDiff, Nat.reduceAdd, ↓reduceIte, reduceCtorEq])
         exact hK)
      | skip
end Go.Proofs.Ytdedddmnacomfaa

/- The law's walk: InsertParts, exactly. -/
namespace Go.Proofs.Ytdedddmnacomfaa
attribute [local irreducible] awp arun acalm FinP Fin AX.then AX.inBlock Again aG gsel amix amixN amixC aop aopc aopd cutK
attribute [local go_sem] aBSliceD aSlice aSliceC boundOf aMk aCall aCallC aLenL aLen aPick_t aPick_f aNil aAlloc aBox aBuild bldPV aBSlice bsPV aApp newsOf destOf drp aConvX aConv aConvInt aLoad cellsAt aStore cellsPV setAt aFld aField aIdx aIndex aUn aBin' aBin aMax aExtract pvOf PV.isCell nmbL PV.nmb List.map_cons List.map_nil List.all_cons List.all_nil Bool.and_true Bool.true_and if_true if_false List.getD_cons_zero List.getD_cons_succ List.getD_nil Option.isSome_some true_and and_true and_self eq_self true_or or_true List.drop_zero List.drop_succ_cons List.drop_nil List.take_zero List.take_succ_cons List.take_nil List.length_cons List.length_nil List.length_map Option.getD_some Option.getD_none List.nil_append List.cons_append List.append_nil Option.some.injEq exists_eq_left' List.getElem?_cons_zero List.getElem?_cons_succ Int.toNat_natCast Int.natCast_inj toNat_succ Nat.zero_add res res1 resC owns owns1 ownsC List.flatMap_cons List.flatMap_nil List.flatten_cons List.flatten_nil List.mem_cons List.not_mem_nil or_false false_or forall_eq forall_eq_or_imp isFro frz frz1 pureC tabA isBld List.cons.injEq PV.seq.injEq PV.int.injEq PV.str.injEq PV.bool.injEq PV.agg.injEq inR tab Γof aRes packR Option.map_some Option.map_none rel Prod.exists exists_and_left exists_eq_left and_assoc beq_self_eq_true Bool.not_true Bool.not_false decide_true decide_false List.set_cons_zero List.set_cons_succ rst_nil rst_cons
attribute [local go_sem ↓] evT upd_def aop aopc aopd
set_option maxRecDepth 100000
set_option linter.unusedVariables false
set_option linter.unusedSimpArgs false
open Go.RowKit
--LV=Y37
/-- InsertParts of the reference, of any weights. -/
def inpX : PC := rel (α := List PartD × Bs × List PartD) (fun x => [.seq (encPs x.1), .str x.2.1, .seq (encPs x.2.2)]) (fun x => wtL x.1 ≤ 1048576 ∧ wtL x.2.2 ≤ 1048576 ∧ x.2.1.length ≤ 1048576) (fun x => .tup [.seq (encPs ((insM x.1 x.2.1 x.2.2).getD [])), .bool (insM x.1 x.2.1 x.2.2).isSome])
theorem ip_sX : PureOk Try.prog 23 inpX := by
  refine pure_rel 3 (tab_cons pv_s (tab_cons name_s (tab_cons ins_sc (tab_cons sr_sc (tab_cons ow_c tab_nil))))) mixed [.tmp 6, .tmp 7] Try.func23 rfl rfl (by kernel_rfl) (by kernel_rfl) (fun _ => rfl) (by kernel_rfl) ?_
  rintro ⟨xs, m, o⟩ K ⟨hb1, hb2, hm⟩ hK
  dsimp only at *
  have hlw := len_le_wtL xs
  have hlo := len_le_wtL o
  unfold entry
  cases hp : partsB xs
  · have hn : insM xs m o = none := by unfold insM; rw [if_neg (fun h => by rw [hp] at h; cases h.1)]
    rw [hn] at hK
    repeat' (first | ((first | apply qa1 | apply qa2 | apply qa3 | apply qh1 | apply qh2 | apply qg1 rfl | apply qcd); (try intro K hk); focus (simp only [go_sem, Nat.reduceEqDiff, Nat.reduceAdd, Nat.reduceLeDiff, Nat.reduceLT, Nat.reduceSub, Int.reduceToNat, ↓reduceIte, reduceCtorEq, hp, Bool.not_false, Bool.not_true]; first | exact rfl | ((repeat (refine And.intro ?_ ?_; focus (first | omega | assumption | with_reducible rfl))); intros; apply hk; clear hk K))) | apply qw8 | apply qw1 | apply qw6 | apply qt1 | apply qw5 | apply qw2 | apply qw9 | apply qt2 | apply qt3 | apply qt4 | apply qt5 | apply qt6 | apply qw3 | apply qw4 | apply qj1 | apply qj2 | apply qj3 | apply qj4 | apply qj5 | apply qu1 | apply qu2 | (refine qj6 ?_ ?_ <;> intro hc <;> (try simp only [hc]) <;> (try simp only [decide_eq_true_eq, decide_eq_false_iff_not, Bool.not_eq_true', Bool.not_eq_false', Bool.not_eq_true, reduceCtorEq] at hc) <;> (try (exfalso; omega))) | (refine qt7 ?_ ?_; focus decide) | (refine qw7 ?_ ?_ ?_; (focus (decide +kernel)); (focus (decide +kernel))))
    ((first | refine fin_ret ?_ | refine fin_end ?_); simp only [go_sem, ↓upd_def, Nat.reduceEqDiff, Nat.reduceAdd, ↓reduceIte, reduceCtorEq])
    exact hK
  cases hnm : nameB m
  · have hn : insM xs m o = none := by unfold insM; rw [if_neg (fun h => by rw [hnm] at h; cases h.2.1)]
    rw [hn] at hK
    repeat' (first | ((first | apply qa1 | apply qa2 | apply qa3 | apply qh1 | apply qh2 | apply qg1 rfl | apply qcd); (try intro K hk); focus (simp only [go_sem, Nat.reduceEqDiff, Nat.reduceAdd, Nat.reduceLeDiff, Nat.reduceLT, Nat.reduceSub, Int.reduceToNat, ↓reduceIte, reduceCtorEq, hp, hnm, Bool.not_false, Bool.not_true]; first | exact rfl | ((repeat (refine And.intro ?_ ?_; focus (first | omega | assumption | with_reducible rfl))); intros; apply hk; clear hk K))) | apply qw8 | apply qw1 | apply qw6 | apply qt1 | apply qw5 | apply qw2 | apply qw9 | apply qt2 | apply qt3 | apply qt4 | apply qt5 | apply qt6 | apply qw3 | apply qw4 | apply qj1 | apply qj2 | apply qj3 | apply qj4 | apply qj5 | apply qu1 | apply qu2 | (refine qj6 ?_ ?_ <;> intro hc <;> (try simp only [hc]) <;> (try simp only [decide_eq_true_eq, decide_eq_false_iff_not, Bool.not_eq_true', Bool.not_eq_false', Bool.not_eq_true, reduceCtorEq] at hc) <;> (try (exfalso; omega))) | (refine qt7 ?_ ?_; focus decide) | (refine qw7 ?_ ?_ ?_; (focus (decide +kernel)); (focus (decide +kernel))))
    all_goals
      ((first | refine fin_ret ?_ | refine fin_end ?_); simp only [go_sem, ↓upd_def, Nat.reduceEqDiff, Nat.reduceAdd, ↓reduceIte, reduceCtorEq])
      exact hK
  cases hq : partsB o
  · have hn : insM xs m o = none := by unfold insM; rw [if_neg (fun h => by rw [hq] at h; cases h.2.2)]
    rw [hn] at hK
    repeat' (first | ((first | apply qa1 | apply qa2 | apply qa3 | apply qh1 | apply qh2 | apply qg1 rfl | apply qcd); (try intro K hk); focus (simp only [go_sem, Nat.reduceEqDiff, Nat.reduceAdd, Nat.reduceLeDiff, Nat.reduceLT, Nat.reduceSub, Int.reduceToNat, ↓reduceIte, reduceCtorEq, hp, hnm, hq, Bool.not_false, Bool.not_true]; first | exact rfl | ((repeat (refine And.intro ?_ ?_; focus (first | omega | assumption | with_reducible rfl))); intros; apply hk; clear hk K))) | apply qw8 | apply qw1 | apply qw6 | apply qt1 | apply qw5 | apply qw2 | apply qw9 | apply qt2 | apply qt3 | apply qt4 | apply qt5 | apply qt6 | apply qw3 | apply qw4 | apply qj1 | apply qj2 | apply qj3 | apply qj4 | apply qj5 | apply qu1 | apply qu2 | (refine qj6 ?_ ?_ <;> intro hc <;> (try simp only [hc]) <;> (try simp only [decide_eq_true_eq, decide_eq_false_iff_not, Bool.not_eq_true', Bool.not_eq_false', Bool.not_eq_true, reduceCtorEq] at hc) <;> (try (exfalso; omega))) | (refine qt7 ?_ ?_; focus decide) | (refine qw7 ?_ ?_ ?_; (focus (decide +kernel)); (focus (decide +kernel))))
    ((first | refine fin_ret ?_ | refine fin_end ?_); simp only [go_sem, ↓upd_def, Nat.reduceEqDiff, Nat.reduceAdd, ↓reduceIte, reduceCtorEq])
    exact hK
  have hb := ins_bd hp hq
  have hw := isL_wt m o xs
  have hwi : wtL (isL m o xs) ≤ 1073741824 := Nat.le_trans hw hb
  have hwr := wt_srG (isL m o xs) []
  rw [wtL_nil] at hwr
  have hir := ins_ref xs m o
  have hls := len_le_wtL (srG [] (isL m o xs))
  repeat' (first | ((first | apply qa1 | apply qa2 | apply qa3 | apply qh1 | apply qh2 | apply qg1 rfl | apply qcd); (try intro K hk); focus (simp only [go_sem, Nat.reduceEqDiff, Nat.reduceAdd, Nat.reduceLeDiff, Nat.reduceLT, Nat.reduceSub, Int.reduceToNat, ↓reduceIte, reduceCtorEq, hp, hnm, hq, Bool.not_true]; first | exact rfl | ((repeat (refine And.intro ?_ ?_; focus (first | omega | assumption | with_reducible rfl))); intros; apply hk; clear hk K))) | apply qw8 | apply qw1 | apply qw6 | apply qt1 | apply qw5 | apply qw2 | apply qw9 | apply qt2 | apply qt3 | apply qt4 | apply qt5 | apply qt6 | apply qw3 | apply qw4 | apply qj1 | apply qj2 | apply qj3 | apply qj4 | apply qj5 | apply qu1 | apply qu2 | (refine qj6 ?_ ?_ <;> intro hc <;> (try simp only [hc]) <;> (try simp only [decide_eq_true_eq, decide_eq_false_iff_not, Bool.not_eq_true', Bool.not_eq_false', Bool.not_eq_true, reduceCtorEq] at hc) <;> (try (exfalso; omega))) | (refine qt7 ?_ ?_; focus decide) | (refine qw7 ?_ ?_ ?_; (focus (decide +kernel)); (focus (decide +kernel))))
  all_goals
    ((first | refine fin_ret ?_ | refine fin_end ?_); simp only [go_sem, ↓upd_def, Nat.reduceEqDiff, Nat.reduceAdd, ↓reduceIte, reduceCtorEq])
    refine K_eq hK ?_
    first
      | (rw [← hir ⟨by assumption, by assumption, by assumption⟩]; simp [encPs_nil, *]; done)
      | (unfold insM; simp [encPs_nil, *]; done)
      | skip
theorem insM_wt {xs o r : List PartD} {m : Bs} (h : insM xs m o = some r) : wtL r ≤ 18330 := by
  unfold insM at h
  split at h
  · split at h
    · split at h
      · cases h; exact partsB_wt ‹_›
      · cases h
    · cases h
  · cases h
set_option maxHeartbeats 8000000 in
theorem FnExactInsertParts_pure : PureOk Try.prog 5 (rel (α := List PartD × Bs × List PartD) (fun x => [.seq (encPs x.1), .str x.2.1, .seq (encPs x.2.2)]) (fun x => (okL x.1 ∧ x.1.length ≤ 9223372036854775807) ∧ x.2.1.length ≤ 9223372036854775807 ∧ (okL x.2.2 ∧ x.2.2.length ≤ 9223372036854775807)) (fun _ => .bool true)) := by
  refine pure_relA 3 (tabA_cons tjT_ok (tabA_cons ipT_i (tabA_cons (borT_ok eq_c) (tabA_cons mkPX_ok (tabA_cons (borT_ok hlPQ_ok) (tabA_cons (pureT_ok ip_sX) (tabA_nil (Γof_ok (tab_cons sz_c tab_nil))))))))) (tab_cons sz_c tab_nil) mixed [.tmp 6] Try.func5 rfl rfl (by kernel_rfl) (by kernel_rfl) (fun _ => rfl) (by kernel_rfl) ?_
  rintro ⟨xs, m, o⟩ K ⟨⟨hok, hl⟩, hml, hoo, hol⟩ hK
  dsimp only at *
  have hmn := mnL_wt xs
  have hmo := mnL_wt o
  have hm1 := mrL_mr
  have hm2 := mnL_mr
  unfold entry
  repeat' (first | ((first | apply qa1 | apply qa2 | apply qa3 | apply qh1 | apply qh2 | apply qg1 rfl | apply qcd); (try intro K hk); focus (simp only [go_sem, Nat.reduceEqDiff, Nat.reduceAdd, Nat.reduceLeDiff, Nat.reduceLT, Nat.reduceSub, Int.reduceToNat, ↓reduceIte, reduceCtorEq]; first | exact rfl | ((repeat (refine And.intro ?_ ?_; focus (first | omega | assumption | with_reducible rfl))); intros; apply hk; clear hk K))) | apply qw8 | apply qw1 | apply qw6 | apply qt1 | apply qw5 | apply qw2 | apply qw9 | apply qt2 | apply qt3 | apply qt4 | apply qt5 | apply qt6 | apply qw3 | apply qw4 | apply qj1 | apply qj2 | apply qj3 | apply qj4 | apply qj5 | apply qu1 | apply qu2 | (refine qj6 ?_ ?_ <;> intro hc <;> (try simp only [hc]) <;> (try simp only [decide_eq_true_eq, decide_eq_false_iff_not, Bool.not_eq_true', Bool.not_eq_false', Bool.not_eq_true, reduceCtorEq] at hc) <;> (try (exfalso; omega))) | (refine qt7 ?_ ?_; focus decide) | (refine qw7 ?_ ?_ ?_; (focus (decide +kernel)); (focus (decide +kernel))))
  · ((first | refine fin_ret ?_ | refine fin_end ?_); simp only [go_sem, ↓upd_def, Nat.reduceEqDiff, Nat.reduceAdd, ↓reduceIte, reduceCtorEq])
    exact hK
  · ((first | refine fin_ret ?_ | refine fin_end ?_); simp only [go_sem, ↓upd_def, Nat.reduceEqDiff, Nat.reduceAdd, ↓reduceIte, reduceCtorEq])
    exact hK
  have h1 := leftI_pos ‹_›
  repeat' (first | ((first | apply qa1 | apply qa2 | apply qa3 | apply qh1 | apply qh2 | apply qg1 rfl | apply qcd); (try intro K hk); focus (simp only [go_sem, Nat.reduceEqDiff, Nat.reduceAdd, Nat.reduceLeDiff, Nat.reduceLT, Nat.reduceSub, Int.reduceToNat, ↓reduceIte, reduceCtorEq]; first | exact rfl | ((repeat (refine And.intro ?_ ?_; focus (first | omega | assumption | with_reducible rfl))); intros; apply hk; clear hk K))) | apply qw8 | apply qw1 | apply qw6 | apply qt1 | apply qw5 | apply qw2 | apply qw9 | apply qt2 | apply qt3 | apply qt4 | apply qt5 | apply qt6 | apply qw3 | apply qw4 | apply qj1 | apply qj2 | apply qj3 | apply qj4 | apply qj5 | apply qu1 | apply qu2 | (refine qj6 ?_ ?_ <;> intro hc <;> (try simp only [hc]) <;> (try simp only [decide_eq_true_eq, decide_eq_false_iff_not, Bool.not_eq_true', Bool.not_eq_false', Bool.not_eq_true, reduceCtorEq] at hc) <;> (try (exfalso; omega))) | (refine qt7 ?_ ?_; focus decide) | (refine qw7 ?_ ?_ ?_; (focus (decide +kernel)); (focus (decide +kernel))))
  · ((first | refine fin_ret ?_ | refine fin_end ?_); simp only [go_sem, ↓upd_def, Nat.reduceEqDiff, Nat.reduceAdd, ↓reduceIte, reduceCtorEq])
    exact hK
  have h2 := leftI_pos ‹_›
  have hd1 : decide (1 + (mnL xs : Int) + (mnL o : Int) < 0) = false := decide_eq_false (by omega)
  have hB1 : wtL xs ≤ 1048576 := by omega
  have hB2 : wtL o ≤ 1048576 := by omega
  have hB3 : m.length ≤ 1048576 := by omega
  cases hsm : insM xs m o with
  | none =>
    repeat' (first | ((first | apply qa1 | apply qa2 | apply qa3 | apply qh1 | apply qh2 | apply qg1 rfl | apply qcd); (try intro K hk); focus (simp only [go_sem, Nat.reduceEqDiff, Nat.reduceAdd, Nat.reduceLeDiff, Nat.reduceLT, Nat.reduceSub, Int.reduceToNat, ↓reduceIte, reduceCtorEq, newT, borT, pureT, mrkK, plainV, plainU, resT, lendM, lendG_tree, encL_iff, MB.gen.injEq, PV.own.injEq, hsm, Option.getD_none, Option.isSome_none, hd1, bne_self_eq_false, Bool.not_true, decide_true]; first | exact rfl | ((repeat (refine And.intro ?_ ?_; focus (first | omega | assumption | with_reducible rfl))); intros; apply hk; clear hk K))) | apply qw8 | apply qw1 | apply qw6 | apply qt1 | apply qw5 | apply qw2 | apply qw9 | apply qt2 | apply qt3 | apply qt4 | apply qt5 | apply qt6 | apply qw3 | apply qw4 | apply qj1 | apply qj2 | apply qj3 | apply qj4 | apply qj5 | apply qu1 | apply qu2 | (refine qj6 ?_ ?_ <;> intro hc <;> (try simp only [hc]) <;> (try simp only [decide_eq_true_eq, decide_eq_false_iff_not, Bool.not_eq_true', Bool.not_eq_false', Bool.not_eq_true, reduceCtorEq] at hc) <;> (try (exfalso; omega))) | (refine qt7 ?_ ?_; focus decide) | (refine qw7 ?_ ?_ ?_; (focus (decide +kernel)); (focus (decide +kernel))))
    have z1 : mrL ([] : List PartD) 1 = [] := mrL_nil 1
    have z2 : mnL ([] : List PartD) = 0 := mnL_nil
    have z3 : wtL ([] : List PartD) = 0 := wtL_nil
    have z4 : okL ([] : List PartD) := by unfold okL; trivial
    have z5 : ∀ x : List PartD, ([] = encPs x) = (x = []) := fun x => by rw [← encPs_nil, encPs_iff]; exact propext ⟨fun h => h.symm, fun h => h.symm⟩
    (refine qa1 fun K hk => ?_); simp only [go_sem, ↓upd_def, ↓evT, Nat.reduceEqDiff, Nat.reduceAdd, Nat.reduceLeDiff, Nat.reduceLT, Nat.reduceSub, Int.reduceToNat, ↓reduceIte, reduceCtorEq, ↓aop, ↓aopc, ↓aopd, newT, borT, pureT, mrkK, plainV, plainU, resT, lendM, lendG_tree, encL_iff, MB.gen.injEq, PV.own.injEq, hsm, z1, z2, z5, Option.getD_none, Option.isSome_none, hd1, eqB_rfl, bne_self_eq_false, Bool.not_true, decide_true]; repeat (refine And.intro ?_ ?_; focus (first | omega | assumption | with_reducible rfl | (simp only [go_sem, ↓upd_def, ↓evT, Nat.reduceEqDiff, Nat.reduceAdd, Nat.reduceLeDiff, Nat.reduceLT, Nat.reduceSub, Int.reduceToNat, ↓reduceIte, reduceCtorEq, ↓aop, ↓aopc, ↓aopd, newT, borT, pureT, mrkK, plainV, plainU, resT, lendM, lendG_tree, encL_iff, MB.gen.injEq, PV.own.injEq, hsm, z1, z2, z5, Option.getD_none, Option.isSome_none, hd1, eqB_rfl, bne_self_eq_false, Bool.not_true, decide_true]; done)))
    unfold inpX
    refine ⟨(xs, m, o), by simp [resT, lendM, upd], ⟨hB1, hB2, hB3⟩, ?_⟩
    apply hk; clear hk K
    repeat' (first | ((first | apply qa1 | apply qa2 | apply qa3 | apply qh1 | apply qh2 | apply qg1 rfl | apply qcd); (try intro K hk); focus (simp only [go_sem, Nat.reduceEqDiff, Nat.reduceAdd, Nat.reduceLeDiff, Nat.reduceLT, Nat.reduceSub, Int.reduceToNat, ↓reduceIte, reduceCtorEq, newT, borT, pureT, mrkK, plainV, plainU, resT, lendM, lendG_tree, encL_iff, MB.gen.injEq, PV.own.injEq, hsm, z1, z2, z5, Option.getD_none, Option.isSome_none, hd1, eqB_rfl, bne_self_eq_false, Bool.not_true, decide_true]; first | exact rfl | ((repeat (refine And.intro ?_ ?_; focus (first | omega | assumption | with_reducible rfl))); intros; apply hk; clear hk K))) | apply qw8 | apply qw1 | apply qw6 | apply qt1 | apply qw5 | apply qw2 | apply qw9 | apply qt2 | apply qt3 | apply qt4 | apply qt5 | apply qt6 | apply qw3 | apply qw4 | apply qj1 | apply qj2 | apply qj3 | apply qj4 | apply qj5 | apply qu1 | apply qu2 | (refine qj6 ?_ ?_ <;> intro hc <;> (try simp only [hc]) <;> (try simp only [decide_eq_true_eq, decide_eq_false_iff_not, Bool.not_eq_true', Bool.not_eq_false', Bool.not_eq_true, reduceCtorEq] at hc) <;> (try (exfalso; omega))) | (refine qt7 ?_ ?_; focus decide) | (refine qw7 ?_ ?_ ?_; (focus (decide +kernel)); (focus (decide +kernel))))
    (refine qa1 fun K hk => ?_); simp only [go_sem, ↓upd_def, ↓evT, Nat.reduceEqDiff, Nat.reduceAdd, Nat.reduceLeDiff, Nat.reduceLT, Nat.reduceSub, Int.reduceToNat, ↓reduceIte, reduceCtorEq, ↓aop, ↓aopc, ↓aopd, newT, borT, pureT, mrkK, plainV, plainU, resT, lendM, lendG_tree, encL_iff, MB.gen.injEq, PV.own.injEq, hsm, z1, z2, z5, Option.getD_none, Option.isSome_none, hd1, eqB_rfl, bne_self_eq_false, Bool.not_true, decide_true]; repeat (refine And.intro ?_ ?_; focus (first | omega | assumption | with_reducible rfl | (simp only [go_sem, ↓upd_def, ↓evT, Nat.reduceEqDiff, Nat.reduceAdd, Nat.reduceLeDiff, Nat.reduceLT, Nat.reduceSub, Int.reduceToNat, ↓reduceIte, reduceCtorEq, ↓aop, ↓aopc, ↓aopd, newT, borT, pureT, mrkK, plainV, plainU, resT, lendM, lendG_tree, encL_iff, MB.gen.injEq, PV.own.injEq, hsm, z1, z2, z5, Option.getD_none, Option.isSome_none, hd1, eqB_rfl, bne_self_eq_false, Bool.not_true, decide_true]; done)))
    unfold ipT newTB
    refine ⟨(xs, m, o), by simp [resT, lendM, upd, lendG_tree], ⟨hB1, hB2, fun a b => ins_bd a b, hB3⟩, (fun q N h => by dsimp only at h; rw [hsm] at h; cases h), (fun _ => ?_)⟩
    apply hk; clear hk K
    repeat' (first | ((first | apply qa1 | apply qa2 | apply qa3 | apply qh1 | apply qh2 | apply qg1 rfl | apply qcd); (try intro K hk); focus (simp only [go_sem, Nat.reduceEqDiff, Nat.reduceAdd, Nat.reduceLeDiff, Nat.reduceLT, Nat.reduceSub, Int.reduceToNat, ↓reduceIte, reduceCtorEq, newT, borT, pureT, mrkK, plainV, plainU, resT, lendM, lendG_tree, encL_iff, MB.gen.injEq, PV.own.injEq, hsm, z1, z2, z5, Option.getD_none, Option.isSome_none, hd1, eqB_rfl, bne_self_eq_false, Bool.not_true, decide_true]; first | exact rfl | ((repeat (refine And.intro ?_ ?_; focus (first | omega | assumption | with_reducible rfl))); intros; apply hk; clear hk K))) | apply qw8 | apply qw1 | apply qw6 | apply qt1 | apply qw5 | apply qw2 | apply qw9 | apply qt2 | apply qt3 | apply qt4 | apply qt5 | apply qt6 | apply qw3 | apply qw4 | apply qj1 | apply qj2 | apply qj3 | apply qj4 | apply qj5 | apply qu1 | apply qu2 | (refine qj6 ?_ ?_ <;> intro hc <;> (try simp only [hc]) <;> (try simp only [decide_eq_true_eq, decide_eq_false_iff_not, Bool.not_eq_true', Bool.not_eq_false', Bool.not_eq_true, reduceCtorEq] at hc) <;> (try (exfalso; omega))) | (refine qt7 ?_ ?_; focus decide) | (refine qw7 ?_ ?_ ?_; (focus (decide +kernel)); (focus (decide +kernel))))
    (refine qa1 fun K hk => ?_); simp only [go_sem, ↓upd_def, ↓evT, Nat.reduceEqDiff, Nat.reduceAdd, Nat.reduceLeDiff, Nat.reduceLT, Nat.reduceSub, Int.reduceToNat, ↓reduceIte, reduceCtorEq, ↓aop, ↓aopc, ↓aopd, newT, borT, pureT, mrkK, plainV, plainU, resT, lendM, lendG_tree, encL_iff, MB.gen.injEq, PV.own.injEq, hsm, z1, z2, z5, Option.getD_none, Option.isSome_none, hd1, eqB_rfl, bne_self_eq_false, Bool.not_true, decide_true]; repeat (refine And.intro ?_ ?_; focus (first | omega | assumption | with_reducible rfl | (simp only [go_sem, ↓upd_def, ↓evT, Nat.reduceEqDiff, Nat.reduceAdd, Nat.reduceLeDiff, Nat.reduceLT, Nat.reduceSub, Int.reduceToNat, ↓reduceIte, reduceCtorEq, ↓aop, ↓aopc, ↓aopd, newT, borT, pureT, mrkK, plainV, plainU, resT, lendM, lendG_tree, encL_iff, MB.gen.injEq, PV.own.injEq, hsm, z1, z2, z5, Option.getD_none, Option.isSome_none, hd1, eqB_rfl, bne_self_eq_false, Bool.not_true, decide_true]; done)))
    unfold ipT newTB
    refine ⟨(xs, m, o), by simp [resT, lendM, upd, lendG_tree], ⟨hB1, hB2, fun a b => ins_bd a b, hB3⟩, (fun q N h => by dsimp only at h; rw [hsm] at h; cases h), (fun _ => ?_)⟩
    apply hk; clear hk K
    repeat' (first | ((first | apply qa1 | apply qa2 | apply qa3 | apply qh1 | apply qh2 | apply qg1 rfl | apply qcd); (try intro K hk); focus (simp only [go_sem, Nat.reduceEqDiff, Nat.reduceAdd, Nat.reduceLeDiff, Nat.reduceLT, Nat.reduceSub, Int.reduceToNat, ↓reduceIte, reduceCtorEq, newT, borT, pureT, mrkK, plainV, plainU, resT, lendM, lendG_tree, encL_iff, MB.gen.injEq, PV.own.injEq, hsm, z1, z2, z5, Option.getD_none, Option.isSome_none, hd1, eqB_rfl, bne_self_eq_false, Bool.not_true, decide_true]; first | exact rfl | ((repeat (refine And.intro ?_ ?_; focus (first | omega | assumption | with_reducible rfl))); intros; apply hk; clear hk K))) | apply qw8 | apply qw1 | apply qw6 | apply qt1 | apply qw5 | apply qw2 | apply qw9 | apply qt2 | apply qt3 | apply qt4 | apply qt5 | apply qt6 | apply qw3 | apply qw4 | apply qj1 | apply qj2 | apply qj3 | apply qj4 | apply qj5 | apply qu1 | apply qu2 | (refine qj6 ?_ ?_ <;> intro hc <;> (try simp only [hc]) <;> (try simp only [decide_eq_true_eq, decide_eq_false_iff_not, Bool.not_eq_true', Bool.not_eq_false', Bool.not_eq_true, reduceCtorEq] at hc) <;> (try (exfalso; omega))) | (refine qt7 ?_ ?_; focus decide) | (refine qw7 ?_ ?_ ?_; (focus (decide +kernel)); (focus (decide +kernel))))
    all_goals first
      | (((first | refine fin_ret ?_ | refine fin_end ?_); simp only [go_sem, ↓upd_def, Nat.reduceEqDiff, Nat.reduceAdd, ↓reduceIte, reduceCtorEq])
         exact hK)
      | skip
  | some r =>
    have hwr := insM_wt hsm
    have hmr := mnL_wt r
    have hokr : okL r := okL_wt (by omega)
    have hlr := len_le_wtL r
    repeat' (first | ((first | apply qa1 | apply qa2 | apply qa3 | apply qh1 | apply qh2 | apply qg1 rfl | apply qcd); (try intro K hk); focus (simp only [go_sem, Nat.reduceEqDiff, Nat.reduceAdd, Nat.reduceLeDiff, Nat.reduceLT, Nat.reduceSub, Int.reduceToNat, ↓reduceIte, reduceCtorEq, newT, borT, pureT, mrkK, plainV, plainU, resT, lendM, lendG_tree, encL_iff, MB.gen.injEq, PV.own.injEq, hsm, Option.getD_some, Option.isSome_some, hd1, hm1, hm2, bne_self_eq_false, Bool.not_true, decide_true]; first | exact rfl | ((repeat (refine And.intro ?_ ?_; focus (first | omega | assumption | with_reducible rfl))); intros; apply hk; clear hk K))) | apply qw8 | apply qw1 | apply qw6 | apply qt1 | apply qw5 | apply qw2 | apply qw9 | apply qt2 | apply qt3 | apply qt4 | apply qt5 | apply qt6 | apply qw3 | apply qw4 | apply qj1 | apply qj2 | apply qj3 | apply qj4 | apply qj5 | apply qu1 | apply qu2 | (refine qj6 ?_ ?_ <;> intro hc <;> (try simp only [hc]) <;> (try simp only [decide_eq_true_eq, decide_eq_false_iff_not, Bool.not_eq_true', Bool.not_eq_false', Bool.not_eq_true, reduceCtorEq] at hc) <;> (try (exfalso; omega))) | (refine qt7 ?_ ?_; focus decide) | (refine qw7 ?_ ?_ ?_; (focus (decide +kernel)); (focus (decide +kernel))))
    (refine qa1 fun K hk => ?_); simp only [go_sem, ↓upd_def, ↓evT, Nat.reduceEqDiff, Nat.reduceAdd, Nat.reduceLeDiff, Nat.reduceLT, Nat.reduceSub, Int.reduceToNat, ↓reduceIte, reduceCtorEq, ↓aop, ↓aopc, ↓aopd, newT, borT, pureT, mrkK, plainV, plainU, resT, lendM, lendG_tree, encL_iff, MB.gen.injEq, PV.own.injEq, hsm, Option.getD_some, Option.isSome_some, hd1, hm1, hm2, bne_self_eq_false, Bool.not_true, decide_true]; repeat (refine And.intro ?_ ?_; focus (first | omega | assumption | with_reducible rfl | (simp only [go_sem, ↓upd_def, ↓evT, Nat.reduceEqDiff, Nat.reduceAdd, Nat.reduceLeDiff, Nat.reduceLT, Nat.reduceSub, Int.reduceToNat, ↓reduceIte, reduceCtorEq, ↓aop, ↓aopc, ↓aopd, newT, borT, pureT, mrkK, plainV, plainU, resT, lendM, lendG_tree, encL_iff, MB.gen.injEq, PV.own.injEq, hsm, Option.getD_some, Option.isSome_some, hd1, hm1, hm2, bne_self_eq_false, Bool.not_true, decide_true]; done)))
    unfold inpX
    refine ⟨(xs, m, o), by simp [resT, lendM, upd], ⟨hB1, hB2, hB3⟩, ?_⟩
    apply hk; clear hk K
    repeat' (first | ((first | apply qa1 | apply qa2 | apply qa3 | apply qh1 | apply qh2 | apply qg1 rfl | apply qcd); (try intro K hk); focus (simp only [go_sem, Nat.reduceEqDiff, Nat.reduceAdd, Nat.reduceLeDiff, Nat.reduceLT, Nat.reduceSub, Int.reduceToNat, ↓reduceIte, reduceCtorEq, newT, borT, pureT, mrkK, plainV, plainU, resT, lendM, lendG_tree, encL_iff, MB.gen.injEq, PV.own.injEq, hsm, Option.getD_some, Option.isSome_some, hd1, hm1, hm2, bne_self_eq_false, Bool.not_true, decide_true]; first | exact rfl | ((repeat (refine And.intro ?_ ?_; focus (first | omega | assumption | with_reducible rfl))); intros; apply hk; clear hk K))) | apply qw8 | apply qw1 | apply qw6 | apply qt1 | apply qw5 | apply qw2 | apply qw9 | apply qt2 | apply qt3 | apply qt4 | apply qt5 | apply qt6 | apply qw3 | apply qw4 | apply qj1 | apply qj2 | apply qj3 | apply qj4 | apply qj5 | apply qu1 | apply qu2 | (refine qj6 ?_ ?_ <;> intro hc <;> (try simp only [hc]) <;> (try simp only [decide_eq_true_eq, decide_eq_false_iff_not, Bool.not_eq_true', Bool.not_eq_false', Bool.not_eq_true, reduceCtorEq] at hc) <;> (try (exfalso; omega))) | (refine qt7 ?_ ?_; focus decide) | (refine qw7 ?_ ?_ ?_; (focus (decide +kernel)); (focus (decide +kernel))))
    (refine qa1 fun K hk => ?_); simp only [go_sem, ↓upd_def, ↓evT, Nat.reduceEqDiff, Nat.reduceAdd, Nat.reduceLeDiff, Nat.reduceLT, Nat.reduceSub, Int.reduceToNat, ↓reduceIte, reduceCtorEq, ↓aop, ↓aopc, ↓aopd, newT, borT, pureT, mrkK, plainV, plainU, resT, lendM, lendG_tree, encL_iff, MB.gen.injEq, PV.own.injEq, hsm, Option.getD_some, Option.isSome_some, hd1, hm1, hm2, bne_self_eq_false, Bool.not_true, decide_true]; repeat (refine And.intro ?_ ?_; focus (first | omega | assumption | with_reducible rfl | (simp only [go_sem, ↓upd_def, ↓evT, Nat.reduceEqDiff, Nat.reduceAdd, Nat.reduceLeDiff, Nat.reduceLT, Nat.reduceSub, Int.reduceToNat, ↓reduceIte, reduceCtorEq, ↓aop, ↓aopc, ↓aopd, newT, borT, pureT, mrkK, plainV, plainU, resT, lendM, lendG_tree, encL_iff, MB.gen.injEq, PV.own.injEq, hsm, Option.getD_some, Option.isSome_some, hd1, hm1, hm2, bne_self_eq_false, Bool.not_true, decide_true]; done)))
    unfold ipT newTB
    refine ⟨(xs, m, o), by simp [resT, lendM, upd, lendG_tree], ⟨hB1, hB2, fun a b => ins_bd a b, hB3⟩, ?_, (fun h => by dsimp only at h; rw [hsm] at h; cases h)⟩
    intro q N hq
    dsimp only at hq
    rw [hsm] at hq
    obtain rfl : encPs r = q := by simpa using hq
    apply hk; clear hk K
    repeat' (first | ((first | apply qa1 | apply qa2 | apply qa3 | apply qh1 | apply qh2 | apply qg1 rfl | apply qcd); (try intro K hk); focus (simp only [go_sem, Nat.reduceEqDiff, Nat.reduceAdd, Nat.reduceLeDiff, Nat.reduceLT, Nat.reduceSub, Int.reduceToNat, ↓reduceIte, reduceCtorEq, newT, borT, pureT, mrkK, plainV, plainU, resT, lendM, lendG_tree, encL_iff, MB.gen.injEq, PV.own.injEq, hsm, Option.getD_some, Option.isSome_some, hd1, hm1, hm2, bne_self_eq_false, Bool.not_true, decide_true]; first | exact rfl | ((repeat (refine And.intro ?_ ?_; focus (first | omega | assumption | with_reducible rfl))); intros; apply hk; clear hk K))) | apply qw8 | apply qw1 | apply qw6 | apply qt1 | apply qw5 | apply qw2 | apply qw9 | apply qt2 | apply qt3 | apply qt4 | apply qt5 | apply qt6 | apply qw3 | apply qw4 | apply qj1 | apply qj2 | apply qj3 | apply qj4 | apply qj5 | apply qu1 | apply qu2 | (refine qj6 ?_ ?_ <;> intro hc <;> (try simp only [hc]) <;> (try simp only [decide_eq_true_eq, decide_eq_false_iff_not, Bool.not_eq_true', Bool.not_eq_false', Bool.not_eq_true, reduceCtorEq] at hc) <;> (try (exfalso; omega))) | (refine qt7 ?_ ?_; focus decide) | (refine qw7 ?_ ?_ ?_; (focus (decide +kernel)); (focus (decide +kernel))))
    (refine qa1 fun K hk => ?_); simp only [go_sem, ↓upd_def, ↓evT, Nat.reduceEqDiff, Nat.reduceAdd, Nat.reduceLeDiff, Nat.reduceLT, Nat.reduceSub, Int.reduceToNat, ↓reduceIte, reduceCtorEq, ↓aop, ↓aopc, ↓aopd, newT, borT, pureT, mrkK, plainV, plainU, resT, lendM, lendG_tree, encL_iff, MB.gen.injEq, PV.own.injEq, hsm, Option.getD_some, Option.isSome_some, hd1, hm1, hm2, bne_self_eq_false, Bool.not_true, decide_true]; repeat (refine And.intro ?_ ?_; focus (first | omega | assumption | with_reducible rfl | (simp only [go_sem, ↓upd_def, ↓evT, Nat.reduceEqDiff, Nat.reduceAdd, Nat.reduceLeDiff, Nat.reduceLT, Nat.reduceSub, Int.reduceToNat, ↓reduceIte, reduceCtorEq, ↓aop, ↓aopc, ↓aopd, newT, borT, pureT, mrkK, plainV, plainU, resT, lendM, lendG_tree, encL_iff, MB.gen.injEq, PV.own.injEq, hsm, Option.getD_some, Option.isSome_some, hd1, hm1, hm2, bne_self_eq_false, Bool.not_true, decide_true]; done)))
    unfold ipT newTB
    refine ⟨(xs, m, o), by simp [resT, lendM, upd, lendG_tree], ⟨hB1, hB2, fun a b => ins_bd a b, hB3⟩, ?_, (fun h => by dsimp only at h; rw [hsm] at h; cases h)⟩
    intro q N hq
    dsimp only at hq
    rw [hsm] at hq
    obtain rfl : encPs r = q := by simpa using hq
    apply hk; clear hk K
    repeat' (first | ((first | apply qa1 | apply qa2 | apply qa3 | apply qh1 | apply qh2 | apply qg1 rfl | apply qcd); (try intro K hk); focus (simp only [go_sem, Nat.reduceEqDiff, Nat.reduceAdd, Nat.reduceLeDiff, Nat.reduceLT, Nat.reduceSub, Int.reduceToNat, ↓reduceIte, reduceCtorEq, newT, borT, pureT, mrkK, plainV, plainU, resT, lendM, lendG_tree, encL_iff, MB.gen.injEq, PV.own.injEq, hsm, Option.getD_some, Option.isSome_some, hd1, hm1, hm2, bne_self_eq_false, Bool.not_true, decide_true]; first | exact rfl | ((repeat (refine And.intro ?_ ?_; focus (first | omega | assumption | with_reducible rfl))); intros; apply hk; clear hk K))) | apply qw8 | apply qw1 | apply qw6 | apply qt1 | apply qw5 | apply qw2 | apply qw9 | apply qt2 | apply qt3 | apply qt4 | apply qt5 | apply qt6 | apply qw3 | apply qw4 | apply qj1 | apply qj2 | apply qj3 | apply qj4 | apply qj5 | apply qu1 | apply qu2 | (refine qj6 ?_ ?_ <;> intro hc <;> (try simp only [hc]) <;> (try simp only [decide_eq_true_eq, decide_eq_false_iff_not, Bool.not_eq_true', Bool.not_eq_false', Bool.not_eq_true, reduceCtorEq] at hc) <;> (try (exfalso; omega))) | (refine qt7 ?_ ?_; focus decide) | (refine qw7 ?_ ?_ ?_; (focus (decide +kernel)); (focus (decide +kernel))))
    all_goals first
      | (((first | refine fin_ret ?_ | refine fin_end ?_); simp only [go_sem, ↓upd_def, Nat.reduceEqDiff, Nat.reduceAdd, ↓reduceIte, reduceCtorEq])
         exact hK)
      | skip
end Go.Proofs.Ytdedddmnacomfaa
