/- SimplerParts and InsertParts hand back new trees. -/
import Derived.Test.YtdedddmnacomfaaWT8

namespace Go.Proofs.Ytdedddmnacomfaa
attribute [local irreducible] awp arun acalm FinP Fin AX.then AX.inBlock Again aG gsel amix amixN amixC aop aopc aopd cutK
attribute [local go_sem] aBSliceD aSlice aSliceC boundOf aMk aCall aCallC aLenL aLen aPick_t aPick_f aNil aAlloc aBox aBuild bldPV aBSlice bsPV aApp newsOf destOf drp aConvX aConv aConvInt aLoad cellsAt aStore cellsPV setAt aFld aField aIdx aIndex aUn aBin' aBin aMax aExtract pvOf PV.isCell nmbL PV.nmb List.map_cons List.map_nil List.all_cons List.all_nil Bool.and_true Bool.true_and if_true if_false List.getD_cons_zero List.getD_cons_succ List.getD_nil Option.isSome_some true_and and_true and_self eq_self true_or or_true List.drop_zero List.drop_succ_cons List.drop_nil List.take_zero List.take_succ_cons List.take_nil List.length_cons List.length_nil List.length_map Option.getD_some Option.getD_none List.nil_append List.cons_append List.append_nil Option.some.injEq exists_eq_left' List.getElem?_cons_zero List.getElem?_cons_succ Int.toNat_natCast Int.natCast_inj toNat_succ Nat.zero_add res res1 resC owns owns1 ownsC List.flatMap_cons List.flatMap_nil List.flatten_cons List.flatten_nil List.mem_cons List.not_mem_nil or_false false_or forall_eq forall_eq_or_imp isFro frz frz1 pureC tabA isBld List.cons.injEq PV.seq.injEq PV.int.injEq PV.str.injEq PV.bool.injEq PV.agg.injEq inR tab Γof aRes packR Option.map_some Option.map_none rel Prod.exists exists_and_left exists_eq_left and_assoc beq_self_eq_true Bool.not_true Bool.not_false decide_true decide_false List.set_cons_zero List.set_cons_succ rst_nil rst_cons
attribute [local go_sem ↓] evT upd_def aop aopc aopd
set_option maxRecDepth 100000
set_option linter.unusedVariables false
set_option linter.unusedSimpArgs false
open Go.RowKit
def lvT9_17 : Nat → List Nat
  | 0 => [0, 1]
  | 1 => [0, 1, 5]
  | 2 => [0, 1, 5, 9]
  | 3 => [0, 1, 5]
  | 4 => [0, 1, 5]
  | 5 => [0, 1, 5]
  | 6 => [0, 1, 5]
  | 7 => [0, 1, 5]
  | 8 => [0, 1, 5]
  | 9 => [0, 1, 5]
  | 10 => [0, 1, 5]
  | 11 => [0, 1, 5]
  | 12 => [4]
  | _ => []
--LV=T9
mutual
theorem gdP_wt : ∀ (x : PartD) (d : Nat), gdP d x = true → 1 + wtP x ≤ 611 * (1 + cntP x)
  | .mk k t n ps os, d, h => by
    rw [gdP_mk] at h
    rw [wtP_mk, cntP_mk]
    split at h
    · simp only [Bool.and_eq_true, decide_eq_true_eq] at h
      obtain ⟨⟨⟨h1, rfl⟩, rfl⟩, rfl⟩ := h
      have h2 : t.length ≤ 600 := by
        unfold txtB textB at h1
        simp only [Bool.and_eq_true, decide_eq_true_eq] at h1
        exact h1.1.1.1.1.1
      rw [wtL_nil, cntL_nil]
      simp
      omega
    split at h
    · simp only [Bool.and_eq_true, decide_eq_true_eq] at h
      obtain ⟨⟨⟨⟨h1, _⟩, rfl⟩, rfl⟩, rfl⟩ := h
      have h2 := (nameB_len h1).2
      rw [wtL_nil, cntL_nil]
      simp
      omega
    split at h
    · simp only [Bool.and_eq_true, decide_eq_true_eq] at h
      obtain ⟨⟨⟨⟨⟨h1, rfl⟩, _⟩, _⟩, h3⟩, h4⟩ := h
      have h2 := (nameB_len h1).2
      have h5 := gdL_wt ps (d - 1) false h3
      have h6 := gdL_wt os (d - 1) false h4
      simp
      omega
    · cases h
theorem gdL_wt : ∀ (xs : List PartD) (d : Nat) (b : Bool), gdL d b xs = true → wtL xs ≤ 611 * cntL xs
  | [], d, b, _ => by rw [wtL_nil]; omega
  | x :: xs, d, b, h => by
    rw [gdL] at h
    simp only [Bool.and_eq_true] at h
    have h1 := gdP_wt x d h.1.1
    have h2 := gdL_wt xs d _ h.2
    rw [wtL, cntL]
    omega
end
theorem partsB_wt {xs : List PartD} (h : partsB xs = true) : wtL xs ≤ 18330 := by
  unfold partsB at h
  rw [Bool.and_eq_true, decide_eq_true_eq] at h
  have := gdL_wt xs 3 false h.2
  omega
theorem ins_bd {xs o : List PartD} (h : partsB xs = true) (h' : partsB o = true) : wtL xs * (wtL o + 1) ≤ 1073741824 := by
  have h1 := partsB_wt h
  have h2 := partsB_wt h'
  exact Nat.le_trans (Nat.mul_le_mul h1 (show wtL o + 1 ≤ 18331 by omega)) (by decide)
/-- Marks on nil: none. -/
def mkP0 : PC := rel (α := Int) (fun k => [.seq [], .int .i64 k]) (fun k => 0 ≤ k ∧ k ≤ 16777216) (fun k => .int .i64 k)
theorem mkP0_ok : PureOk Try.prog 17 mkP0 := by
  refine pure_rel 2 tab_nil mixed [.tmp 4] Try.func17 rfl rfl (by kernel_rfl) (by kernel_rfl) (fun _ => rfl) (by kernel_rfl) ?_
  rintro k K ⟨h0, h1⟩ hK
  unfold entry
  repeat' (first | ((first | apply qwd | apply qa1 | apply qa2 | apply qa3 | apply qh1 | apply qh2 | apply qg1 rfl | apply qcd); (try intro K hk); focus (simp only [lvT9_17, mkT, go_sem, Nat.reduceEqDiff, Nat.reduceAdd, Nat.reduceLeDiff, Nat.reduceLT, Nat.reduceSub, Int.reduceToNat, ↓reduceIte, reduceCtorEq]; first | exact rfl | ((repeat (refine And.intro ?_ ?_; focus (first | omega | assumption | with_reducible rfl))); intros; apply hk; clear hk K))) | apply qw8 | apply qw1 | refine qwc lvT9_17 ?_ | apply qt1 | apply qw5 | apply qw2 | apply qw9 | apply qt2 | apply qt3 | apply qt4 | apply qt5 | apply qt6 | apply qw3 | apply qw4 | apply qj1 | apply qj2 | apply qj3 | apply qj4 | apply qj5 | apply qu1 | apply qu2 | (refine qj6 ?_ ?_ <;> intro hc <;> (try simp only [hc]) <;> (try simp only [decide_eq_true_eq, decide_eq_false_iff_not, Bool.not_eq_true', Bool.not_eq_false', Bool.not_eq_true, reduceCtorEq] at hc) <;> (try (exfalso; omega))) | (refine qt7 ?_ ?_; focus decide) | (refine qw7 ?_ ?_ ?_; (focus (decide +kernel)); (focus (decide +kernel))))
  refine s_loop (ι := Unit) (fun _ => [(0, .seq []), (1, .int .i64 k), (5, .int .i64 0)]) (fun _ => []) 0 (fun _ => True) (fun _ => 0) () (by omega) trivial ?_ ?_
  · simp [fits, fitsT, fitsM, upd_def, PV.nmb, nmbL, MB.nmb, List.getD_cons_zero, List.getD_cons_succ]
  rintro ⟨⟩ _
  simp only [mkS, mkT, mkM]
  repeat' (first | ((first | apply qwd | apply qa1 | apply qa2 | apply qa3 | apply qh1 | apply qh2 | apply qg1 rfl | apply qcd); (try intro K hk); focus (simp only [lvT9_17, mkT, go_sem, Nat.reduceEqDiff, Nat.reduceAdd, Nat.reduceLeDiff, Nat.reduceLT, Nat.reduceSub, Int.reduceToNat, ↓reduceIte, reduceCtorEq]; first | exact rfl | ((repeat (refine And.intro ?_ ?_; focus (first | omega | assumption | with_reducible rfl))); intros; apply hk; clear hk K))) | apply qw8 | apply qw1 | refine qwc lvT9_17 ?_ | apply qt1 | apply qw5 | apply qw2 | apply qw9 | apply qt2 | apply qt3 | apply qt4 | apply qt5 | apply qt6 | apply qw3 | apply qw4 | apply qj1 | apply qj2 | apply qj3 | apply qj4 | apply qj5 | apply qu1 | apply qu2 | (refine qj6 ?_ ?_ <;> intro hc <;> (try simp only [hc]) <;> (try simp only [decide_eq_true_eq, decide_eq_false_iff_not, Bool.not_eq_true', Bool.not_eq_false', Bool.not_eq_true, reduceCtorEq] at hc) <;> (try (exfalso; omega))) | (refine qt7 ?_ ?_; focus decide) | (refine qw7 ?_ ?_ ?_; (focus (decide +kernel)); (focus (decide +kernel))))
  ((first | refine fin_ret ?_ | refine fin_end ?_); simp only [go_sem, ↓upd_def, Nat.reduceEqDiff, Nat.reduceAdd, ↓reduceIte, reduceCtorEq])
  exact hK
@[go_sem] def mkPX : AC := fun args mem n K => match args with
  | [.nil, .int .i64 k] => (0 ≤ k ∧ k ≤ 16777216) ∧ K (.int .i64 k) mem n
  | _ => mkPT args mem n K
theorem mkPX_ok : ACok Try.prog 17 mkPX := by
  refine ⟨mkPT_ok.fn, fun c mem n av vs K hI hn hr hC => ?_⟩
  unfold mkPX at hC
  split at hC
  · refine (borT_ok mkP0_ok).run c mem n _ vs K hI hn hr ?_
    obtain ⟨h1, hK⟩ := hC
    exact ⟨rfl, _, rfl, h1, rfl, hK⟩
  · exact mkPT_ok.run c mem n _ vs K hI hn hr hC
def spT : AC := newTB QP (α := List PartD) (fun x => [.seq (encPs x)]) (fun x => wtL x ≤ 1073741824) (fun x => (simM x).map encPs)
theorem spT_i : ACok Try.prog 21 spT := by
  refine newTL_ok 1 (tabA_cons smT_i (tabA_nil (Γof_ok (tab_cons pv_i tab_nil)))) (tab_cons pv_i tab_nil) mixed [.tmp 2, .tmp 3] Try.func21 rfl rfl (by kernel_rfl) (by kernel_rfl) (fun _ => rfl) (by kernel_rfl) (fun x => by simp [nmbL, PV.nmb]) ?_
  rintro xs K F hb hK hF
  have hlw := len_le_wtL xs
  unfold simM at hK hF
  unfold entry
  cases hp : partsB xs
  · rw [hp] at hF
    repeat' (first | ((first | apply qa1 | apply qa2 | apply qa3 | apply qh1 | apply qh2 | apply qg1 rfl | apply qcd); (try intro K hk); focus (simp only [go_sem, Nat.reduceEqDiff, Nat.reduceAdd, Nat.reduceLeDiff, Nat.reduceLT, Nat.reduceSub, Int.reduceToNat, ↓reduceIte, reduceCtorEq, hp, Bool.not_false]; first | exact rfl | ((repeat (refine And.intro ?_ ?_; focus (first | omega | assumption | with_reducible rfl))); intros; apply hk; clear hk K))) | apply qw8 | apply qw1 | apply qw6 | apply qt1 | apply qw5 | apply qw2 | apply qw9 | apply qt2 | apply qt3 | apply qt4 | apply qt5 | apply qt6 | apply qw3 | apply qw4 | apply qj1 | apply qj2 | apply qj3 | apply qj4 | apply qj5 | apply qu1 | apply qu2 | (refine qj6 ?_ ?_ <;> intro hc <;> (try simp only [hc]) <;> (try simp only [decide_eq_true_eq, decide_eq_false_iff_not, Bool.not_eq_true', Bool.not_eq_false', Bool.not_eq_true, reduceCtorEq] at hc) <;> (try (exfalso; omega))) | (refine qt7 ?_ ?_; focus decide) | (refine qw7 ?_ ?_ ?_; (focus (decide +kernel)); (focus (decide +kernel))))
    ((first | refine fin_H ?_ | refine fin_He ?_ | refine fin_J ?_ | refine fin_Je ?_ | refine fin_Y ?_ | refine fin_K ?_ | refine fin_T ?_ | refine fin_M ?_); simp only [go_sem, not_false_eq_true, ne_eq, ↓upd_def, Nat.reduceEqDiff, Nat.reduceAdd, ↓reduceIte, reduceCtorEq])
    first | exact hF rfl | exact .inr (hF rfl)
  · rw [hp, if_pos rfl] at hK hF
    repeat' (first | ((first | apply qa1 | apply qa2 | apply qa3 | apply qh1 | apply qh2 | apply qg1 rfl | apply qcd); (try intro K hk); focus (simp only [go_sem, Nat.reduceEqDiff, Nat.reduceAdd, Nat.reduceLeDiff, Nat.reduceLT, Nat.reduceSub, Int.reduceToNat, ↓reduceIte, reduceCtorEq, hp, Bool.not_true]; first | exact rfl | ((repeat (refine And.intro ?_ ?_; focus (first | omega | assumption | with_reducible rfl))); intros; apply hk; clear hk K))) | apply qw8 | apply qw1 | apply qw6 | apply qt1 | apply qw5 | apply qw2 | apply qw9 | apply qt2 | apply qt3 | apply qt4 | apply qt5 | apply qt6 | apply qw3 | apply qw4 | apply qj1 | apply qj2 | apply qj3 | apply qj4 | apply qj5 | apply qu1 | apply qu2 | (refine qj6 ?_ ?_ <;> intro hc <;> (try simp only [hc]) <;> (try simp only [decide_eq_true_eq, decide_eq_false_iff_not, Bool.not_eq_true', Bool.not_eq_false', Bool.not_eq_true, reduceCtorEq] at hc) <;> (try (exfalso; omega))) | (refine qt7 ?_ ?_; focus decide) | (refine qw7 ?_ ?_ ?_; (focus (decide +kernel)); (focus (decide +kernel))))
    (refine qa1 fun K hk => ?_); simp only [go_sem, ↓upd_def, ↓evT, Nat.reduceEqDiff, Nat.reduceAdd, Nat.reduceLeDiff, Nat.reduceLT, Nat.reduceSub, Int.reduceToNat, ↓reduceIte, reduceCtorEq, ↓aop, ↓aopc, ↓aopd, hp, Bool.not_true]; repeat (refine And.intro ?_ ?_; focus (first | omega | assumption | with_reducible rfl | (simp only [go_sem, ↓upd_def, ↓evT, Nat.reduceEqDiff, Nat.reduceAdd, Nat.reduceLeDiff, Nat.reduceLT, Nat.reduceSub, Int.reduceToNat, ↓reduceIte, reduceCtorEq, ↓aop, ↓aopc, ↓aopd, hp, Bool.not_true]; done)))
    unfold smT newTB
    refine ⟨xs, by simp [resT], by omega, ?_, ?_⟩
    · intro q N hq
      apply hk; clear hk K
      repeat' (first | ((first | apply qa1 | apply qa2 | apply qa3 | apply qh1 | apply qh2 | apply qg1 rfl | apply qcd); (try intro K hk); focus (simp only [go_sem, Nat.reduceEqDiff, Nat.reduceAdd, Nat.reduceLeDiff, Nat.reduceLT, Nat.reduceSub, Int.reduceToNat, ↓reduceIte, reduceCtorEq, hp]; first | exact rfl | ((repeat (refine And.intro ?_ ?_; focus (first | omega | assumption | with_reducible rfl))); intros; apply hk; clear hk K))) | apply qw8 | apply qw1 | apply qw6 | apply qt1 | apply qw5 | apply qw2 | apply qw9 | apply qt2 | apply qt3 | apply qt4 | apply qt5 | apply qt6 | apply qw3 | apply qw4 | apply qj1 | apply qj2 | apply qj3 | apply qj4 | apply qj5 | apply qu1 | apply qu2 | (refine qj6 ?_ ?_ <;> intro hc <;> (try simp only [hc]) <;> (try simp only [decide_eq_true_eq, decide_eq_false_iff_not, Bool.not_eq_true', Bool.not_eq_false', Bool.not_eq_true, reduceCtorEq] at hc) <;> (try (exfalso; omega))) | (refine qt7 ?_ ?_; focus decide) | (refine qw7 ?_ ?_ ?_; (focus (decide +kernel)); (focus (decide +kernel))))
      ((first | refine fin_H ?_ | refine fin_He ?_ | refine fin_J ?_ | refine fin_Je ?_ | refine fin_Y ?_ | refine fin_K ?_ | refine fin_T ?_ | refine fin_M ?_); simp only [go_sem, not_false_eq_true, ne_eq, ↓upd_def, Nat.reduceEqDiff, Nat.reduceAdd, ↓reduceIte, reduceCtorEq])
      exact .inl ⟨0, rfl, q, N, rfl, hK q hq⟩
    · intro hq
      apply hk; clear hk K
      repeat' (first | ((first | apply qa1 | apply qa2 | apply qa3 | apply qh1 | apply qh2 | apply qg1 rfl | apply qcd); (try intro K hk); focus (simp only [go_sem, Nat.reduceEqDiff, Nat.reduceAdd, Nat.reduceLeDiff, Nat.reduceLT, Nat.reduceSub, Int.reduceToNat, ↓reduceIte, reduceCtorEq, hp]; first | exact rfl | ((repeat (refine And.intro ?_ ?_; focus (first | omega | assumption | with_reducible rfl))); intros; apply hk; clear hk K))) | apply qw8 | apply qw1 | apply qw6 | apply qt1 | apply qw5 | apply qw2 | apply qw9 | apply qt2 | apply qt3 | apply qt4 | apply qt5 | apply qt6 | apply qw3 | apply qw4 | apply qj1 | apply qj2 | apply qj3 | apply qj4 | apply qj5 | apply qu1 | apply qu2 | (refine qj6 ?_ ?_ <;> intro hc <;> (try simp only [hc]) <;> (try simp only [decide_eq_true_eq, decide_eq_false_iff_not, Bool.not_eq_true', Bool.not_eq_false', Bool.not_eq_true, reduceCtorEq] at hc) <;> (try (exfalso; omega))) | (refine qt7 ?_ ?_; focus decide) | (refine qw7 ?_ ?_ ?_; (focus (decide +kernel)); (focus (decide +kernel))))
      ((first | refine fin_H ?_ | refine fin_He ?_ | refine fin_J ?_ | refine fin_Je ?_ | refine fin_Y ?_ | refine fin_K ?_ | refine fin_T ?_ | refine fin_M ?_); simp only [go_sem, not_false_eq_true, ne_eq, ↓upd_def, Nat.reduceEqDiff, Nat.reduceAdd, ↓reduceIte, reduceCtorEq])
      exact .inr (hF hq)
def ipT : AC := newTB QP (α := List PartD × Bs × List PartD) (fun x => [.seq (encPs x.1), .str x.2.1, .seq (encPs x.2.2)]) (fun x => wtL x.1 ≤ 1048576 ∧ wtL x.2.2 ≤ 1048576 ∧ (partsB x.1 = true → partsB x.2.2 = true → wtL x.1 * (wtL x.2.2 + 1) ≤ 1073741824) ∧ x.2.1.length ≤ 1048576) (fun x => (insM x.1 x.2.1 x.2.2).map encPs)
theorem ipT_i : ACok Try.prog 24 ipT := by
  refine newTL_ok 3 (tabA_cons smT_i (tabA_cons (borT_ok pv_i) (tabA_nil (Γof_ok (tab_cons pv_i (tab_cons name_i (tab_cons in_ic tab_nil))))))) (tab_cons pv_i (tab_cons name_i (tab_cons in_ic tab_nil))) mixed [.tmp 6, .tmp 7] Try.func24 rfl rfl (by kernel_rfl) (by kernel_rfl) (fun _ => rfl) (by kernel_rfl) (fun x => by simp [nmbL, PV.nmb]) ?_
  rintro ⟨xs, m, o⟩ K F ⟨hb1, hb2, hbb, hm⟩ hK hF
  dsimp only at *
  have hlw := len_le_wtL xs
  have hlo := len_le_wtL o
  unfold entry
  cases hp : partsB xs
  · have hn : insM xs m o = none := by unfold insM; rw [if_neg (fun h => by rw [hp] at h; cases h.1)]
    rw [hn] at hF
    repeat' (first | ((first | apply qa1 | apply qa2 | apply qa3 | apply qh1 | apply qh2 | apply qg1 rfl | apply qcd); (try intro K hk); focus (simp only [go_sem, Nat.reduceEqDiff, Nat.reduceAdd, Nat.reduceLeDiff, Nat.reduceLT, Nat.reduceSub, Int.reduceToNat, ↓reduceIte, reduceCtorEq, borT, plainV, plainU, resT, hp, Bool.not_false, Bool.not_true]; first | exact rfl | ((repeat (refine And.intro ?_ ?_; focus (first | omega | assumption | with_reducible rfl))); intros; apply hk; clear hk K))) | apply qw8 | apply qw1 | apply qw6 | apply qt1 | apply qw5 | apply qw2 | apply qw9 | apply qt2 | apply qt3 | apply qt4 | apply qt5 | apply qt6 | apply qw3 | apply qw4 | apply qj1 | apply qj2 | apply qj3 | apply qj4 | apply qj5 | apply qu1 | apply qu2 | (refine qj6 ?_ ?_ <;> intro hc <;> (try simp only [hc]) <;> (try simp only [decide_eq_true_eq, decide_eq_false_iff_not, Bool.not_eq_true', Bool.not_eq_false', Bool.not_eq_true, reduceCtorEq] at hc) <;> (try (exfalso; omega))) | (refine qt7 ?_ ?_; focus decide) | (refine qw7 ?_ ?_ ?_; (focus (decide +kernel)); (focus (decide +kernel))))
    ((first | refine fin_H ?_ | refine fin_He ?_ | refine fin_J ?_ | refine fin_Je ?_ | refine fin_Y ?_ | refine fin_K ?_ | refine fin_T ?_ | refine fin_M ?_); simp only [go_sem, not_false_eq_true, ne_eq, ↓upd_def, Nat.reduceEqDiff, Nat.reduceAdd, ↓reduceIte, reduceCtorEq])
    first | exact hF rfl | exact .inr (hF rfl)
  cases hnm : nameB m
  · have hn : insM xs m o = none := by unfold insM; rw [if_neg (fun h => by rw [hnm] at h; cases h.2.1)]
    rw [hn] at hF
    repeat' (first | ((first | apply qa1 | apply qa2 | apply qa3 | apply qh1 | apply qh2 | apply qg1 rfl | apply qcd); (try intro K hk); focus (simp only [go_sem, Nat.reduceEqDiff, Nat.reduceAdd, Nat.reduceLeDiff, Nat.reduceLT, Nat.reduceSub, Int.reduceToNat, ↓reduceIte, reduceCtorEq, borT, plainV, plainU, resT, hp, hnm, Bool.not_false, Bool.not_true]; first | exact rfl | ((repeat (refine And.intro ?_ ?_; focus (first | omega | assumption | with_reducible rfl))); intros; apply hk; clear hk K))) | apply qw8 | apply qw1 | apply qw6 | apply qt1 | apply qw5 | apply qw2 | apply qw9 | apply qt2 | apply qt3 | apply qt4 | apply qt5 | apply qt6 | apply qw3 | apply qw4 | apply qj1 | apply qj2 | apply qj3 | apply qj4 | apply qj5 | apply qu1 | apply qu2 | (refine qj6 ?_ ?_ <;> intro hc <;> (try simp only [hc]) <;> (try simp only [decide_eq_true_eq, decide_eq_false_iff_not, Bool.not_eq_true', Bool.not_eq_false', Bool.not_eq_true, reduceCtorEq] at hc) <;> (try (exfalso; omega))) | (refine qt7 ?_ ?_; focus decide) | (refine qw7 ?_ ?_ ?_; (focus (decide +kernel)); (focus (decide +kernel))))
    ((first | refine fin_H ?_ | refine fin_He ?_ | refine fin_J ?_ | refine fin_Je ?_ | refine fin_Y ?_ | refine fin_K ?_ | refine fin_T ?_ | refine fin_M ?_); simp only [go_sem, not_false_eq_true, ne_eq, ↓upd_def, Nat.reduceEqDiff, Nat.reduceAdd, ↓reduceIte, reduceCtorEq])
    first | exact hF rfl | exact .inr (hF rfl)
  cases hq : partsB o
  · have hn : insM xs m o = none := by unfold insM; rw [if_neg (fun h => by rw [hq] at h; cases h.2.2)]
    rw [hn] at hF
    repeat' (first | ((first | apply qa1 | apply qa2 | apply qa3 | apply qh1 | apply qh2 | apply qg1 rfl | apply qcd); (try intro K hk); focus (simp only [go_sem, Nat.reduceEqDiff, Nat.reduceAdd, Nat.reduceLeDiff, Nat.reduceLT, Nat.reduceSub, Int.reduceToNat, ↓reduceIte, reduceCtorEq, borT, plainV, plainU, resT, hp, hnm, hq, Bool.not_false, Bool.not_true]; first | exact rfl | ((repeat (refine And.intro ?_ ?_; focus (first | omega | assumption | with_reducible rfl))); intros; apply hk; clear hk K))) | apply qw8 | apply qw1 | apply qw6 | apply qt1 | apply qw5 | apply qw2 | apply qw9 | apply qt2 | apply qt3 | apply qt4 | apply qt5 | apply qt6 | apply qw3 | apply qw4 | apply qj1 | apply qj2 | apply qj3 | apply qj4 | apply qj5 | apply qu1 | apply qu2 | (refine qj6 ?_ ?_ <;> intro hc <;> (try simp only [hc]) <;> (try simp only [decide_eq_true_eq, decide_eq_false_iff_not, Bool.not_eq_true', Bool.not_eq_false', Bool.not_eq_true, reduceCtorEq] at hc) <;> (try (exfalso; omega))) | (refine qt7 ?_ ?_; focus decide) | (refine qw7 ?_ ?_ ?_; (focus (decide +kernel)); (focus (decide +kernel))))
    ((first | refine fin_H ?_ | refine fin_He ?_ | refine fin_J ?_ | refine fin_Je ?_ | refine fin_Y ?_ | refine fin_K ?_ | refine fin_T ?_ | refine fin_M ?_); simp only [go_sem, not_false_eq_true, ne_eq, ↓upd_def, Nat.reduceEqDiff, Nat.reduceAdd, ↓reduceIte, reduceCtorEq])
    first | exact hF rfl | exact .inr (hF rfl)
  have hb := hbb hp hq
  have hw := isL_wt m o xs
  have hwi : wtL (isL m o xs) ≤ 1073741824 := Nat.le_trans hw hb
  have hwr : ∀ r, smG [] (isL m o xs) = some r → wtL r ≤ 1073741824 := fun r h => Nat.le_trans (wt_smG h) hwi
  repeat' (first | ((first | apply qa1 | apply qa2 | apply qa3 | apply qh1 | apply qh2 | apply qg1 rfl | apply qcd); (try intro K hk); focus (simp only [go_sem, Nat.reduceEqDiff, Nat.reduceAdd, Nat.reduceLeDiff, Nat.reduceLT, Nat.reduceSub, Int.reduceToNat, ↓reduceIte, reduceCtorEq, borT, plainV, plainU, resT, hp, hnm, hq, Bool.not_true]; first | exact rfl | ((repeat (refine And.intro ?_ ?_; focus (first | omega | assumption | with_reducible rfl))); intros; apply hk; clear hk K))) | apply qw8 | apply qw1 | apply qw6 | apply qt1 | apply qw5 | apply qw2 | apply qw9 | apply qt2 | apply qt3 | apply qt4 | apply qt5 | apply qt6 | apply qw3 | apply qw4 | apply qj1 | apply qj2 | apply qj3 | apply qj4 | apply qj5 | apply qu1 | apply qu2 | (refine qj6 ?_ ?_ <;> intro hc <;> (try simp only [hc]) <;> (try simp only [decide_eq_true_eq, decide_eq_false_iff_not, Bool.not_eq_true', Bool.not_eq_false', Bool.not_eq_true, reduceCtorEq] at hc) <;> (try (exfalso; omega))) | (refine qt7 ?_ ?_; focus decide) | (refine qw7 ?_ ?_ ?_; (focus (decide +kernel)); (focus (decide +kernel))))
  (refine qa1 fun K hk => ?_); simp only [go_sem, ↓upd_def, ↓evT, Nat.reduceEqDiff, Nat.reduceAdd, Nat.reduceLeDiff, Nat.reduceLT, Nat.reduceSub, Int.reduceToNat, ↓reduceIte, reduceCtorEq, ↓aop, ↓aopc, ↓aopd, borT, plainV, plainU, resT, hp, hnm, hq, Bool.not_true]; repeat (refine And.intro ?_ ?_; focus (first | omega | assumption | with_reducible rfl | (simp only [go_sem, ↓upd_def, ↓evT, Nat.reduceEqDiff, Nat.reduceAdd, Nat.reduceLeDiff, Nat.reduceLT, Nat.reduceSub, Int.reduceToNat, ↓reduceIte, reduceCtorEq, ↓aop, ↓aopc, ↓aopd, borT, plainV, plainU, resT, hp, hnm, hq, Bool.not_true]; done)))
  unfold smT newTB
  refine ⟨isL m o xs, by simp [resT], by omega, ?_, ?_⟩
  · intro q N hsm
    apply hk; clear hk K
    obtain ⟨r, hr, rfl⟩ := Option.map_eq_some_iff.1 hsm
    have hwr' := hwr r hr
    have hlr := len_le_wtL r
    have hi : insM xs m o = if partsB r = true then some r else none := by unfold insM; rw [if_pos ⟨hp, hnm, hq⟩, hr]
    cases hpr : partsB r
    · rw [hi, hpr] at hF
      repeat' (first | ((first | apply qa1 | apply qa2 | apply qa3 | apply qh1 | apply qh2 | apply qg1 rfl | apply qcd); (try intro K hk); focus (simp only [go_sem, Nat.reduceEqDiff, Nat.reduceAdd, Nat.reduceLeDiff, Nat.reduceLT, Nat.reduceSub, Int.reduceToNat, ↓reduceIte, reduceCtorEq, borT, plainV, plainU, resT, lendM, lendG_tree, hpr, Bool.not_false, Bool.not_true]; first | exact rfl | ((repeat (refine And.intro ?_ ?_; focus (first | omega | assumption | with_reducible rfl))); intros; apply hk; clear hk K))) | apply qw8 | apply qw1 | apply qw6 | apply qt1 | apply qw5 | apply qw2 | apply qw9 | apply qt2 | apply qt3 | apply qt4 | apply qt5 | apply qt6 | apply qw3 | apply qw4 | apply qj1 | apply qj2 | apply qj3 | apply qj4 | apply qj5 | apply qu1 | apply qu2 | (refine qj6 ?_ ?_ <;> intro hc <;> (try simp only [hc]) <;> (try simp only [decide_eq_true_eq, decide_eq_false_iff_not, Bool.not_eq_true', Bool.not_eq_false', Bool.not_eq_true, reduceCtorEq] at hc) <;> (try (exfalso; omega))) | (refine qt7 ?_ ?_; focus decide) | (refine qw7 ?_ ?_ ?_; (focus (decide +kernel)); (focus (decide +kernel))))
      ((first | refine fin_H ?_ | refine fin_He ?_ | refine fin_J ?_ | refine fin_Je ?_ | refine fin_Y ?_ | refine fin_K ?_ | refine fin_T ?_ | refine fin_M ?_); simp only [go_sem, not_false_eq_true, ne_eq, ↓upd_def, Nat.reduceEqDiff, Nat.reduceAdd, ↓reduceIte, reduceCtorEq])
      first | exact hF rfl | exact .inr (hF rfl)
    · rw [hi, if_pos hpr] at hK
      repeat' (first | ((first | apply qa1 | apply qa2 | apply qa3 | apply qh1 | apply qh2 | apply qg1 rfl | apply qcd); (try intro K hk); focus (simp only [go_sem, Nat.reduceEqDiff, Nat.reduceAdd, Nat.reduceLeDiff, Nat.reduceLT, Nat.reduceSub, Int.reduceToNat, ↓reduceIte, reduceCtorEq, borT, plainV, plainU, resT, lendM, lendG_tree, hpr, Bool.not_false, Bool.not_true]; first | exact rfl | ((repeat (refine And.intro ?_ ?_; focus (first | omega | assumption | with_reducible rfl))); intros; apply hk; clear hk K))) | apply qw8 | apply qw1 | apply qw6 | apply qt1 | apply qw5 | apply qw2 | apply qw9 | apply qt2 | apply qt3 | apply qt4 | apply qt5 | apply qt6 | apply qw3 | apply qw4 | apply qj1 | apply qj2 | apply qj3 | apply qj4 | apply qj5 | apply qu1 | apply qu2 | (refine qj6 ?_ ?_ <;> intro hc <;> (try simp only [hc]) <;> (try simp only [decide_eq_true_eq, decide_eq_false_iff_not, Bool.not_eq_true', Bool.not_eq_false', Bool.not_eq_true, reduceCtorEq] at hc) <;> (try (exfalso; omega))) | (refine qt7 ?_ ?_; focus decide) | (refine qw7 ?_ ?_ ?_; (focus (decide +kernel)); (focus (decide +kernel))))
      ((first | refine fin_H ?_ | refine fin_He ?_ | refine fin_J ?_ | refine fin_Je ?_ | refine fin_Y ?_ | refine fin_K ?_ | refine fin_T ?_ | refine fin_M ?_); simp only [go_sem, not_false_eq_true, ne_eq, ↓upd_def, Nat.reduceEqDiff, Nat.reduceAdd, ↓reduceIte, reduceCtorEq])
      exact .inl ⟨0, rfl, _, N, rfl, hK _ rfl⟩
  · intro hsm
    apply hk; clear hk K
    have hr : smG [] (isL m o xs) = none := Option.map_eq_none_iff.1 hsm
    have hi : insM xs m o = none := by unfold insM; rw [hr]; simp
    rw [hi] at hF
    repeat' (first | ((first | apply qa1 | apply qa2 | apply qa3 | apply qh1 | apply qh2 | apply qg1 rfl | apply qcd); (try intro K hk); focus (simp only [go_sem, Nat.reduceEqDiff, Nat.reduceAdd, Nat.reduceLeDiff, Nat.reduceLT, Nat.reduceSub, Int.reduceToNat, ↓reduceIte, reduceCtorEq, Bool.not_false, Bool.not_true]; first | exact rfl | ((repeat (refine And.intro ?_ ?_; focus (first | omega | assumption | with_reducible rfl))); intros; apply hk; clear hk K))) | apply qw8 | apply qw1 | apply qw6 | apply qt1 | apply qw5 | apply qw2 | apply qw9 | apply qt2 | apply qt3 | apply qt4 | apply qt5 | apply qt6 | apply qw3 | apply qw4 | apply qj1 | apply qj2 | apply qj3 | apply qj4 | apply qj5 | apply qu1 | apply qu2 | (refine qj6 ?_ ?_ <;> intro hc <;> (try simp only [hc]) <;> (try simp only [decide_eq_true_eq, decide_eq_false_iff_not, Bool.not_eq_true', Bool.not_eq_false', Bool.not_eq_true, reduceCtorEq] at hc) <;> (try (exfalso; omega))) | (refine qt7 ?_ ?_; focus decide) | (refine qw7 ?_ ?_ ?_; (focus (decide +kernel)); (focus (decide +kernel))))
    ((first | refine fin_H ?_ | refine fin_He ?_ | refine fin_J ?_ | refine fin_Je ?_ | refine fin_Y ?_ | refine fin_K ?_ | refine fin_T ?_ | refine fin_M ?_); simp only [go_sem, not_false_eq_true, ne_eq, ↓upd_def, Nat.reduceEqDiff, Nat.reduceAdd, ↓reduceIte, reduceCtorEq])
    first | exact hF rfl | exact .inr (hF rfl)
end Go.Proofs.Ytdedddmnacomfaa
