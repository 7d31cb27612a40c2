/- Simpler parts as trees of rows. -/
import Derived.Test.YtdedddmnacomfaaWT5
import Derived.Test.YtdedddmnacomfaaWX17

namespace Go.Proofs.Ytdedddmnacomfaa
attribute [local irreducible] awp arun acalm FinP Fin AX.then AX.inBlock Again aG gsel amix amixN amixC aop aopc aopd cutK
attribute [local go_sem] aBSliceD aSlice aSliceC boundOf aMk aCall aCallC aLenL aLen aPick_t aPick_f aNil aAlloc aBox aBuild bldPV aBSlice bsPV aApp newsOf destOf drp aConvX aConv aConvInt aLoad cellsAt aStore cellsPV setAt aFld aField aIdx aIndex aUn aBin' aBin aMax aExtract pvOf PV.isCell nmbL PV.nmb List.map_cons List.map_nil List.all_cons List.all_nil Bool.and_true Bool.true_and if_true if_false List.getD_cons_zero List.getD_cons_succ List.getD_nil Option.isSome_some true_and and_true and_self eq_self true_or or_true List.drop_zero List.drop_succ_cons List.drop_nil List.take_zero List.take_succ_cons List.take_nil List.length_cons List.length_nil List.length_map Option.getD_some Option.getD_none List.nil_append List.cons_append List.append_nil Option.some.injEq exists_eq_left' List.getElem?_cons_zero List.getElem?_cons_succ Int.toNat_natCast Int.natCast_inj toNat_succ Nat.zero_add res res1 resC owns owns1 ownsC List.flatMap_cons List.flatMap_nil List.flatten_cons List.flatten_nil List.mem_cons List.not_mem_nil or_false false_or forall_eq forall_eq_or_imp isFro frz frz1 pureC tabA isBld List.cons.injEq PV.seq.injEq PV.int.injEq PV.str.injEq PV.bool.injEq PV.agg.injEq inR tab Γof aRes packR Option.map_some Option.map_none rel Prod.exists exists_and_left exists_eq_left and_assoc beq_self_eq_true Bool.not_true Bool.not_false decide_true decide_false List.set_cons_zero List.set_cons_succ rst_nil rst_cons
attribute [local go_sem ↓] evT upd_def aop aopc aopd
set_option maxRecDepth 100000
set_option linter.unusedVariables false
set_option linter.unusedSimpArgs false
open Go.RowKit
def lvT8_55 : Nat → List Nat
  | 0 => [0]
  | 1 => [0, 4]
  | 2 => [4, 13, 14, 15]
  | 3 => [4, 13, 14, 15, 16]
  | 4 => [4, 6, 13, 14, 15]
  | 5 => [4, 6, 7, 8, 13, 14, 15]
  | 6 => [4, 6, 7, 8, 9, 10, 13, 14, 15]
  | 7 => [4, 6, 7, 9, 13, 14, 15, 36]
  | 8 => [2, 3]
  | 9 => [4, 6, 7, 9, 13, 14, 15]
  | 10 => [4, 6, 13, 14, 15, 56]
  | 11 => [4, 6, 11, 13, 14, 15]
  | 12 => [4, 6, 11, 13, 14, 15, 74]
  | 13 => [4, 11, 13, 14, 15]
  | 14 => [4, 13, 14, 15, 91]
  | 15 => [2, 3]
  | 16 => [4, 13, 14, 15]
  | 17 => [4, 13, 14, 15]
  | 18 => [2, 3]
  | _ => []
--LV=T8
theorem TL_a5 : ∀ {xs : List PartD} {rs : List (List PV)} {N : List Node}, TL xs rs N → ∀ e ∈ rs, e.length = 5
  | [], rs, N, h => by rw [TL_nil] at h; rw [h.1]; intro e he; cases he
  | x :: xs, rs, N, h => by
    rw [TL_cons] at h
    obtain ⟨a, N1, rs', N2, rfl, h1, h2, _⟩ := h
    intro e he
    rcases List.mem_cons.1 he with rfl | he
    · exact (TP_plain h1).2
    · exact TL_a5 h2 e he
theorem TL_at : ∀ {xs : List PartD} {rs : List (List PV)} {N : List Node} {j : Nat} {k : Int} {t n : Bs} {ps os : List PartD}, TL xs rs N → xs[j]? = some (.mk k t n ps os) →
    ∃ v1 v2, rs[j]? = some [.int .i64 k, .str t, .str n, .raw v1, .raw v2] ∧ ∀ t', TL (xs.set j (.mk k t' n ps os)) (rs.set j [.int .i64 k, .str t', .str n, .raw v1, .raw v2]) N
  | [], rs, N, j, k, t, n, ps, os, h, hx => by simp at hx
  | x :: xs, rs, N, 0, k, t, n, ps, os, h, hx => by
    obtain rfl : x = .mk k t n ps os := by simpa using hx
    rw [TL_cons] at h
    obtain ⟨a, N1, rs', N2, rfl, h1, h2, rfl⟩ := h
    rw [TP_mk] at h1
    obtain ⟨v1, r1, M1, v2, r2, M2, rfl, g1, g2, rfl⟩ := h1
    refine ⟨v1, v2, rfl, fun t' => ?_⟩
    rw [List.set_cons_zero, List.set_cons_zero, TL_cons]
    exact ⟨_, _, rs', N2, rfl, TP_mk.2 ⟨v1, r1, M1, v2, r2, M2, rfl, g1, g2, rfl⟩, h2, rfl⟩
  | x :: xs, rs, N, j + 1, k, t, n, ps, os, h, hx => by
    rw [TL_cons] at h
    obtain ⟨a, N1, rs', N2, rfl, h1, h2, rfl⟩ := h
    obtain ⟨v1, v2, g1, g2⟩ := TL_at h2 (by simpa using hx)
    refine ⟨v1, v2, by simpa using g1, fun t' => ?_⟩
    rw [List.set_cons_succ, List.set_cons_succ, TL_cons]
    exact ⟨a, N1, _, N2, rfl, h1, g2 t', rfl⟩
theorem perm_more {A N G M : List Node} (h : (A ++ N ++ G).Perm M) (X : List Node) : (A ++ N ++ (G ++ X)).Perm (M ++ X) := by
  rw [← List.append_assoc]; exact h.append_right X
theorem perm_keep {A N G M : List Node} (h : (A ++ N ++ G).Perm M) (X : List Node) : (A ++ (N ++ X) ++ G).Perm (M ++ X) := by
  have h1 := h.append_right X
  refine List.Perm.trans ?_ h1
  rw [← List.append_assoc, List.append_assoc (A ++ N), List.append_assoc (A ++ N)]
  exact (List.perm_append_comm).append_left _
theorem perm_all {A N G M : List Node} (h : (A ++ N ++ G).Perm M) : (A ++ (N ++ G)).Perm M := by rw [← List.append_assoc]; exact h
def spB (n : Nat) : AC := jinB 63 5 (α := List PartD) (fun x => [.seq (encPs x)]) (fun x => wtL x < n ∧ wtL x ≤ 1099511627776) (fun x es N => ∃ y, smG [] x = some y ∧ TL y es N) (fun x => smG [] x = none)
set_option maxHeartbeats 16000000 in
theorem spB_i : ∀ n, ACok Try.prog 55 (spB n) := by
  intro n
  induction n with
  | zero => exact ⟨⟨_, Try.func55, by kernel_rfl, by kernel_rfl⟩, fun c mem n av vs K hI hn hr hC => by
      obtain ⟨x, A, _, _, hp, _⟩ := hC
      omega⟩
  | succ n ih =>
  refine jinB_ok 1 (tabA_cons ih (tabA_nil (Γof_ok tab_nil))) tab_nil mixed [.tmp 2, .tmp 3] Try.func55 rfl rfl (by kernel_rfl) (by kernel_rfl) (fun _ => rfl) (by kernel_rfl) (fun x => by simp [nmbL, PV.nmb]) ?_
  rintro xs A K F ⟨hn, hb⟩ hK hF
  clear ih
  have hlw := len_le_wtL xs
  unfold entry
  simp only [mkM]
  repeat' (first | ((first | apply qwd | apply qa1 | apply qa2 | apply qa3 | apply qh1 | apply qh2 | apply qg1 rfl | apply qcd); (try intro K hk); focus (simp only [lvT8_55, mkT, go_sem, Nat.reduceEqDiff, Nat.reduceAdd, Nat.reduceLeDiff, Nat.reduceLT, Nat.reduceSub, Int.reduceToNat, ↓reduceIte, reduceCtorEq, encPs_length]; first | exact rfl | ((repeat (refine And.intro ?_ ?_; focus (first | omega | assumption | with_reducible rfl))); intros; apply hk; clear hk K))) | apply qw8 | apply qw1 | refine qwc lvT8_55 ?_ | apply qt1 | apply qw5 | apply qw2 | apply qw9 | apply qt2 | apply qt3 | apply qt4 | apply qt5 | apply qt6 | apply qw3 | apply qw4 | apply qj1 | apply qj2 | apply qj3 | apply qj4 | apply qj5 | apply qu1 | apply qu2 | (refine qj6 ?_ ?_ <;> intro hc <;> (try simp only [hc]) <;> (try simp only [decide_eq_true_eq, decide_eq_false_iff_not, Bool.not_eq_true', Bool.not_eq_false', Bool.not_eq_true, reduceCtorEq] at hc) <;> (try (exfalso; omega))) | (refine qt7 ?_ ?_; focus decide) | (refine qw7 ?_ ?_ ?_; (focus (decide +kernel)); (focus (decide +kernel))))
  refine s_loop (ι := Nat × List PartD × List (List PV) × List Node × List Node × List Node) (fun i => [(4, .own 1), (13, .seq (encPs xs)), (14, .int .i64 xs.length), (15, .int .i64 i.1)]) (fun i => [(0, .gen heapP [encL i.2.2.2.2.1]), (1, .row 63 5 i.2.2.1)]) 2
    (fun i => i.1 ≤ xs.length ∧ smG [] (xs.take i.1) = some i.2.1 ∧ TL i.2.1 i.2.2.1 i.2.2.2.1 ∧ (A ++ i.2.2.2.1 ++ i.2.2.2.2.2).Perm i.2.2.2.2.1) (fun i => xs.length - i.1) (0, [], [], [], A, []) (by omega) ⟨Nat.zero_le _, smG_nil _, TL_nil.2 ⟨rfl, rfl⟩, by simp⟩ ?_ ?_
  · simp [fits, fitsT, fitsM, upd_def, PV.nmb, nmbL, MB.nmb, List.getD_cons_zero, List.getD_cons_succ]
  rintro ⟨k, o, ra, Na, M0, G⟩ ⟨hk, ho, hT, hP⟩
  dsimp only at hk ho hT hP
  simp only [mkS, mkT, mkM]
  have hra := TL_len hT
  by_cases hkl : k < xs.length
  · obtain ⟨⟨kd, t, nm, ps, os⟩, hx⟩ := get_some (xs := xs) (k := k) (by omega)
    have htk := take_snoc' hx
    have ws := wtL_split hx
    rw [wtP_mk] at ws
    have hget := encPs_get xs
    have hs := smG_snoc (out := []) hx
    rw [ho] at hs
    have hwo : wtL o ≤ wtL xs := by have := wt_smG ho; have := wtL_append (xs.take k) (xs.drop k); rw [List.take_append_drop] at this; omega
    have hol := len_le_wtL o
    have hta : (∀ e ∈ ra, e.length = 5) = True := eq_true (TL_a5 hT)
    have hw1 : ∀ r, smG [] ps = some r → wtL r ≤ wtL ps := fun r h => wt_smG h
    have hw2 : ∀ r, smG [] os = some r → wtL r ≤ wtL os := fun r h => wt_smG h
    have hsp := smP_mk kd t nm ps os
    repeat' (first | ((first | apply qwd | apply qa1 | apply qa2 | apply qa3 | apply qh1 | apply qh2 | apply qg1 rfl | apply qcd); (try intro K hk); focus (simp only [lvT8_55, mkT, go_sem, Nat.reduceEqDiff, Nat.reduceAdd, Nat.reduceLeDiff, Nat.reduceLT, Nat.reduceSub, Int.reduceToNat, ↓reduceIte, reduceCtorEq, encPs_length, hget, hx, encP_mk]; first | exact rfl | ((repeat (refine And.intro ?_ ?_; focus (first | omega | assumption | with_reducible rfl))); intros; apply hk; clear hk K))) | apply qw8 | apply qw1 | refine qwc lvT8_55 ?_ | apply qt1 | apply qw5 | apply qw2 | apply qw9 | apply qt2 | apply qt3 | apply qt4 | apply qt5 | apply qt6 | apply qw3 | apply qw4 | apply qj1 | apply qj2 | apply qj3 | apply qj4 | apply qj5 | apply qu1 | apply qu2 | (refine qj6 ?_ ?_ <;> intro hc <;> (try simp only [hc]) <;> (try simp only [decide_eq_true_eq, decide_eq_false_iff_not, Bool.not_eq_true', Bool.not_eq_false', Bool.not_eq_true, reduceCtorEq] at hc) <;> (try (exfalso; omega))) | (refine qt7 ?_ ?_; focus decide) | (refine qw7 ?_ ?_ ?_; (focus (decide +kernel)); (focus (decide +kernel))))
    (refine qa1 fun K hk => ?_); simp only [go_sem, ↓upd_def, ↓evT, Nat.reduceEqDiff, Nat.reduceAdd, Nat.reduceLeDiff, Nat.reduceLT, Nat.reduceSub, Int.reduceToNat, ↓reduceIte, reduceCtorEq, ↓aop, ↓aopc, ↓aopd, encPs_length, hget, hx, encP_mk]; repeat (refine And.intro ?_ ?_; focus (first | omega | assumption | with_reducible rfl | (simp only [go_sem, ↓upd_def, ↓evT, Nat.reduceEqDiff, Nat.reduceAdd, Nat.reduceLeDiff, Nat.reduceLT, Nat.reduceSub, Int.reduceToNat, ↓reduceIte, reduceCtorEq, ↓aop, ↓aopc, ↓aopd, encPs_length, hget, hx, encP_mk]; done)))
    unfold spB jinB
    refine ⟨ps, M0, rfl, rfl, ⟨by omega, by omega⟩, ?_, ?_⟩
    rotate_left
    · intro hA
      apply hk; clear hk K
      have hst : smG [] xs = none := smG_stop (k + 1) (by rw [hs]; rw [hA] at hsp; simp [hsp])
      repeat' (first | ((first | apply qwd | apply qa1 | apply qa2 | apply qa3 | apply qh1 | apply qh2 | apply qg1 rfl | apply qcd); (try intro K hk); focus (simp only [lvT8_55, mkT, go_sem, Nat.reduceEqDiff, Nat.reduceAdd, Nat.reduceLeDiff, Nat.reduceLT, Nat.reduceSub, Int.reduceToNat, ↓reduceIte, reduceCtorEq, encPs_length, hget, hx, encP_mk]; first | exact rfl | ((repeat (refine And.intro ?_ ?_; focus (first | omega | assumption | with_reducible rfl))); intros; apply hk; clear hk K))) | apply qw8 | apply qw1 | refine qwc lvT8_55 ?_ | apply qt1 | apply qw5 | apply qw2 | apply qw9 | apply qt2 | apply qt3 | apply qt4 | apply qt5 | apply qt6 | apply qw3 | apply qw4 | apply qj1 | apply qj2 | apply qj3 | apply qj4 | apply qj5 | apply qu1 | apply qu2 | (refine qj6 ?_ ?_ <;> intro hc <;> (try simp only [hc]) <;> (try simp only [decide_eq_true_eq, decide_eq_false_iff_not, Bool.not_eq_true', Bool.not_eq_false', Bool.not_eq_true, reduceCtorEq] at hc) <;> (try (exfalso; omega))) | (refine qt7 ?_ ?_; focus decide) | (refine qw7 ?_ ?_ ?_; (focus (decide +kernel)); (focus (decide +kernel))))
      (refine qa1 fun K hk => ?_); simp only [go_sem, ↓upd_def, ↓evT, Nat.reduceEqDiff, Nat.reduceAdd, Nat.reduceLeDiff, Nat.reduceLT, Nat.reduceSub, Int.reduceToNat, ↓reduceIte, reduceCtorEq, ↓aop, ↓aopc, ↓aopd, encPs_length, hget, hx, encP_mk]; repeat (refine And.intro ?_ ?_; focus (first | omega | assumption | with_reducible rfl | (simp only [go_sem, ↓upd_def, ↓evT, Nat.reduceEqDiff, Nat.reduceAdd, Nat.reduceLeDiff, Nat.reduceLT, Nat.reduceSub, Int.reduceToNat, ↓reduceIte, reduceCtorEq, ↓aop, ↓aopc, ↓aopd, encPs_length, hget, hx, encP_mk]; done)))
      unfold spB jinB
      refine ⟨os, M0, rfl, rfl, ⟨by omega, by omega⟩, ?_, ?_⟩
      · rintro v2 r2 N2 hv2 ⟨a2, c2, rfl⟩ ⟨b, hB, hT2⟩
        apply hk; clear hk K
        repeat' (first | ((first | apply qwd | apply qa1 | apply qa2 | apply qa3 | apply qh1 | apply qh2 | apply qg1 rfl | apply qcd); (try intro K hk); focus (simp only [lvT8_55, mkT, go_sem, Nat.reduceEqDiff, Nat.reduceAdd, Nat.reduceLeDiff, Nat.reduceLT, Nat.reduceSub, Int.reduceToNat, ↓reduceIte, reduceCtorEq, hv2, Bool.not_false, Bool.not_true]; first | exact rfl | ((repeat (refine And.intro ?_ ?_; focus (first | omega | assumption | with_reducible rfl))); intros; apply hk; clear hk K))) | apply qw8 | apply qw1 | refine qwc lvT8_55 ?_ | apply qt1 | apply qw5 | apply qw2 | apply qw9 | apply qt2 | apply qt3 | apply qt4 | apply qt5 | apply qt6 | apply qw3 | apply qw4 | apply qj1 | apply qj2 | apply qj3 | apply qj4 | apply qj5 | apply qu1 | apply qu2 | (refine qj6 ?_ ?_ <;> intro hc <;> (try simp only [hc]) <;> (try simp only [decide_eq_true_eq, decide_eq_false_iff_not, Bool.not_eq_true', Bool.not_eq_false', Bool.not_eq_true, reduceCtorEq] at hc) <;> (try (exfalso; omega))) | (refine qt7 ?_ ?_; focus decide) | (refine qw7 ?_ ?_ ?_; (focus (decide +kernel)); (focus (decide +kernel))))
        ((first | refine fin_H ?_ | refine fin_He ?_ | refine fin_J ?_ | refine fin_Je ?_ | refine fin_Y ?_ | refine fin_K ?_ | refine fin_T ?_ | refine fin_M ?_); simp only [go_sem, not_false_eq_true, ne_eq, ↓upd_def, Nat.reduceEqDiff, Nat.reduceAdd, ↓reduceIte, reduceCtorEq])
        exact .inr ⟨_, _, rfl, perm_all (perm_more hP _), hF hst⟩
      · intro hB
        apply hk; clear hk K
        repeat' (first | ((first | apply qwd | apply qa1 | apply qa2 | apply qa3 | apply qh1 | apply qh2 | apply qg1 rfl | apply qcd); (try intro K hk); focus (simp only [lvT8_55, mkT, go_sem, Nat.reduceEqDiff, Nat.reduceAdd, Nat.reduceLeDiff, Nat.reduceLT, Nat.reduceSub, Int.reduceToNat, ↓reduceIte, reduceCtorEq, Bool.not_false, Bool.not_true]; first | exact rfl | ((repeat (refine And.intro ?_ ?_; focus (first | omega | assumption | with_reducible rfl))); intros; apply hk; clear hk K))) | apply qw8 | apply qw1 | refine qwc lvT8_55 ?_ | apply qt1 | apply qw5 | apply qw2 | apply qw9 | apply qt2 | apply qt3 | apply qt4 | apply qt5 | apply qt6 | apply qw3 | apply qw4 | apply qj1 | apply qj2 | apply qj3 | apply qj4 | apply qj5 | apply qu1 | apply qu2 | (refine qj6 ?_ ?_ <;> intro hc <;> (try simp only [hc]) <;> (try simp only [decide_eq_true_eq, decide_eq_false_iff_not, Bool.not_eq_true', Bool.not_eq_false', Bool.not_eq_true, reduceCtorEq] at hc) <;> (try (exfalso; omega))) | (refine qt7 ?_ ?_; focus decide) | (refine qw7 ?_ ?_ ?_; (focus (decide +kernel)); (focus (decide +kernel))))
        ((first | refine fin_H ?_ | refine fin_He ?_ | refine fin_J ?_ | refine fin_Je ?_ | refine fin_Y ?_ | refine fin_K ?_ | refine fin_T ?_ | refine fin_M ?_); simp only [go_sem, not_false_eq_true, ne_eq, ↓upd_def, Nat.reduceEqDiff, Nat.reduceAdd, ↓reduceIte, reduceCtorEq])
        exact .inr ⟨_, _, rfl, perm_all hP, hF hst⟩
    rintro v1 r1 N1 hv1 ⟨a1, c1, rfl⟩ ⟨a, hA, hT1⟩
    apply hk; clear hk K
    repeat' (first | ((first | apply qwd | apply qa1 | apply qa2 | apply qa3 | apply qh1 | apply qh2 | apply qg1 rfl | apply qcd); (try intro K hk); focus (simp only [lvT8_55, mkT, go_sem, Nat.reduceEqDiff, Nat.reduceAdd, Nat.reduceLeDiff, Nat.reduceLT, Nat.reduceSub, Int.reduceToNat, ↓reduceIte, reduceCtorEq, encPs_length, hget, hx, encP_mk, hv1]; first | exact rfl | ((repeat (refine And.intro ?_ ?_; focus (first | omega | assumption | with_reducible rfl))); intros; apply hk; clear hk K))) | apply qw8 | apply qw1 | refine qwc lvT8_55 ?_ | apply qt1 | apply qw5 | apply qw2 | apply qw9 | apply qt2 | apply qt3 | apply qt4 | apply qt5 | apply qt6 | apply qw3 | apply qw4 | apply qj1 | apply qj2 | apply qj3 | apply qj4 | apply qj5 | apply qu1 | apply qu2 | (refine qj6 ?_ ?_ <;> intro hc <;> (try simp only [hc]) <;> (try simp only [decide_eq_true_eq, decide_eq_false_iff_not, Bool.not_eq_true', Bool.not_eq_false', Bool.not_eq_true, reduceCtorEq] at hc) <;> (try (exfalso; omega))) | (refine qt7 ?_ ?_; focus decide) | (refine qw7 ?_ ?_ ?_; (focus (decide +kernel)); (focus (decide +kernel))))
    (refine qa1 fun K hk => ?_); simp only [go_sem, ↓upd_def, ↓evT, Nat.reduceEqDiff, Nat.reduceAdd, Nat.reduceLeDiff, Nat.reduceLT, Nat.reduceSub, Int.reduceToNat, ↓reduceIte, reduceCtorEq, ↓aop, ↓aopc, ↓aopd, encPs_length, hget, hx, encP_mk, hv1]; repeat (refine And.intro ?_ ?_; focus (first | omega | assumption | with_reducible rfl | (simp only [go_sem, ↓upd_def, ↓evT, Nat.reduceEqDiff, Nat.reduceAdd, Nat.reduceLeDiff, Nat.reduceLT, Nat.reduceSub, Int.reduceToNat, ↓reduceIte, reduceCtorEq, ↓aop, ↓aopc, ↓aopd, encPs_length, hget, hx, encP_mk, hv1]; done)))
    unfold spB jinB
    refine ⟨os, _, rfl, rfl, ⟨by omega, by omega⟩, ?_, ?_⟩
    rotate_left
    · intro hB
      apply hk; clear hk K
      have hst : smG [] xs = none := smG_stop (k + 1) (by rw [hs]; rw [hA, hB] at hsp; simp [hsp])
      repeat' (first | ((first | apply qwd | apply qa1 | apply qa2 | apply qa3 | apply qh1 | apply qh2 | apply qg1 rfl | apply qcd); (try intro K hk); focus (simp only [lvT8_55, mkT, go_sem, Nat.reduceEqDiff, Nat.reduceAdd, Nat.reduceLeDiff, Nat.reduceLT, Nat.reduceSub, Int.reduceToNat, ↓reduceIte, reduceCtorEq, hv1, Bool.not_false, Bool.not_true]; first | exact rfl | ((repeat (refine And.intro ?_ ?_; focus (first | omega | assumption | with_reducible rfl))); intros; apply hk; clear hk K))) | apply qw8 | apply qw1 | refine qwc lvT8_55 ?_ | apply qt1 | apply qw5 | apply qw2 | apply qw9 | apply qt2 | apply qt3 | apply qt4 | apply qt5 | apply qt6 | apply qw3 | apply qw4 | apply qj1 | apply qj2 | apply qj3 | apply qj4 | apply qj5 | apply qu1 | apply qu2 | (refine qj6 ?_ ?_ <;> intro hc <;> (try simp only [hc]) <;> (try simp only [decide_eq_true_eq, decide_eq_false_iff_not, Bool.not_eq_true', Bool.not_eq_false', Bool.not_eq_true, reduceCtorEq] at hc) <;> (try (exfalso; omega))) | (refine qt7 ?_ ?_; focus decide) | (refine qw7 ?_ ?_ ?_; (focus (decide +kernel)); (focus (decide +kernel))))
      ((first | refine fin_H ?_ | refine fin_He ?_ | refine fin_J ?_ | refine fin_Je ?_ | refine fin_Y ?_ | refine fin_K ?_ | refine fin_T ?_ | refine fin_M ?_); simp only [go_sem, not_false_eq_true, ne_eq, ↓upd_def, Nat.reduceEqDiff, Nat.reduceAdd, ↓reduceIte, reduceCtorEq])
      exact .inr ⟨_, _, rfl, perm_all (perm_more hP _), hF hst⟩
    rintro v2 r2 N2 hv2 ⟨a2, c2, rfl⟩ ⟨b, hB, hT2⟩
    apply hk; clear hk K
    have hla := len_le_wtL a
    have hlb := len_le_wtL b
    have := hw1 a hA
    have := hw2 b hB
    have hl1 := TL_len hT1
    have hl2 := TL_len hT2
    rw [hA, hB] at hsp
    simp only [Option.bind_some, hsp] at hs
    have hP2 := perm_more (perm_more hP (⟨.slice a1 r1.length c1, 63, 5, r1⟩ :: N1)) (⟨.slice a2 r2.length c2, 63, 5, r2⟩ :: N2)
    have hP3 := perm_keep (perm_keep hP (⟨.slice a1 r1.length c1, 63, 5, r1⟩ :: N1)) (⟨.slice a2 r2.length c2, 63, 5, r2⟩ :: N2)
    have hTn := TL_app hT (TL_one (TP_mk.2 ⟨.slice a1 r1.length c1, r1, N1, .slice a2 r2.length c2, r2, N2, rfl, hT1, hT2, rfl⟩ : TP (.mk kd t nm a b) _ _))
    have hem : (kd = 3 ∨ kd = 4) → a.length + b.length = 0 → putS o (.mk kd t nm a b) = some o := fun h1 h2 => put_skip ((emptyK_mk _ _ _ _ _).2 ⟨h1, List.length_eq_zero_iff.1 (by omega), List.length_eq_zero_iff.1 (by omega)⟩)
    have hne : ¬ ((kd = 3 ∨ kd = 4) ∧ a.length + b.length = 0) → emptyK (.mk kd t nm a b) = false := fun h => by
      rw [Bool.eq_false_iff]
      intro h9
      obtain ⟨h1, rfl, rfl⟩ := (emptyK_mk _ _ _ _ _).1 h9
      exact h ⟨h1, rfl⟩
    by_cases ho0 : o = []
    · have hz : o.length = 0 := by rw [ho0]; rfl
      have hz0 : ((ra.length : Int) - 1 ≥ 0) = False := eq_false (by omega)
      repeat' (first | ((first | apply qwd | apply qa1 | apply qa2 | apply qa3 | apply qh1 | apply qh2 | apply qg1 rfl | apply qcd); (try intro K hk); focus (simp only [lvT8_55, mkT, go_sem, Nat.reduceEqDiff, Nat.reduceAdd, Nat.reduceLeDiff, Nat.reduceLT, Nat.reduceSub, Int.reduceToNat, ↓reduceIte, reduceCtorEq, encPs_length, hget, hx, encP_mk, hv1, hv2, hta, Bool.not_false, Bool.not_true]; first | exact rfl | ((repeat (refine And.intro ?_ ?_; focus (first | omega | assumption | with_reducible rfl))); intros; apply hk; clear hk K))) | apply qw8 | apply qw1 | refine qwc lvT8_55 ?_ | apply qt1 | apply qw5 | apply qw2 | apply qw9 | apply qt2 | apply qt3 | apply qt4 | apply qt5 | apply qt6 | apply qw3 | apply qw4 | apply qj1 | apply qj2 | apply qj3 | apply qj4 | apply qj5 | apply qu1 | apply qu2 | (refine qj6 ?_ ?_ <;> intro hc <;> (try simp only [hc]) <;> (try simp only [decide_eq_true_eq, decide_eq_false_iff_not, Bool.not_eq_true', Bool.not_eq_false', Bool.not_eq_true, reduceCtorEq] at hc) <;> (try (exfalso; omega))) | (refine qt7 ?_ ?_; focus decide) | (refine qw7 ?_ ?_ ?_; (focus (decide +kernel)); (focus (decide +kernel))))
      all_goals first
        | (rw [hem (by omega) (by omega)] at hs
           refine s_again ((k + 1, o, ra, Na, M0 ++ (⟨.slice a1 r1.length c1, 63, 5, r1⟩ :: N1) ++ (⟨.slice a2 r2.length c2, 63, 5, r2⟩ :: N2), G ++ (⟨.slice a1 r1.length c1, 63, 5, r1⟩ :: N1) ++ (⟨.slice a2 r2.length c2, 63, 5, r2⟩ :: N2))) ?_ ?_ ?_ <;> (first | omega | (dsimp only; omega) | skip)
           · exact ⟨by dsimp only; omega, hs, hT, hP2⟩
           · simp [fits, fitsT, fitsM, upd_def, PV.nmb, nmbL, MB.nmb, List.getD_cons_zero, List.getD_cons_succ])
        | (rw [put_new (hne (by omega)) (.inr (by rw [ho0]; rfl))] at hs
           refine s_againR ((k + 1, o ++ [.mk kd t nm a b], ra ++ [[.int .i64 kd, .str t, .str nm, .raw (.slice a1 r1.length c1), .raw (.slice a2 r2.length c2)]], Na ++ (⟨.slice a1 r1.length c1, 63, 5, r1⟩ :: N1) ++ (⟨.slice a2 r2.length c2, 63, 5, r2⟩ :: N2), M0 ++ (⟨.slice a1 r1.length c1, 63, 5, r1⟩ :: N1) ++ (⟨.slice a2 r2.length c2, 63, 5, r2⟩ :: N2), G)) (fun i => if i = 1 then 4 else i) ?_ ?_ ?_ ?_ ?_ ?_ <;> (first | omega | (dsimp only; omega) | (intro i hi; (try dsimp only); (repeat' split) <;> omega) | (intro i j hi hj h; (try dsimp only at h); (repeat' split at h) <;> omega) | skip)
           · exact ⟨by dsimp only; omega, hs, by rw [List.append_assoc]; exact hTn, hP3⟩
           all_goals (simp [fitsTR, fitsMR, PV.ren, renL, MB.ren, upd_def, PV.nmb, nmbL, MB.nmb, List.getD_cons_zero, List.getD_cons_succ, frz, drp]; done))
        | skip
    · have hlp : 0 < o.length := List.length_pos_iff.2 ho0
      obtain ⟨⟨k2, t2, n2, a2', b2'⟩, hy⟩ := get_some (xs := o) (k := o.length - 1) (by omega)
      have hpr : ((ra.length : Int) - 1).toNat = ra.length - 1 := by omega
      have wy := wtL_split hy
      rw [wtP_mk] at wy
      have hend := endT_at hy
      obtain ⟨w1, w2, hg, hTs⟩ := TL_at hT hy
      rw [← hra] at hg
      obtain ⟨ra', hra'⟩ : ∃ ra', ra' = ra.set (ra.length - 1) [.int .i64 k2, .str (t2 ++ t), .str n2, .raw w1, .raw w2] := ⟨_, rfl⟩
      have hTs : TL (o.set (o.length - 1) (.mk k2 (t2 ++ t) n2 a2' b2')) ra' Na := by rw [hra', hra]; exact hTs (t2 ++ t)
      have hset : ra.set (ra.length - 1) [.int .i64 k2, .str (t2 ++ t), .str n2, .raw w1, .raw w2] = ra' := hra'.symm
      have hl' : ra'.length = ra.length := by rw [hra', List.length_set]
      have hy' : ra'[ra.length - 1]? = some [.int .i64 k2, .str (t2 ++ t), .str n2, .raw w1, .raw w2] := by rw [hra', List.getElem?_set_self (by omega)]
      repeat' (first | (first | ((first | apply qwd | apply qa1 | apply qa2 | apply qa3 | apply qh1 | apply qh2 | apply qg1 rfl | apply qcd); (try intro K hk); focus (simp only [lvT8_55, mkT, go_sem, Nat.reduceEqDiff, Nat.reduceAdd, Nat.reduceLeDiff, Nat.reduceLT, Nat.reduceSub, Int.reduceToNat, ↓reduceIte, reduceCtorEq, encPs_length, hset, hl', hy', hg, hget, hx, encP_mk, hv1, hv2, hta, hpr, Bool.not_false, Bool.not_true, List.length_append]; first | exact rfl | ((repeat (refine And.intro ?_ ?_; focus (first | omega | assumption | with_reducible rfl))); intros; apply hk; clear hk K))) | apply qw8 | apply qw1 | refine qwc lvT8_55 ?_ | apply qt1 | apply qw5 | apply qw2 | apply qw9 | apply qt2 | apply qt3 | apply qt4 | apply qt5 | apply qt6 | apply qw3 | apply qw4 | apply qj1 | apply qj2 | apply qj3 | apply qj4 | apply qj5 | apply qu1 | apply qu2 | (refine qj6 ?_ ?_ <;> intro hc <;> (try simp only [hc]) <;> (try simp only [decide_eq_true_eq, decide_eq_false_iff_not, Bool.not_eq_true', Bool.not_eq_false', Bool.not_eq_true, reduceCtorEq] at hc) <;> (try (exfalso; omega))) | (refine qt7 ?_ ?_; focus decide) | (refine qw7 ?_ ?_ ?_; (focus (decide +kernel)); (focus (decide +kernel)))) | (refine s_draw 10 ?_ ?_; focus (decide +kernel)))
      all_goals first
        | (rw [hem (by omega) (by omega)] at hs
           refine s_again ((k + 1, o, ra, Na, M0 ++ (⟨.slice a1 r1.length c1, 63, 5, r1⟩ :: N1) ++ (⟨.slice a2 r2.length c2, 63, 5, r2⟩ :: N2), G ++ (⟨.slice a1 r1.length c1, 63, 5, r1⟩ :: N1) ++ (⟨.slice a2 r2.length c2, 63, 5, r2⟩ :: N2))) ?_ ?_ ?_ <;> (first | omega | (dsimp only; omega) | skip)
           · exact ⟨by dsimp only; omega, hs, hT, hP2⟩
           · simp [fits, fitsT, fitsM, upd_def, PV.nmb, nmbL, MB.nmb, List.getD_cons_zero, List.getD_cons_succ])
        | (rw [put_new (hne (by omega)) (by first | exact .inl ‹¬ kd = 1› | exact .inr (by rw [hend, if_neg ‹¬ k2 = 1›]))] at hs
           refine s_againR ((k + 1, o ++ [.mk kd t nm a b], ra ++ [[.int .i64 kd, .str t, .str nm, .raw (.slice a1 r1.length c1), .raw (.slice a2 r2.length c2)]], Na ++ (⟨.slice a1 r1.length c1, 63, 5, r1⟩ :: N1) ++ (⟨.slice a2 r2.length c2, 63, 5, r2⟩ :: N2), M0 ++ (⟨.slice a1 r1.length c1, 63, 5, r1⟩ :: N1) ++ (⟨.slice a2 r2.length c2, 63, 5, r2⟩ :: N2), G)) (fun i => if i = 1 then 4 else i) ?_ ?_ ?_ ?_ ?_ ?_ <;> (first | omega | (dsimp only; omega) | (intro i hi; (try dsimp only); (repeat' split) <;> omega) | (intro i j hi hj h; (try dsimp only at h); (repeat' split at h) <;> omega) | skip)
           · exact ⟨by dsimp only; omega, hs, by rw [List.append_assoc]; exact hTn, hP3⟩
           all_goals (simp [fitsTR, fitsMR, PV.ren, renL, MB.ren, upd_def, PV.nmb, nmbL, MB.nmb, List.getD_cons_zero, List.getD_cons_succ, frz, drp]; done))
        | (obtain rfl : kd = 1 := ‹_›
           rw [put_hit hy ‹k2 = 1›, if_neg (by rw [List.length_append]; omega)] at hs
           have hst : smG [] xs = none := smG_stop (k + 1) hs
           ((first | refine fin_H ?_ | refine fin_He ?_ | refine fin_J ?_ | refine fin_Je ?_ | refine fin_Y ?_ | refine fin_K ?_ | refine fin_T ?_ | refine fin_M ?_); simp only [go_sem, not_false_eq_true, ne_eq, ↓upd_def, Nat.reduceEqDiff, Nat.reduceAdd, ↓reduceIte, reduceCtorEq])
           exact .inr ⟨_, _, rfl, perm_all hP2, hF hst⟩)
        | (obtain rfl : kd = 1 := ‹_›
           rw [put_hit hy ‹k2 = 1›, if_pos (by rw [List.length_append]; omega)] at hs
           refine s_again ((k + 1, o.set (o.length - 1) (.mk k2 (t2 ++ t) n2 a2' b2'), ra', Na, M0 ++ (⟨.slice a1 r1.length c1, 63, 5, r1⟩ :: N1) ++ (⟨.slice a2 r2.length c2, 63, 5, r2⟩ :: N2), G ++ (⟨.slice a1 r1.length c1, 63, 5, r1⟩ :: N1) ++ (⟨.slice a2 r2.length c2, 63, 5, r2⟩ :: N2))) ?_ ?_ ?_ <;> (first | omega | (dsimp only; omega) | skip)
           · exact ⟨by dsimp only; omega, hs, hTs, hP2⟩
           · simp [fits, fitsT, fitsM, upd_def, PV.nmb, nmbL, MB.nmb, List.getD_cons_zero, List.getD_cons_succ])
        | skip
  · obtain rfl : k = xs.length := by omega
    repeat' (first | ((first | apply qwd | apply qa1 | apply qa2 | apply qa3 | apply qh1 | apply qh2 | apply qg1 rfl | apply qcd); (try intro K hk); focus (simp only [lvT8_55, mkT, go_sem, Nat.reduceEqDiff, Nat.reduceAdd, Nat.reduceLeDiff, Nat.reduceLT, Nat.reduceSub, Int.reduceToNat, ↓reduceIte, reduceCtorEq, encPs_length]; first | exact rfl | ((repeat (refine And.intro ?_ ?_; focus (first | omega | assumption | with_reducible rfl))); intros; apply hk; clear hk K))) | apply qw8 | apply qw1 | refine qwc lvT8_55 ?_ | apply qt1 | apply qw5 | apply qw2 | apply qw9 | apply qt2 | apply qt3 | apply qt4 | apply qt5 | apply qt6 | apply qw3 | apply qw4 | apply qj1 | apply qj2 | apply qj3 | apply qj4 | apply qj5 | apply qu1 | apply qu2 | (refine qj6 ?_ ?_ <;> intro hc <;> (try simp only [hc]) <;> (try simp only [decide_eq_true_eq, decide_eq_false_iff_not, Bool.not_eq_true', Bool.not_eq_false', Bool.not_eq_true, reduceCtorEq] at hc) <;> (try (exfalso; omega))) | (refine qt7 ?_ ?_; focus decide) | (refine qw7 ?_ ?_ ?_; (focus (decide +kernel)); (focus (decide +kernel))))
    ((first | refine fin_H ?_ | refine fin_He ?_ | refine fin_J ?_ | refine fin_Je ?_ | refine fin_Y ?_ | refine fin_K ?_ | refine fin_T ?_ | refine fin_M ?_); simp only [go_sem, not_false_eq_true, ne_eq, ↓upd_def, Nat.reduceEqDiff, Nat.reduceAdd, ↓reduceIte, reduceCtorEq])
    rw [List.take_length] at ho
    exact .inl ⟨1, rfl, ra, by simp, Na, G, M0, rfl, hP, TL_plain hT, hK _ _ ⟨o, ho, hT⟩⟩
def spBq : AC := jinB 63 5 (α := List PartD) (fun x => [.seq (encPs x)]) (fun x => wtL x ≤ 1099511627776) (fun x es N => ∃ y, smG [] x = some y ∧ TL y es N) (fun x => smG [] x = none)
theorem spBq_i : ACok Try.prog 55 spBq := ⟨(spB_i 0).fn, fun c mem n av vs K hI hn hr hC => by
  obtain ⟨x, A, h1, h2, h3, h4⟩ := hC
  exact (spB_i (wtL x + 1)).run c mem n av vs K hI hn hr ⟨x, A, h1, h2, ⟨Nat.lt_succ_self _, h3⟩, h4⟩⟩
/-- Seen from outside. -/
def smT : AC := newTB QP (α := List PartD) (fun x => [.seq (encPs x)]) (fun x => wtL x ≤ 1099511627776) (fun x => (smG [] x).map encPs)
theorem smT_i : ACok Try.prog 55 smT := newTB_ok spBq_i (fun x => by simp [nmbL, PV.nmb]) (by
  rintro x v es N ⟨y, hy, hT⟩
  exact ⟨encPs y, by rw [hy]; rfl, ⟨y, es, N, rfl, hT, rfl⟩, fun w S hh => rep_root hT hh⟩) (fun x h => by show (smG [] x).map encPs = none; rw [h]; rfl)
end Go.Proofs.Ytdedddmnacomfaa
