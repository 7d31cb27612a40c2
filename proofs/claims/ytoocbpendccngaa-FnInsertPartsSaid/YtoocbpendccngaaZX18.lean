/- Contracts: simpler, l21Simple. -/
import Derived.Test.YtoocbpendccngaaZX17
import Derived.Test.YtoocbpendccngaaZK17

namespace Go.Proofs.Ytoocbpendccngaa
attribute [local irreducible] awp arun acalm FinP Fin AX.then AX.inBlock Again aG gsel amix amixN amixC aop aopc aopd cutK
attribute [local go_sem] aBSliceD aSlice aSliceC boundOf aMk aCall aCallC aLenL aLen aPick_t aPick_f aNil aAlloc aBox aBuild bldPV aBSlice bsPV aApp newsOf destOf drp aConvX aConv aConvInt aLoad cellsAt aStore cellsPV setAt aFld aField aIdx aIndex aUn aBin' aBin aMax aExtract pvOf PV.isCell nmbL PV.nmb List.map_cons List.map_nil List.all_cons List.all_nil Bool.and_true Bool.true_and if_true if_false List.getD_cons_zero List.getD_cons_succ List.getD_nil Option.isSome_some true_and and_true and_self eq_self true_or or_true List.drop_zero List.drop_succ_cons List.drop_nil List.take_zero List.take_succ_cons List.take_nil List.length_cons List.length_nil List.length_map Option.getD_some Option.getD_none List.nil_append List.cons_append List.append_nil Option.some.injEq exists_eq_left' List.getElem?_cons_zero List.getElem?_cons_succ Int.toNat_natCast Int.natCast_inj toNat_succ Nat.zero_add res res1 resC owns owns1 ownsC List.flatMap_cons List.flatMap_nil List.flatten_cons List.flatten_nil List.mem_cons List.not_mem_nil or_false false_or forall_eq forall_eq_or_imp isFro frz frz1 pureC tabA isBld List.cons.injEq PV.seq.injEq PV.int.injEq PV.str.injEq PV.bool.injEq PV.agg.injEq inR tab Γof aRes packR Option.map_some Option.map_none rel Prod.exists exists_and_left exists_eq_left and_assoc beq_self_eq_true Bool.not_true Bool.not_false decide_true decide_false List.set_cons_zero List.set_cons_succ rst_nil rst_cons
attribute [local go_sem ↓] evT upd_def aop aopc aopd
set_option maxRecDepth 100000
set_option linter.unusedVariables false
set_option linter.unusedSimpArgs false
open Go.RowKit
def lvX18_75 : Nat → List Nat
  | 0 => [0]
  | 1 => [0, 4]
  | 2 => [4, 13, 14, 15]
  | 3 => [4, 13, 14, 15, 16]
  | 4 => [4, 6, 13, 14, 15]
  | 5 => [4, 6, 7, 8, 13, 14, 15]
  | 6 => [4, 6, 7, 8, 9, 10, 13, 14, 15]
  | 7 => [4, 6, 7, 9, 13, 14, 15, 36]
  | 8 => [2, 3]
  | 9 => [4, 6, 7, 9, 13, 14, 15]
  | 10 => [4, 6, 13, 14, 15, 56]
  | 11 => [4, 6, 11, 13, 14, 15]
  | 12 => [4, 6, 11, 13, 14, 15, 74]
  | 13 => [4, 11, 13, 14, 15]
  | 14 => [4, 13, 14, 15, 91]
  | 15 => [2, 3]
  | 16 => [4, 13, 14, 15]
  | 17 => [4, 13, 14, 15]
  | 18 => [2, 3]
  | _ => []
def lvX18_79 : Nat → List Nat
  | 0 => [0]
  | 1 => [0, 3]
  | 2 => [0, 3, 4]
  | 3 => [0, 3, 4, 11]
  | 4 => [0, 3, 4]
  | 5 => [0, 3, 4, 5]
  | 6 => [0, 3, 4, 5]
  | 7 => [0, 3, 4, 5]
  | 8 => [0, 3, 4, 5, 45]
  | 9 => [0, 3, 4, 5, 6]
  | 10 => [0, 3, 4, 5, 6, 76]
  | 11 => [0, 3, 4]
  | 12 => [0, 3, 4]
  | 13 => [2]
  | _ => []
--LV=X18
theorem ps_set (xs : List PartD) (k : Nat) (y : PartD) : encPs (xs.set k y) = (encPs xs).set k (encP y) := by
  have hm : ∀ l : List PartD, encPs l = l.map encP := fun l => by
    induction l with
    | nil => rw [encPs_nil]; rfl
    | cons a l ih => rw [show a :: l = [a] ++ l from rfl, encPs_append, encPs_one, ih]; rfl
  rw [hm, hm, List.map_set]
@[go_sem] def smC (n : Nat) : PC := rel (α := List PartD) (fun x => [.seq (encPs x)]) (fun x => wtL x < n ∧ wtL x ≤ 1099511627776) (fun x => .tup [.seq (encPs ((smG [] x).getD [])), .bool (smG [] x).isSome])
set_option maxHeartbeats 8000000 in
theorem sm_i : ∀ n, PureOk Try.prog 75 (smC n) := by
  intro n
  induction n with
  | zero => exact never_rel Try.func75 (by kernel_rfl) (by kernel_rfl) (fun x h => absurd h.1 (Nat.not_lt_zero _))
  | succ n ih =>
  refine pure_rel 1 (tab_cons ih tab_nil) mixed [.tmp 2, .tmp 3] Try.func75 rfl rfl (by kernel_rfl) (by kernel_rfl) (fun _ => rfl) (by kernel_rfl) ?_
  rintro xs K ⟨hn, hb⟩ hK
  clear ih
  have hlw := len_le_wtL xs
  unfold entry
  repeat' (first | (refine qwd fun K hk => ?_; simp only [lvX18_75, mkT, go_sem, Nat.reduceEqDiff, Nat.reduceAdd, Nat.reduceLeDiff, Nat.reduceLT, Nat.reduceSub, Int.reduceToNat, ↓reduceIte, reduceCtorEq, encPs_length]; apply hk; clear hk K) | apply qw8 | apply qw1 | refine qwc lvX18_75 ?_ | apply qt1 | apply qw5 | apply qw2 | apply qw9 | apply qt2 | apply qt3 | apply qt4 | apply qt5 | apply qt6 | apply qw3 | apply qw4 | apply qj1 | apply qj2 | apply qj3 | apply qj4 | apply qj5 | apply qu1 | apply qu2 | ((first | apply qa1 | apply qa2 | apply qa3 | apply qh1 | apply qh2); intro K hk; simp only [go_sem, Nat.reduceEqDiff, Nat.reduceAdd, Nat.reduceLeDiff, Nat.reduceLT, Nat.reduceSub, Int.reduceToNat, ↓reduceIte, reduceCtorEq, encPs_length]; (repeat (refine And.intro ?_ ?_; focus (first | omega | assumption | with_reducible rfl | (simp only [go_sem, Nat.reduceEqDiff, Nat.reduceAdd, Nat.reduceLeDiff, Nat.reduceLT, Nat.reduceSub, Int.reduceToNat, ↓reduceIte, reduceCtorEq, encPs_length]; done)))); intros; apply hk; clear hk K) | ((first | apply qg1 rfl | apply qcd); focus (simp only [go_sem, Nat.reduceEqDiff, Nat.reduceAdd, Nat.reduceLeDiff, Nat.reduceLT, Nat.reduceSub, Int.reduceToNat, ↓reduceIte, reduceCtorEq, encPs_length]; exact rfl)) | (refine qj6 ?_ ?_ <;> intro hc <;> (try simp only [hc]) <;> (try simp only [decide_eq_true_eq, decide_eq_false_iff_not, Bool.not_eq_true', Bool.not_eq_false', Bool.not_eq_true, reduceCtorEq] at hc) <;> (try (exfalso; omega))) | (refine qt7 ?_ ?_; focus decide) | (refine qw7 ?_ ?_ ?_; (focus (decide +kernel)); (focus (decide +kernel))))
  refine s_loop (ι := Nat × List PartD) (fun i => [(4, .own 0), (13, .seq (encPs xs)), (14, .int .i64 xs.length), (15, .int .i64 i.1)]) (fun i => [(0, .row 63 5 (encPs i.2))]) 1 (fun i => i.1 ≤ xs.length ∧ smG [] (xs.take i.1) = some i.2) (fun i => xs.length - i.1) (0, []) (by omega) ⟨Nat.zero_le _, smG_nil _⟩ ?_ ?_
  · simp [fits, fitsT, fitsM, upd_def, PV.nmb, nmbL, MB.nmb, List.getD_cons_zero, List.getD_cons_succ, encPs_nil]
  rintro ⟨k, o⟩ ⟨hk, ho⟩
  dsimp only at *
  simp only [mkS, mkT, mkM]
  by_cases hkl : k < xs.length
  · obtain ⟨⟨kd, t, nm, ps, os⟩, hx⟩ := get_some (xs := xs) (k := k) (by omega)
    have htk := take_snoc' hx
    have ws := wtL_split hx
    rw [wtP_mk] at ws
    have hget := encPs_get xs
    have hs := smG_snoc (out := []) hx
    rw [ho] at hs
    have hwo : wtL o ≤ wtL xs := by have := wt_smG ho; have := wtL_append (xs.take k) (xs.drop k); rw [List.take_append_drop] at this; omega
    have hol := len_le_wtL o
    have hta := ps_a5 o
    have hgo := encPs_get o
    have hw1 : ∀ r, smG [] ps = some r → wtL r ≤ wtL ps := fun r h => wt_smG h
    have hw2 : ∀ r, smG [] os = some r → wtL r ≤ wtL os := fun r h => wt_smG h
    have hsp := smP_mk kd t nm ps os
    cases hA : smG [] ps with
    | none =>
      have hst : smG [] xs = none := smG_stop (k + 1) (by rw [hs]; rw [hA] at hsp; simp [hsp])
      repeat' (first | (refine qwd fun K hk => ?_; simp only [lvX18_75, mkT, go_sem, Nat.reduceEqDiff, Nat.reduceAdd, Nat.reduceLeDiff, Nat.reduceLT, Nat.reduceSub, Int.reduceToNat, ↓reduceIte, reduceCtorEq, encPs_length, hget, hx, encP_mk, hA, Option.getD_none, Option.isSome_none, Bool.not_false, Bool.not_true]; apply hk; clear hk K) | apply qw8 | apply qw1 | refine qwc lvX18_75 ?_ | apply qt1 | apply qw5 | apply qw2 | apply qw9 | apply qt2 | apply qt3 | apply qt4 | apply qt5 | apply qt6 | apply qw3 | apply qw4 | apply qj1 | apply qj2 | apply qj3 | apply qj4 | apply qj5 | apply qu1 | apply qu2 | ((first | apply qa1 | apply qa2 | apply qa3 | apply qh1 | apply qh2); intro K hk; simp only [go_sem, Nat.reduceEqDiff, Nat.reduceAdd, Nat.reduceLeDiff, Nat.reduceLT, Nat.reduceSub, Int.reduceToNat, ↓reduceIte, reduceCtorEq, encPs_length, hget, hx, encP_mk, hA, Option.getD_none, Option.isSome_none, Bool.not_false, Bool.not_true]; (repeat (refine And.intro ?_ ?_; focus (first | omega | assumption | with_reducible rfl | (simp only [go_sem, Nat.reduceEqDiff, Nat.reduceAdd, Nat.reduceLeDiff, Nat.reduceLT, Nat.reduceSub, Int.reduceToNat, ↓reduceIte, reduceCtorEq, encPs_length, hget, hx, encP_mk, hA, Option.getD_none, Option.isSome_none, Bool.not_false, Bool.not_true]; done)))); intros; apply hk; clear hk K) | ((first | apply qg1 rfl | apply qcd); focus (simp only [go_sem, Nat.reduceEqDiff, Nat.reduceAdd, Nat.reduceLeDiff, Nat.reduceLT, Nat.reduceSub, Int.reduceToNat, ↓reduceIte, reduceCtorEq, encPs_length, hget, hx, encP_mk, hA, Option.getD_none, Option.isSome_none, Bool.not_false, Bool.not_true]; exact rfl)) | (refine qj6 ?_ ?_ <;> intro hc <;> (try simp only [hc]) <;> (try simp only [decide_eq_true_eq, decide_eq_false_iff_not, Bool.not_eq_true', Bool.not_eq_false', Bool.not_eq_true, reduceCtorEq] at hc) <;> (try (exfalso; omega))) | (refine qt7 ?_ ?_; focus decide) | (refine qw7 ?_ ?_ ?_; (focus (decide +kernel)); (focus (decide +kernel))))
      ((first | refine fin_ret ?_ | refine fin_end ?_); simp only [go_sem, ↓upd_def, Nat.reduceEqDiff, Nat.reduceAdd, ↓reduceIte, reduceCtorEq])
      refine K_eq hK ?_
      rw [hst]; simp [encPs_nil]
    | some a =>
    cases hB : smG [] os with
    | none =>
      have hst : smG [] xs = none := smG_stop (k + 1) (by rw [hs]; rw [hA, hB] at hsp; simp [hsp])
      repeat' (first | (refine qwd fun K hk => ?_; simp only [lvX18_75, mkT, go_sem, Nat.reduceEqDiff, Nat.reduceAdd, Nat.reduceLeDiff, Nat.reduceLT, Nat.reduceSub, Int.reduceToNat, ↓reduceIte, reduceCtorEq, encPs_length, hget, hx, encP_mk, hA, hB, Option.getD_none, Option.isSome_none, Option.getD_some, Option.isSome_some, Bool.not_false, Bool.not_true]; apply hk; clear hk K) | apply qw8 | apply qw1 | refine qwc lvX18_75 ?_ | apply qt1 | apply qw5 | apply qw2 | apply qw9 | apply qt2 | apply qt3 | apply qt4 | apply qt5 | apply qt6 | apply qw3 | apply qw4 | apply qj1 | apply qj2 | apply qj3 | apply qj4 | apply qj5 | apply qu1 | apply qu2 | ((first | apply qa1 | apply qa2 | apply qa3 | apply qh1 | apply qh2); intro K hk; simp only [go_sem, Nat.reduceEqDiff, Nat.reduceAdd, Nat.reduceLeDiff, Nat.reduceLT, Nat.reduceSub, Int.reduceToNat, ↓reduceIte, reduceCtorEq, encPs_length, hget, hx, encP_mk, hA, hB, Option.getD_none, Option.isSome_none, Option.getD_some, Option.isSome_some, Bool.not_false, Bool.not_true]; (repeat (refine And.intro ?_ ?_; focus (first | omega | assumption | with_reducible rfl | (simp only [go_sem, Nat.reduceEqDiff, Nat.reduceAdd, Nat.reduceLeDiff, Nat.reduceLT, Nat.reduceSub, Int.reduceToNat, ↓reduceIte, reduceCtorEq, encPs_length, hget, hx, encP_mk, hA, hB, Option.getD_none, Option.isSome_none, Option.getD_some, Option.isSome_some, Bool.not_false, Bool.not_true]; done)))); intros; apply hk; clear hk K) | ((first | apply qg1 rfl | apply qcd); focus (simp only [go_sem, Nat.reduceEqDiff, Nat.reduceAdd, Nat.reduceLeDiff, Nat.reduceLT, Nat.reduceSub, Int.reduceToNat, ↓reduceIte, reduceCtorEq, encPs_length, hget, hx, encP_mk, hA, hB, Option.getD_none, Option.isSome_none, Option.getD_some, Option.isSome_some, Bool.not_false, Bool.not_true]; exact rfl)) | (refine qj6 ?_ ?_ <;> intro hc <;> (try simp only [hc]) <;> (try simp only [decide_eq_true_eq, decide_eq_false_iff_not, Bool.not_eq_true', Bool.not_eq_false', Bool.not_eq_true, reduceCtorEq] at hc) <;> (try (exfalso; omega))) | (refine qt7 ?_ ?_; focus decide) | (refine qw7 ?_ ?_ ?_; (focus (decide +kernel)); (focus (decide +kernel))))
      ((first | refine fin_ret ?_ | refine fin_end ?_); simp only [go_sem, ↓upd_def, Nat.reduceEqDiff, Nat.reduceAdd, ↓reduceIte, reduceCtorEq])
      refine K_eq hK ?_
      rw [hst]; simp [encPs_nil]
    | some b =>
      have hla := len_le_wtL a
      have hlb := len_le_wtL b
      have := hw1 a hA
      have := hw2 b hB
      rw [hA, hB] at hsp
      simp only [Option.bind_some, hsp] at hs
      have hem : (kd = 3 ∨ kd = 4) → a.length + b.length = 0 → putS o (.mk kd t nm a b) = some o := fun h1 h2 => put_skip ((emptyK_mk _ _ _ _ _).2 ⟨h1, List.length_eq_zero_iff.1 (by omega), List.length_eq_zero_iff.1 (by omega)⟩)
      have hne : ¬ ((kd = 3 ∨ kd = 4) ∧ a.length + b.length = 0) → emptyK (.mk kd t nm a b) = false := fun h => by
        rw [Bool.eq_false_iff]
        intro h9
        obtain ⟨h1, rfl, rfl⟩ := (emptyK_mk _ _ _ _ _).1 h9
        exact h ⟨h1, rfl⟩
      by_cases ho0 : o = []
      · have hz : o.length = 0 := by rw [ho0]; rfl
        have hz0 : ((o.length : Int) - 1 ≥ 0) = False := eq_false (by omega)
        repeat' (first | (refine qwd fun K hk => ?_; simp only [lvX18_75, mkT, go_sem, Nat.reduceEqDiff, Nat.reduceAdd, Nat.reduceLeDiff, Nat.reduceLT, Nat.reduceSub, Int.reduceToNat, ↓reduceIte, reduceCtorEq, encPs_length, hget, hx, encP_mk, hA, hB, hta, Option.getD_some, Option.isSome_some, Bool.not_false, Bool.not_true]; apply hk; clear hk K) | apply qw8 | apply qw1 | refine qwc lvX18_75 ?_ | apply qt1 | apply qw5 | apply qw2 | apply qw9 | apply qt2 | apply qt3 | apply qt4 | apply qt5 | apply qt6 | apply qw3 | apply qw4 | apply qj1 | apply qj2 | apply qj3 | apply qj4 | apply qj5 | apply qu1 | apply qu2 | ((first | apply qa1 | apply qa2 | apply qa3 | apply qh1 | apply qh2); intro K hk; simp only [go_sem, Nat.reduceEqDiff, Nat.reduceAdd, Nat.reduceLeDiff, Nat.reduceLT, Nat.reduceSub, Int.reduceToNat, ↓reduceIte, reduceCtorEq, encPs_length, hget, hx, encP_mk, hA, hB, hta, Option.getD_some, Option.isSome_some, Bool.not_false, Bool.not_true]; (repeat (refine And.intro ?_ ?_; focus (first | omega | assumption | with_reducible rfl | (simp only [go_sem, Nat.reduceEqDiff, Nat.reduceAdd, Nat.reduceLeDiff, Nat.reduceLT, Nat.reduceSub, Int.reduceToNat, ↓reduceIte, reduceCtorEq, encPs_length, hget, hx, encP_mk, hA, hB, hta, Option.getD_some, Option.isSome_some, Bool.not_false, Bool.not_true]; done)))); intros; apply hk; clear hk K) | ((first | apply qg1 rfl | apply qcd); focus (simp only [go_sem, Nat.reduceEqDiff, Nat.reduceAdd, Nat.reduceLeDiff, Nat.reduceLT, Nat.reduceSub, Int.reduceToNat, ↓reduceIte, reduceCtorEq, encPs_length, hget, hx, encP_mk, hA, hB, hta, Option.getD_some, Option.isSome_some, Bool.not_false, Bool.not_true]; exact rfl)) | (refine qj6 ?_ ?_ <;> intro hc <;> (try simp only [hc]) <;> (try simp only [decide_eq_true_eq, decide_eq_false_iff_not, Bool.not_eq_true', Bool.not_eq_false', Bool.not_eq_true, reduceCtorEq] at hc) <;> (try (exfalso; omega))) | (refine qt7 ?_ ?_; focus decide) | (refine qw7 ?_ ?_ ?_; (focus (decide +kernel)); (focus (decide +kernel))))
        all_goals first
          | (rw [hem (by omega) (by omega)] at hs
             refine s_again ((k + 1, o)) ?_ ?_ ?_ <;> (first | omega | (dsimp only; omega) | skip)
             · exact ⟨by dsimp only; omega, hs⟩
             · simp [fits, fitsT, fitsM, upd_def, PV.nmb, nmbL, MB.nmb, List.getD_cons_zero, List.getD_cons_succ])
          | (rw [put_new (hne (by omega)) (.inr (by rw [ho0]; rfl))] at hs
             refine s_againR ((k + 1, o ++ [.mk kd t nm a b])) (fun i => if i = 0 then 3 else i) ?_ ?_ ?_ ?_ ?_ ?_ <;> (first | omega | (dsimp only; omega) | (intro i hi; (try dsimp only); (repeat' split) <;> omega) | (intro i j hi hj h; (try dsimp only at h); (repeat' split at h) <;> omega) | skip)
             · exact ⟨by dsimp only; omega, hs⟩
             all_goals (simp [fitsTR, fitsMR, PV.ren, renL, MB.ren, upd_def, PV.nmb, nmbL, MB.nmb, List.getD_cons_zero, List.getD_cons_succ, frz, drp, encPs_append, encPs_one, encP_mk]; done))
          | skip
      · have hlp : 0 < o.length := List.length_pos_iff.2 ho0
        obtain ⟨⟨k2, t2, n2, a2, b2⟩, hy⟩ := get_some (xs := o) (k := o.length - 1) (by omega)
        have hpr : ((o.length : Int) - 1).toNat = o.length - 1 := by omega
        have wy := wtL_split hy
        rw [wtP_mk] at wy
        have hend := endT_at hy
        obtain ⟨o', ho'⟩ : ∃ o', o' = o.set (o.length - 1) (.mk k2 (t2 ++ t) n2 a2 b2) := ⟨_, rfl⟩
        have hset : (encPs o).set (o.length - 1) [.int .i64 k2, .str (t2 ++ t), .str n2, .seq (encPs a2), .seq (encPs b2)] = encPs o' := by rw [ho', ps_set, encP_mk]
        have hl' : o'.length = o.length := by rw [ho', List.length_set]
        have hy' : o'[o.length - 1]? = some (.mk k2 (t2 ++ t) n2 a2 b2) := by rw [ho', List.getElem?_set_self (by omega)]
        have hgo' := encPs_get o'
        repeat' (first | (first | (refine qwd fun K hk => ?_; simp only [lvX18_75, mkT, go_sem, Nat.reduceEqDiff, Nat.reduceAdd, Nat.reduceLeDiff, Nat.reduceLT, Nat.reduceSub, Int.reduceToNat, ↓reduceIte, reduceCtorEq, encPs_length, hset, hl', hy', hgo', hget, hx, encP_mk, hA, hB, hta, hpr, hgo, hy, Option.map_some, Option.getD_some, Option.isSome_some, Bool.not_false, Bool.not_true, List.length_append]; apply hk; clear hk K) | apply qw8 | apply qw1 | refine qwc lvX18_75 ?_ | apply qt1 | apply qw5 | apply qw2 | apply qw9 | apply qt2 | apply qt3 | apply qt4 | apply qt5 | apply qt6 | apply qw3 | apply qw4 | apply qj1 | apply qj2 | apply qj3 | apply qj4 | apply qj5 | apply qu1 | apply qu2 | ((first | apply qa1 | apply qa2 | apply qa3 | apply qh1 | apply qh2); intro K hk; simp only [go_sem, Nat.reduceEqDiff, Nat.reduceAdd, Nat.reduceLeDiff, Nat.reduceLT, Nat.reduceSub, Int.reduceToNat, ↓reduceIte, reduceCtorEq, encPs_length, hset, hl', hy', hgo', hget, hx, encP_mk, hA, hB, hta, hpr, hgo, hy, Option.map_some, Option.getD_some, Option.isSome_some, Bool.not_false, Bool.not_true, List.length_append]; (repeat (refine And.intro ?_ ?_; focus (first | omega | assumption | with_reducible rfl | (simp only [go_sem, Nat.reduceEqDiff, Nat.reduceAdd, Nat.reduceLeDiff, Nat.reduceLT, Nat.reduceSub, Int.reduceToNat, ↓reduceIte, reduceCtorEq, encPs_length, hset, hl', hy', hgo', hget, hx, encP_mk, hA, hB, hta, hpr, hgo, hy, Option.map_some, Option.getD_some, Option.isSome_some, Bool.not_false, Bool.not_true, List.length_append]; done)))); intros; apply hk; clear hk K) | ((first | apply qg1 rfl | apply qcd); focus (simp only [go_sem, Nat.reduceEqDiff, Nat.reduceAdd, Nat.reduceLeDiff, Nat.reduceLT, Nat.reduceSub, Int.reduceToNat, ↓reduceIte, reduceCtorEq, encPs_length, hset, hl', hy', hgo', hget, hx, encP_mk, hA, hB, hta, hpr, hgo, hy, Option.map_some, Option.getD_some, Option.isSome_some, Bool.not_false, Bool.not_true, List.length_append]; exact rfl)) | (refine qj6 ?_ ?_ <;> intro hc <;> (try simp only [hc]) <;> (try simp only [decide_eq_true_eq, decide_eq_false_iff_not, Bool.not_eq_true', Bool.not_eq_false', Bool.not_eq_true, reduceCtorEq] at hc) <;> (try (exfalso; omega))) | (refine qt7 ?_ ?_; focus decide) | (refine qw7 ?_ ?_ ?_; (focus (decide +kernel)); (focus (decide +kernel)))) | (refine s_draw 10 ?_ ?_; focus (decide +kernel)))
        all_goals first
          | (rw [hem (by omega) (by omega)] at hs
             refine s_again ((k + 1, o)) ?_ ?_ ?_ <;> (first | omega | (dsimp only; omega) | skip)
             · exact ⟨by dsimp only; omega, hs⟩
             · simp [fits, fitsT, fitsM, upd_def, PV.nmb, nmbL, MB.nmb, List.getD_cons_zero, List.getD_cons_succ])
          | (rw [put_new (hne (by omega)) (by first | exact .inl ‹¬ kd = 1› | exact .inr (by rw [hend, if_neg ‹¬ k2 = 1›]))] at hs
             refine s_againR ((k + 1, o ++ [.mk kd t nm a b])) (fun i => if i = 0 then 3 else i) ?_ ?_ ?_ ?_ ?_ ?_ <;> (first | omega | (dsimp only; omega) | (intro i hi; (try dsimp only); (repeat' split) <;> omega) | (intro i j hi hj h; (try dsimp only at h); (repeat' split at h) <;> omega) | skip)
             · exact ⟨by dsimp only; omega, hs⟩
             all_goals (simp [fitsTR, fitsMR, PV.ren, renL, MB.ren, upd_def, PV.nmb, nmbL, MB.nmb, List.getD_cons_zero, List.getD_cons_succ, frz, drp, encPs_append, encPs_one, encP_mk]; done))
          | (obtain rfl : kd = 1 := ‹_›
             rw [put_hit hy ‹k2 = 1›, if_neg (by rw [List.length_append]; omega)] at hs
             have hst : smG [] xs = none := smG_stop (k + 1) hs
             ((first | refine fin_ret ?_ | refine fin_end ?_); simp only [go_sem, ↓upd_def, Nat.reduceEqDiff, Nat.reduceAdd, ↓reduceIte, reduceCtorEq])
             refine K_eq hK ?_
             rw [hst]; simp [encPs_nil])
          | (obtain rfl : kd = 1 := ‹_›
             rw [put_hit hy ‹k2 = 1›, if_pos (by rw [List.length_append]; omega), ← ho'] at hs
             refine s_again ((k + 1, o')) ?_ ?_ ?_ <;> (first | omega | (dsimp only; omega) | skip)
             · exact ⟨by dsimp only; omega, hs⟩
             · simp [fits, fitsT, fitsM, upd_def, PV.nmb, nmbL, MB.nmb, List.getD_cons_zero, List.getD_cons_succ])
          | skip
  · obtain rfl : k = xs.length := by omega
    repeat' (first | (refine qwd fun K hk => ?_; simp only [lvX18_75, mkT, go_sem, Nat.reduceEqDiff, Nat.reduceAdd, Nat.reduceLeDiff, Nat.reduceLT, Nat.reduceSub, Int.reduceToNat, ↓reduceIte, reduceCtorEq, encPs_length]; apply hk; clear hk K) | apply qw8 | apply qw1 | refine qwc lvX18_75 ?_ | apply qt1 | apply qw5 | apply qw2 | apply qw9 | apply qt2 | apply qt3 | apply qt4 | apply qt5 | apply qt6 | apply qw3 | apply qw4 | apply qj1 | apply qj2 | apply qj3 | apply qj4 | apply qj5 | apply qu1 | apply qu2 | ((first | apply qa1 | apply qa2 | apply qa3 | apply qh1 | apply qh2); intro K hk; simp only [go_sem, Nat.reduceEqDiff, Nat.reduceAdd, Nat.reduceLeDiff, Nat.reduceLT, Nat.reduceSub, Int.reduceToNat, ↓reduceIte, reduceCtorEq, encPs_length]; (repeat (refine And.intro ?_ ?_; focus (first | omega | assumption | with_reducible rfl | (simp only [go_sem, Nat.reduceEqDiff, Nat.reduceAdd, Nat.reduceLeDiff, Nat.reduceLT, Nat.reduceSub, Int.reduceToNat, ↓reduceIte, reduceCtorEq, encPs_length]; done)))); intros; apply hk; clear hk K) | ((first | apply qg1 rfl | apply qcd); focus (simp only [go_sem, Nat.reduceEqDiff, Nat.reduceAdd, Nat.reduceLeDiff, Nat.reduceLT, Nat.reduceSub, Int.reduceToNat, ↓reduceIte, reduceCtorEq, encPs_length]; exact rfl)) | (refine qj6 ?_ ?_ <;> intro hc <;> (try simp only [hc]) <;> (try simp only [decide_eq_true_eq, decide_eq_false_iff_not, Bool.not_eq_true', Bool.not_eq_false', Bool.not_eq_true, reduceCtorEq] at hc) <;> (try (exfalso; omega))) | (refine qt7 ?_ ?_; focus decide) | (refine qw7 ?_ ?_ ?_; (focus (decide +kernel)); (focus (decide +kernel))))
    ((first | refine fin_ret ?_ | refine fin_end ?_); simp only [go_sem, ↓upd_def, Nat.reduceEqDiff, Nat.reduceAdd, ↓reduceIte, reduceCtorEq])
    rw [List.take_length] at ho
    refine K_eq hK ?_
    rw [ho]; rfl
@[go_sem] def srC (n : Nat) : PC := rel (α := List PartD) (fun x => [.seq (encPs x)]) (fun x => wtL x < n ∧ wtL x ≤ 1099511627776) (fun x => .seq (encPs (srG [] x)))
set_option maxHeartbeats 8000000 in
theorem sr_s : ∀ n, PureOk Try.prog 79 (srC n) := by
  intro n
  induction n with
  | zero => exact never_rel Try.func79 (by kernel_rfl) (by kernel_rfl) (fun x h => absurd h.1 (Nat.not_lt_zero _))
  | succ n ih =>
  refine pure_rel 1 (tab_cons ih tab_nil) mixed [.tmp 2] Try.func79 rfl rfl (by kernel_rfl) (by kernel_rfl) (fun _ => rfl) (by kernel_rfl) ?_
  rintro xs K ⟨hn, hb⟩ hK
  clear ih
  have hlw := len_le_wtL xs
  unfold entry
  repeat' (first | (refine qwd fun K hk => ?_; simp only [lvX18_79, mkT, go_sem, Nat.reduceEqDiff, Nat.reduceAdd, Nat.reduceLeDiff, Nat.reduceLT, Nat.reduceSub, Int.reduceToNat, ↓reduceIte, reduceCtorEq, encPs_length]; apply hk; clear hk K) | apply qw8 | apply qw1 | refine qwc lvX18_79 ?_ | apply qt1 | apply qw5 | apply qw2 | apply qw9 | apply qt2 | apply qt3 | apply qt4 | apply qt5 | apply qt6 | apply qw3 | apply qw4 | apply qj1 | apply qj2 | apply qj3 | apply qj4 | apply qj5 | apply qu1 | apply qu2 | ((first | apply qa1 | apply qa2 | apply qa3 | apply qh1 | apply qh2); intro K hk; simp only [go_sem, Nat.reduceEqDiff, Nat.reduceAdd, Nat.reduceLeDiff, Nat.reduceLT, Nat.reduceSub, Int.reduceToNat, ↓reduceIte, reduceCtorEq, encPs_length]; (repeat (refine And.intro ?_ ?_; focus (first | omega | assumption | with_reducible rfl | (simp only [go_sem, Nat.reduceEqDiff, Nat.reduceAdd, Nat.reduceLeDiff, Nat.reduceLT, Nat.reduceSub, Int.reduceToNat, ↓reduceIte, reduceCtorEq, encPs_length]; done)))); intros; apply hk; clear hk K) | ((first | apply qg1 rfl | apply qcd); focus (simp only [go_sem, Nat.reduceEqDiff, Nat.reduceAdd, Nat.reduceLeDiff, Nat.reduceLT, Nat.reduceSub, Int.reduceToNat, ↓reduceIte, reduceCtorEq, encPs_length]; exact rfl)) | (refine qj6 ?_ ?_ <;> intro hc <;> (try simp only [hc]) <;> (try simp only [decide_eq_true_eq, decide_eq_false_iff_not, Bool.not_eq_true', Bool.not_eq_false', Bool.not_eq_true, reduceCtorEq] at hc) <;> (try (exfalso; omega))) | (refine qt7 ?_ ?_; focus decide) | (refine qw7 ?_ ?_ ?_; (focus (decide +kernel)); (focus (decide +kernel))))
  refine s_loop (ι := Nat × List PartD) (fun i => [(0, .seq (encPs xs)), (3, .own 0), (4, .int .i64 i.1)]) (fun i => [(0, .row 63 5 (encPs i.2))]) 1 (fun i => i.1 ≤ xs.length ∧ srG [] (xs.take i.1) = i.2) (fun i => xs.length - i.1) (0, []) (by omega) ⟨Nat.zero_le _, srG_nil _⟩ ?_ ?_
  · simp [fits, fitsT, fitsM, upd_def, PV.nmb, nmbL, MB.nmb, List.getD_cons_zero, List.getD_cons_succ, encPs_nil]
  rintro ⟨k, o⟩ ⟨hk, ho⟩
  dsimp only at *
  simp only [mkS, mkT, mkM]
  by_cases hkl : k < xs.length
  · obtain ⟨⟨kd, t, nm, ps, os⟩, hx⟩ := get_some (xs := xs) (k := k) (by omega)
    have htk := take_snoc' hx
    have ws := wtL_split hx
    rw [wtP_mk] at ws
    have hget := encPs_get xs
    have hs := srG_snoc (out := []) hx
    rw [ho, srP_mk] at hs
    have hwo : wtL o ≤ wtL xs := by
      have := wt_srG (xs.take k) []
      rw [ho, wtL_nil] at this
      have := wtL_append (xs.take k) (xs.drop k); rw [List.take_append_drop] at this; omega
    have hol := len_le_wtL o
    have hta := ps_a5 o
    have hgo := encPs_get o
    have hw1 := wt_srG ps []
    have hw2 := wt_srG os []
    rw [wtL_nil] at hw1 hw2
    generalize hA : srG [] ps = a at *
    generalize hB : srG [] os = b at *
    have hla := len_le_wtL a
    have hlb := len_le_wtL b
    have hem : (kd = 3 ∨ kd = 4) → a.length = 0 → b.length = 0 → putR o (.mk kd t nm a b) = o := fun h1 h2 h3 => putR_skip ((emptyK_mk _ _ _ _ _).2 ⟨h1, List.length_eq_zero_iff.1 h2, List.length_eq_zero_iff.1 h3⟩)
    have hne : ¬ ((kd = 3 ∨ kd = 4) ∧ a.length = 0 ∧ b.length = 0) → emptyK (.mk kd t nm a b) = false := fun h => by
      rw [Bool.eq_false_iff]
      intro h9
      obtain ⟨h1, rfl, rfl⟩ := (emptyK_mk _ _ _ _ _).1 h9
      exact h ⟨h1, rfl, rfl⟩
    by_cases ho0 : o = []
    · have hz : o.length = 0 := by rw [ho0]; rfl
      repeat' (first | (refine qwd fun K hk => ?_; simp only [lvX18_79, mkT, go_sem, Nat.reduceEqDiff, Nat.reduceAdd, Nat.reduceLeDiff, Nat.reduceLT, Nat.reduceSub, Int.reduceToNat, ↓reduceIte, reduceCtorEq, encPs_length, hget, hx, encP_mk, hA, hB, hta]; apply hk; clear hk K) | apply qw8 | apply qw1 | refine qwc lvX18_79 ?_ | apply qt1 | apply qw5 | apply qw2 | apply qw9 | apply qt2 | apply qt3 | apply qt4 | apply qt5 | apply qt6 | apply qw3 | apply qw4 | apply qj1 | apply qj2 | apply qj3 | apply qj4 | apply qj5 | apply qu1 | apply qu2 | ((first | apply qa1 | apply qa2 | apply qa3 | apply qh1 | apply qh2); intro K hk; simp only [go_sem, Nat.reduceEqDiff, Nat.reduceAdd, Nat.reduceLeDiff, Nat.reduceLT, Nat.reduceSub, Int.reduceToNat, ↓reduceIte, reduceCtorEq, encPs_length, hget, hx, encP_mk, hA, hB, hta]; (repeat (refine And.intro ?_ ?_; focus (first | omega | assumption | with_reducible rfl | (simp only [go_sem, Nat.reduceEqDiff, Nat.reduceAdd, Nat.reduceLeDiff, Nat.reduceLT, Nat.reduceSub, Int.reduceToNat, ↓reduceIte, reduceCtorEq, encPs_length, hget, hx, encP_mk, hA, hB, hta]; done)))); intros; apply hk; clear hk K) | ((first | apply qg1 rfl | apply qcd); focus (simp only [go_sem, Nat.reduceEqDiff, Nat.reduceAdd, Nat.reduceLeDiff, Nat.reduceLT, Nat.reduceSub, Int.reduceToNat, ↓reduceIte, reduceCtorEq, encPs_length, hget, hx, encP_mk, hA, hB, hta]; exact rfl)) | (refine qj6 ?_ ?_ <;> intro hc <;> (try simp only [hc]) <;> (try simp only [decide_eq_true_eq, decide_eq_false_iff_not, Bool.not_eq_true', Bool.not_eq_false', Bool.not_eq_true, reduceCtorEq] at hc) <;> (try (exfalso; omega))) | (refine qt7 ?_ ?_; focus decide) | (refine qw7 ?_ ?_ ?_; (focus (decide +kernel)); (focus (decide +kernel))))
      all_goals first
        | (rw [hem (by omega) (by omega) (by omega)] at hs
           refine s_again ((k + 1, o)) ?_ ?_ ?_ <;> (first | omega | (dsimp only; omega) | skip)
           · exact ⟨by dsimp only; omega, hs⟩
           · simp [fits, fitsT, fitsM, upd_def, PV.nmb, nmbL, MB.nmb, List.getD_cons_zero, List.getD_cons_succ])
        | (rw [putR_new (hne (by omega)) (.inr (by rw [ho0]; rfl))] at hs
           refine s_againR ((k + 1, o ++ [.mk kd t nm a b])) (fun i => if i = 0 then 3 else i) ?_ ?_ ?_ ?_ ?_ ?_ <;> (first | omega | (dsimp only; omega) | (intro i hi; (try dsimp only); (repeat' split) <;> omega) | (intro i j hi hj h; (try dsimp only at h); (repeat' split at h) <;> omega) | skip)
           · exact ⟨by dsimp only; omega, hs⟩
           all_goals (simp [fitsTR, fitsMR, PV.ren, renL, MB.ren, upd_def, PV.nmb, nmbL, MB.nmb, List.getD_cons_zero, List.getD_cons_succ, frz, drp, encPs_append, encPs_one, encP_mk]; done))
        | skip
    · have hlp : 0 < o.length := List.length_pos_iff.2 ho0
      obtain ⟨⟨k2, t2, n2, a2, b2⟩, hy⟩ := get_some (xs := o) (k := o.length - 1) (by omega)
      have hpr : ((o.length : Int) - 1).toNat = o.length - 1 := by omega
      have wy := wtL_split hy
      rw [wtP_mk] at wy
      have hend := endT_at hy
      have hset : (encPs o).set (o.length - 1) [.int .i64 k2, .str (t2 ++ t), .str n2, .seq (encPs a2), .seq (encPs b2)] = encPs (o.set (o.length - 1) (.mk k2 (t2 ++ t) n2 a2 b2)) := by rw [ps_set, encP_mk]
      repeat' (first | (first | (refine qwd fun K hk => ?_; simp only [lvX18_79, mkT, go_sem, Nat.reduceEqDiff, Nat.reduceAdd, Nat.reduceLeDiff, Nat.reduceLT, Nat.reduceSub, Int.reduceToNat, ↓reduceIte, reduceCtorEq, encPs_length, hget, hx, encP_mk, hA, hB, hta, hset, hpr, hgo, hy, Option.map_some, List.length_append]; apply hk; clear hk K) | apply qw8 | apply qw1 | refine qwc lvX18_79 ?_ | apply qt1 | apply qw5 | apply qw2 | apply qw9 | apply qt2 | apply qt3 | apply qt4 | apply qt5 | apply qt6 | apply qw3 | apply qw4 | apply qj1 | apply qj2 | apply qj3 | apply qj4 | apply qj5 | apply qu1 | apply qu2 | ((first | apply qa1 | apply qa2 | apply qa3 | apply qh1 | apply qh2); intro K hk; simp only [go_sem, Nat.reduceEqDiff, Nat.reduceAdd, Nat.reduceLeDiff, Nat.reduceLT, Nat.reduceSub, Int.reduceToNat, ↓reduceIte, reduceCtorEq, encPs_length, hget, hx, encP_mk, hA, hB, hta, hset, hpr, hgo, hy, Option.map_some, List.length_append]; (repeat (refine And.intro ?_ ?_; focus (first | omega | assumption | with_reducible rfl | (simp only [go_sem, Nat.reduceEqDiff, Nat.reduceAdd, Nat.reduceLeDiff, Nat.reduceLT, Nat.reduceSub, Int.reduceToNat, ↓reduceIte, reduceCtorEq, encPs_length, hget, hx, encP_mk, hA, hB, hta, hset, hpr, hgo, hy, Option.map_some, List.length_append]; done)))); intros; apply hk; clear hk K) | ((first | apply qg1 rfl | apply qcd); focus (simp only [go_sem, Nat.reduceEqDiff, Nat.reduceAdd, Nat.reduceLeDiff, Nat.reduceLT, Nat.reduceSub, Int.reduceToNat, ↓reduceIte, reduceCtorEq, encPs_length, hget, hx, encP_mk, hA, hB, hta, hset, hpr, hgo, hy, Option.map_some, List.length_append]; exact rfl)) | (refine qj6 ?_ ?_ <;> intro hc <;> (try simp only [hc]) <;> (try simp only [decide_eq_true_eq, decide_eq_false_iff_not, Bool.not_eq_true', Bool.not_eq_false', Bool.not_eq_true, reduceCtorEq] at hc) <;> (try (exfalso; omega))) | (refine qt7 ?_ ?_; focus decide) | (refine qw7 ?_ ?_ ?_; (focus (decide +kernel)); (focus (decide +kernel)))) | (refine s_draw 12 ?_ ?_; focus (decide +kernel)))
      all_goals first
        | (rw [hem (by omega) (by omega) (by omega)] at hs
           refine s_again ((k + 1, o)) ?_ ?_ ?_ <;> (first | omega | (dsimp only; omega) | skip)
           · exact ⟨by dsimp only; omega, hs⟩
           · simp [fits, fitsT, fitsM, upd_def, PV.nmb, nmbL, MB.nmb, List.getD_cons_zero, List.getD_cons_succ])
        | (rw [putR_new (hne (by omega)) (by first | exact .inl ‹¬ kd = 1› | exact .inr (by rw [hend, if_neg ‹¬ k2 = 1›]))] at hs
           refine s_againR ((k + 1, o ++ [.mk kd t nm a b])) (fun i => if i = 0 then 3 else i) ?_ ?_ ?_ ?_ ?_ ?_ <;> (first | omega | (dsimp only; omega) | (intro i hi; (try dsimp only); (repeat' split) <;> omega) | (intro i j hi hj h; (try dsimp only at h); (repeat' split at h) <;> omega) | skip)
           · exact ⟨by dsimp only; omega, hs⟩
           all_goals (simp [fitsTR, fitsMR, PV.ren, renL, MB.ren, upd_def, PV.nmb, nmbL, MB.nmb, List.getD_cons_zero, List.getD_cons_succ, frz, drp, encPs_append, encPs_one, encP_mk]; done))
        | (obtain rfl : kd = 1 := ‹_›
           rw [putR_hit hy ‹k2 = 1›, if_pos (by rw [List.length_append]; omega)] at hs
           refine s_again ((k + 1, o.set (o.length - 1) (.mk k2 (t2 ++ t) n2 a2 b2))) ?_ ?_ ?_ <;> (first | omega | (dsimp only; omega) | skip)
           · exact ⟨by dsimp only; omega, hs⟩
           · simp [fits, fitsT, fitsM, upd_def, PV.nmb, nmbL, MB.nmb, List.getD_cons_zero, List.getD_cons_succ])
        | (obtain rfl : kd = 1 := ‹_›
           rw [putR_hit hy ‹k2 = 1›, if_neg (by rw [List.length_append]; omega)] at hs
           refine s_againR ((k + 1, o ++ [.mk 1 t nm a b])) (fun i => if i = 0 then 3 else i) ?_ ?_ ?_ ?_ ?_ ?_ <;> (first | omega | (dsimp only; omega) | (intro i hi; (try dsimp only); (repeat' split) <;> omega) | (intro i j hi hj h; (try dsimp only at h); (repeat' split at h) <;> omega) | skip)
           · exact ⟨by dsimp only; omega, hs⟩
           all_goals (simp [fitsTR, fitsMR, PV.ren, renL, MB.ren, upd_def, PV.nmb, nmbL, MB.nmb, List.getD_cons_zero, List.getD_cons_succ, frz, drp, encPs_append, encPs_one, encP_mk]; done))
        | skip
  · obtain rfl : k = xs.length := by omega
    repeat' (first | (refine qwd fun K hk => ?_; simp only [lvX18_79, mkT, go_sem, Nat.reduceEqDiff, Nat.reduceAdd, Nat.reduceLeDiff, Nat.reduceLT, Nat.reduceSub, Int.reduceToNat, ↓reduceIte, reduceCtorEq, encPs_length]; apply hk; clear hk K) | apply qw8 | apply qw1 | refine qwc lvX18_79 ?_ | apply qt1 | apply qw5 | apply qw2 | apply qw9 | apply qt2 | apply qt3 | apply qt4 | apply qt5 | apply qt6 | apply qw3 | apply qw4 | apply qj1 | apply qj2 | apply qj3 | apply qj4 | apply qj5 | apply qu1 | apply qu2 | ((first | apply qa1 | apply qa2 | apply qa3 | apply qh1 | apply qh2); intro K hk; simp only [go_sem, Nat.reduceEqDiff, Nat.reduceAdd, Nat.reduceLeDiff, Nat.reduceLT, Nat.reduceSub, Int.reduceToNat, ↓reduceIte, reduceCtorEq, encPs_length]; (repeat (refine And.intro ?_ ?_; focus (first | omega | assumption | with_reducible rfl | (simp only [go_sem, Nat.reduceEqDiff, Nat.reduceAdd, Nat.reduceLeDiff, Nat.reduceLT, Nat.reduceSub, Int.reduceToNat, ↓reduceIte, reduceCtorEq, encPs_length]; done)))); intros; apply hk; clear hk K) | ((first | apply qg1 rfl | apply qcd); focus (simp only [go_sem, Nat.reduceEqDiff, Nat.reduceAdd, Nat.reduceLeDiff, Nat.reduceLT, Nat.reduceSub, Int.reduceToNat, ↓reduceIte, reduceCtorEq, encPs_length]; exact rfl)) | (refine qj6 ?_ ?_ <;> intro hc <;> (try simp only [hc]) <;> (try simp only [decide_eq_true_eq, decide_eq_false_iff_not, Bool.not_eq_true', Bool.not_eq_false', Bool.not_eq_true, reduceCtorEq] at hc) <;> (try (exfalso; omega))) | (refine qt7 ?_ ?_; focus decide) | (refine qw7 ?_ ?_ ?_; (focus (decide +kernel)); (focus (decide +kernel))))
    ((first | refine fin_ret ?_ | refine fin_end ?_); simp only [go_sem, ↓upd_def, Nat.reduceEqDiff, Nat.reduceAdd, ↓reduceIte, reduceCtorEq])
    rw [List.take_length] at ho
    refine K_eq hK ?_
    rw [ho]
end Go.Proofs.Ytoocbpendccngaa
