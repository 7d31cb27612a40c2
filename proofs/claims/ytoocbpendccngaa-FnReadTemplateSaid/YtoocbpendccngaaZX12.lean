/- Contracts: the text of parts. -/
import Derived.Test.YtoocbpendccngaaZX11

namespace Go.Proofs.Ytoocbpendccngaa
attribute [local irreducible] awp arun acalm FinP Fin AX.then AX.inBlock Again aG gsel amix amixN amixC aop aopc aopd cutK
attribute [local go_sem] aBSliceD aSlice aSliceC boundOf aMk aCall aCallC aLenL aLen aPick_t aPick_f aNil aAlloc aBox aBuild bldPV aBSlice bsPV aApp newsOf destOf drp aConvX aConv aConvInt aLoad cellsAt aStore cellsPV setAt aFld aField aIdx aIndex aUn aBin' aBin aMax aExtract pvOf PV.isCell nmbL PV.nmb List.map_cons List.map_nil List.all_cons List.all_nil Bool.and_true Bool.true_and if_true if_false List.getD_cons_zero List.getD_cons_succ List.getD_nil Option.isSome_some true_and and_true and_self eq_self true_or or_true List.drop_zero List.drop_succ_cons List.drop_nil List.take_zero List.take_succ_cons List.take_nil List.length_cons List.length_nil List.length_map Option.getD_some Option.getD_none List.nil_append List.cons_append List.append_nil Option.some.injEq exists_eq_left' List.getElem?_cons_zero List.getElem?_cons_succ Int.toNat_natCast Int.natCast_inj toNat_succ Nat.zero_add res res1 resC owns owns1 ownsC List.flatMap_cons List.flatMap_nil List.flatten_cons List.flatten_nil List.mem_cons List.not_mem_nil or_false false_or forall_eq forall_eq_or_imp isFro frz frz1 pureC tabA isBld List.cons.injEq PV.seq.injEq PV.int.injEq PV.str.injEq PV.bool.injEq PV.agg.injEq inR tab Γof aRes packR Option.map_some Option.map_none rel Prod.exists exists_and_left exists_eq_left and_assoc beq_self_eq_true Bool.not_true Bool.not_false decide_true decide_false List.set_cons_zero List.set_cons_succ rst_nil rst_cons
attribute [local go_sem ↓] evT upd_def aop aopc aopd
set_option maxRecDepth 100000
set_option linter.unusedVariables false
set_option linter.unusedSimpArgs false
open Go.RowKit
def lv61 : Nat → List Nat
  | 0 => [0]
  | 1 => [0, 3]
  | 2 => [3, 6, 7, 8]
  | 3 => [3, 6, 7, 8, 9]
  | 4 => [3, 5, 6, 7, 8]
  | 5 => [3, 5, 6, 7, 8, 13]
  | 6 => [3, 5, 6, 7, 8, 13, 14]
  | 7 => [3, 6, 7, 8]
  | 8 => [3, 5, 6, 7, 8, 13, 20]
  | 9 => [3, 6, 7, 8]
  | 10 => [3, 5, 6, 7, 8, 13, 28]
  | 11 => [3, 6, 7, 8]
  | 12 => [3, 5, 6, 7, 8, 41]
  | 13 => [3, 5, 6, 7, 8]
  | 14 => [3, 5, 6, 7, 8, 56]
  | 15 => [3, 6, 7, 8]
  | 16 => [3, 6, 7, 8]
  | 17 => [3, 6, 7, 8]
  | 18 => [2]
  | _ => []
def lv62 : Nat → List Nat
  | 0 => [0]
  | 1 => [0, 3]
  | 2 => [0, 3, 4]
  | 3 => [0, 3, 4, 9]
  | 4 => [0, 3, 4]
  | 5 => [0, 3, 4, 5]
  | 6 => [0, 3, 4, 5, 17]
  | 7 => [0, 3, 4, 5]
  | 8 => [0, 3, 4, 5, 31]
  | 9 => [0, 3, 4]
  | 10 => [0, 3, 4]
  | 11 => [0, 3, 4, 5, 17, 40]
  | 12 => [0, 3, 4]
  | 13 => [0, 3, 4, 5, 17, 46]
  | 14 => [0, 3, 4]
  | 15 => [0, 3, 4, 5, 54]
  | 16 => [0, 3, 4]
  | 17 => [2]
  | _ => []
mutual
/-- The text of a part (of an unknown kind: none). -/
def txtP : PartD → Bs
  | .mk k t n ps os => if k = 1 then t else if k = 2 then [123, 123] ++ n ++ [125, 125] else if k = 4 then [123, 123, 101, 97, 99, 104, 32] ++ n ++ [125, 125] ++ txtL ps ++ [123, 123, 101, 110, 100, 125, 125]
    else if k = 3 then [123, 123, 105, 102, 32] ++ n ++ [125, 125] ++ txtL ps ++ (if os = [] then [] else [123, 123, 101, 108, 115, 101, 125, 125] ++ txtL os) ++ [123, 123, 101, 110, 100, 125, 125] else []
def txtL : List PartD → Bs
  | [] => []
  | x :: xs => txtP x ++ txtL xs
end
theorem txtL_nil : txtL [] = [] := by simp [txtL]
theorem txtL_cons (x : PartD) (xs : List PartD) : txtL (x :: xs) = txtP x ++ txtL xs := by simp [txtL]
theorem txtL_append : ∀ xs ys : List PartD, txtL (xs ++ ys) = txtL xs ++ txtL ys
  | [], ys => by simp [txtL_nil]
  | x :: xs, ys => by rw [List.cons_append, txtL_cons, txtL_cons, txtL_append xs ys, List.append_assoc]
theorem txtL_one (x : PartD) : txtL [x] = txtP x := by rw [txtL_cons, txtL_nil, List.append_nil]
theorem txtP_mk (k : Int) (t n : Bs) (ps os : List PartD) : txtP (.mk k t n ps os) = if k = 1 then t else if k = 2 then [123, 123] ++ n ++ [125, 125] else if k = 4 then [123, 123, 101, 97, 99, 104, 32] ++ n ++ [125, 125] ++ txtL ps ++ [123, 123, 101, 110, 100, 125, 125]
    else if k = 3 then [123, 123, 105, 102, 32] ++ n ++ [125, 125] ++ txtL ps ++ (if os = [] then [] else [123, 123, 101, 108, 115, 101, 125, 125] ++ txtL os) ++ [123, 123, 101, 110, 100, 125, 125] else [] := by rw [txtP]
mutual
theorem txtP_le : ∀ x : PartD, (txtP x).length ≤ 22 * (wtP x + 1)
  | .mk k t n ps os => by
    have h1 := txtL_le ps
    have h2 := txtL_le os
    rw [txtP_mk, wtP_mk]
    repeat' split
    all_goals (try simp only [List.length_append, List.length_cons, List.length_nil])
    all_goals omega
theorem txtL_le : ∀ xs : List PartD, (txtL xs).length ≤ 22 * wtL xs
  | [] => by simp [txtL]
  | x :: xs => by
    have h1 := txtP_le x
    have h2 := txtL_le xs
    rw [txtL_cons, show x :: xs = [x] ++ xs from rfl, wtL_append, wtL_one, List.length_append]
    omega
end
set_option maxHeartbeats 8000000 in
theorem txt_i : ∀ n, PureOk Try.prog 61 (parC (fun x => .str (txtL x)) n) := by
  intro n
  induction n with
  | zero => exact never_rel Try.func61 (by kernel_rfl) (by kernel_rfl) (fun x h => by omega)
  | succ n ih =>
  refine pure_rel 1 (tab_cons ih tab_nil) mixed [.tmp 2] Try.func61 rfl rfl (by kernel_rfl) (by kernel_rfl) (fun _ => rfl) (by kernel_rfl) ?_
  rintro xs K ⟨hn, hb⟩ hK
  clear ih
  have hlw := len_le_wtL xs
  unfold entry
  repeat' (first | (refine qwd fun K hk => ?_; simp only [lv61, mkT, go_sem, Nat.reduceEqDiff, Nat.reduceAdd, Nat.reduceLeDiff, Nat.reduceLT, Nat.reduceSub, Int.reduceToNat, ↓reduceIte, reduceCtorEq]; apply hk; clear hk K) | apply qw8 | apply qw1 | refine qwc lv61 ?_ | apply qt1 | apply qw5 | apply qw2 | apply qw9 | apply qt2 | apply qt3 | apply qt4 | apply qt5 | apply qt6 | apply qw3 | apply qw4 | apply qj1 | apply qj2 | apply qj3 | apply qj4 | apply qj5 | apply qu1 | apply qu2 | ((first | apply qa1 | apply qa2 | apply qa3 | apply qh1 | apply qh2); intro K hk; simp only [go_sem, Nat.reduceEqDiff, Nat.reduceAdd, Nat.reduceLeDiff, Nat.reduceLT, Nat.reduceSub, Int.reduceToNat, ↓reduceIte, reduceCtorEq]; (repeat (refine And.intro ?_ ?_; focus (first | omega | assumption | with_reducible rfl | (simp only [go_sem, Nat.reduceEqDiff, Nat.reduceAdd, Nat.reduceLeDiff, Nat.reduceLT, Nat.reduceSub, Int.reduceToNat, ↓reduceIte, reduceCtorEq]; done)))); intros; apply hk; clear hk K) | ((first | apply qg1 rfl | apply qcd); focus (simp only [go_sem, Nat.reduceEqDiff, Nat.reduceAdd, Nat.reduceLeDiff, Nat.reduceLT, Nat.reduceSub, Int.reduceToNat, ↓reduceIte, reduceCtorEq]; exact rfl)) | (refine qj6 ?_ ?_ <;> intro hc <;> (try simp only [hc]) <;> (try simp only [decide_eq_true_eq, decide_eq_false_iff_not, Bool.not_eq_true', Bool.not_eq_false', Bool.not_eq_true, reduceCtorEq] at hc) <;> (try (exfalso; omega))) | (refine qt7 ?_ ?_; focus decide) | (refine qw7 ?_ ?_ ?_; (focus (decide +kernel)); (focus (decide +kernel))))
  refine s_loop (ι := Nat) (fun k => [(3, .str (txtL (xs.take k))), (6, .seq (encPs xs)), (7, .int .i64 xs.length), (8, .int .i64 k)]) (fun _ => []) 0 (fun k => k ≤ xs.length) (fun k => xs.length - k) 0 (by omega) (by omega) ?_ ?_
  · simp [fits, fitsT, fitsM, upd_def, PV.nmb, nmbL, MB.nmb, List.getD_cons_zero, List.getD_cons_succ, txtL_nil]
  intro k hk
  simp only [mkS, mkT, mkM]
  repeat' (first | (refine qwd fun K hk => ?_; simp only [lv61, mkT, go_sem, Nat.reduceEqDiff, Nat.reduceAdd, Nat.reduceLeDiff, Nat.reduceLT, Nat.reduceSub, Int.reduceToNat, ↓reduceIte, reduceCtorEq]; apply hk; clear hk K) | apply qw8 | apply qw1 | refine qwc lv61 ?_ | apply qt1 | apply qw5 | apply qw2 | apply qw9 | apply qt2 | apply qt3 | apply qt4 | apply qt5 | apply qt6 | apply qw3 | apply qw4 | apply qj1 | apply qj2 | apply qj3 | apply qj4 | apply qj5 | apply qu1 | apply qu2 | ((first | apply qa1 | apply qa2 | apply qa3 | apply qh1 | apply qh2); intro K hk; simp only [go_sem, Nat.reduceEqDiff, Nat.reduceAdd, Nat.reduceLeDiff, Nat.reduceLT, Nat.reduceSub, Int.reduceToNat, ↓reduceIte, reduceCtorEq]; (repeat (refine And.intro ?_ ?_; focus (first | omega | assumption | with_reducible rfl | (simp only [go_sem, Nat.reduceEqDiff, Nat.reduceAdd, Nat.reduceLeDiff, Nat.reduceLT, Nat.reduceSub, Int.reduceToNat, ↓reduceIte, reduceCtorEq]; done)))); intros; apply hk; clear hk K) | ((first | apply qg1 rfl | apply qcd); focus (simp only [go_sem, Nat.reduceEqDiff, Nat.reduceAdd, Nat.reduceLeDiff, Nat.reduceLT, Nat.reduceSub, Int.reduceToNat, ↓reduceIte, reduceCtorEq]; exact rfl)) | (refine qj6 ?_ ?_ <;> intro hc <;> (try simp only [hc]) <;> (try simp only [decide_eq_true_eq, decide_eq_false_iff_not, Bool.not_eq_true', Bool.not_eq_false', Bool.not_eq_true, reduceCtorEq] at hc) <;> (try (exfalso; omega))) | (refine qt7 ?_ ?_; focus decide) | (refine qw7 ?_ ?_ ?_; (focus (decide +kernel)); (focus (decide +kernel))))
  · obtain ⟨⟨kd, t, nm, ps, os⟩, hx⟩ := get_some (xs := xs) (k := k) (by omega)
    have htk := take_snoc' hx
    have ws := wtL_split hx
    rw [wtP_mk] at ws
    have hget := encPs_get xs
    have c1 := txtL_le ps
    have c2 := txtL_le os
    have c3 := txtL_le (xs.take k)
    have wd := len_le_wtL (xs.drop (k + 1))
    have c4 := len_le_wtL os
    have hos : os = [] ↔ ¬ (0 : Int) < os.length := by rw [← List.length_eq_zero_iff]; omega
    have wk : wtL (xs.take k) ≤ wtL xs := by have := wtL_append (xs.take k) (xs.drop k); rw [List.take_append_drop] at this; omega
    repeat' (first | (refine qwd fun K hk => ?_; simp only [lv61, mkT, go_sem, Nat.reduceEqDiff, Nat.reduceAdd, Nat.reduceLeDiff, Nat.reduceLT, Nat.reduceSub, Int.reduceToNat, ↓reduceIte, reduceCtorEq, hget, hx, encP_mk, List.length_append, encPs_length]; apply hk; clear hk K) | apply qw8 | apply qw1 | refine qwc lv61 ?_ | apply qt1 | apply qw5 | apply qw2 | apply qw9 | apply qt2 | apply qt3 | apply qt4 | apply qt5 | apply qt6 | apply qw3 | apply qw4 | apply qj1 | apply qj2 | apply qj3 | apply qj4 | apply qj5 | apply qu1 | apply qu2 | ((first | apply qa1 | apply qa2 | apply qa3 | apply qh1 | apply qh2); intro K hk; simp only [go_sem, Nat.reduceEqDiff, Nat.reduceAdd, Nat.reduceLeDiff, Nat.reduceLT, Nat.reduceSub, Int.reduceToNat, ↓reduceIte, reduceCtorEq, hget, hx, encP_mk, List.length_append, encPs_length]; (repeat (refine And.intro ?_ ?_; focus (first | omega | assumption | with_reducible rfl | (simp only [go_sem, Nat.reduceEqDiff, Nat.reduceAdd, Nat.reduceLeDiff, Nat.reduceLT, Nat.reduceSub, Int.reduceToNat, ↓reduceIte, reduceCtorEq, hget, hx, encP_mk, List.length_append, encPs_length]; done)))); intros; apply hk; clear hk K) | ((first | apply qg1 rfl | apply qcd); focus (simp only [go_sem, Nat.reduceEqDiff, Nat.reduceAdd, Nat.reduceLeDiff, Nat.reduceLT, Nat.reduceSub, Int.reduceToNat, ↓reduceIte, reduceCtorEq, hget, hx, encP_mk, List.length_append, encPs_length]; exact rfl)) | (refine qj6 ?_ ?_ <;> intro hc <;> (try simp only [hc]) <;> (try simp only [decide_eq_true_eq, decide_eq_false_iff_not, Bool.not_eq_true', Bool.not_eq_false', Bool.not_eq_true, reduceCtorEq] at hc) <;> (try (exfalso; omega))) | (refine qt7 ?_ ?_; focus decide) | (refine qw7 ?_ ?_ ?_; (focus (decide +kernel)); (focus (decide +kernel))))
    all_goals
      refine s_again (k + 1) ?_ ?_ ?_ <;> (first | omega | (dsimp only; omega) | skip)
      have hS : txtL (xs.take (k + 1)) = txtL (xs.take k) ++ txtP (.mk kd t nm ps os) := by rw [htk, txtL_append, txtL_one]
      rw [txtP_mk] at hS
      clear hK htk hos
      by_cases ho : os = []
      · subst ho; first | (exfalso; simp at hc; done) | simp [fits, fitsT, fitsM, upd_def, PV.nmb, nmbL, MB.nmb, List.getD_cons_zero, List.getD_cons_succ, *]
      · have hl9 := List.length_pos_iff.2 ho
        first | (exfalso; omega) | simp [fits, fitsT, fitsM, upd_def, PV.nmb, nmbL, MB.nmb, List.getD_cons_zero, List.getD_cons_succ, *]
  · obtain rfl : k = xs.length := by omega
    ((first | refine fin_ret ?_ | refine fin_end ?_); simp only [go_sem, ↓upd_def, Nat.reduceEqDiff, Nat.reduceAdd, ↓reduceIte, reduceCtorEq])
    rw [List.take_length]
    exact hK
theorem txt_ic : PureOk Try.prog 61 (parQ (fun x => .str (txtL x))) := par_all txt_i
@[go_sem] def kdC (n : Nat) : PC := rel (α := List PartD) (fun x => [.seq (encPs x)]) (fun x => wtL x < n ∧ wtL x ≤ 1099511627776 ∧ ∃ d b, gdL d b x = true) (fun x => .str (txtL x))
@[go_sem] def kdQ : PC := rel (α := List PartD) (fun x => [.seq (encPs x)]) (fun x => wtL x ≤ 1099511627776 ∧ ∃ d b, gdL d b x = true) (fun x => .str (txtL x))
theorem gdL_mem {d : Nat} {x : PartD} : ∀ {xs : List PartD} {b : Bool} {k : Nat}, gdL d b xs = true → xs[k]? = some x → gdP d x = true
  | [], _, k, _, h => by simp at h
  | y :: ys, b, 0, h, hx => by
    rw [gdL] at h
    simp only [Bool.and_eq_true] at h
    obtain rfl : y = x := by simpa using hx
    exact h.1.1
  | y :: ys, b, k + 1, h, hx => by
    rw [gdL] at h
    simp only [Bool.and_eq_true] at h
    exact gdL_mem h.2 (by simpa using hx)
theorem gd_in {d : Nat} {k : Int} {t n : Bs} {ps os : List PartD} (h : gdP d (.mk k t n ps os) = true) : (k = 1 ∨ k = 2 ∨ k = 3 ∨ k = 4) ∧ (∃ d b, gdL d b ps = true) ∧ (∃ d b, gdL d b os = true) := by
  rw [gdP_mk] at h
  split at h
  · rename_i e
    simp only [Bool.and_eq_true, decide_eq_true_eq] at h
    obtain ⟨⟨_, rfl⟩, rfl⟩ := h
    exact ⟨.inl e, ⟨0, false, gdL_nil _ _⟩, ⟨0, false, gdL_nil _ _⟩⟩
  split at h
  · rename_i e
    simp only [Bool.and_eq_true, decide_eq_true_eq] at h
    obtain ⟨⟨_, rfl⟩, rfl⟩ := h
    exact ⟨.inr (.inl e), ⟨0, false, gdL_nil _ _⟩, ⟨0, false, gdL_nil _ _⟩⟩
  split at h
  · rename_i e
    simp only [Bool.and_eq_true, decide_eq_true_eq] at h
    exact ⟨by omega, ⟨_, _, h.1.2⟩, ⟨_, _, h.2⟩⟩
  · cases h
set_option maxHeartbeats 8000000 in
theorem txt_s : ∀ n, PureOk Try.prog 62 (kdC n) := by
  intro n
  induction n with
  | zero => exact never_rel Try.func62 (by kernel_rfl) (by kernel_rfl) (fun x h => by omega)
  | succ n ih =>
  refine pure_rel 1 (tab_cons ih tab_nil) mixed [.tmp 2] Try.func62 rfl rfl (by kernel_rfl) (by kernel_rfl) (fun _ => rfl) (by kernel_rfl) ?_
  rintro xs K ⟨hn, hb, d, b, hgd⟩ hK
  clear ih
  have hlw := len_le_wtL xs
  unfold entry
  repeat' (first | (refine qwd fun K hk => ?_; simp only [lv62, mkT, go_sem, Nat.reduceEqDiff, Nat.reduceAdd, Nat.reduceLeDiff, Nat.reduceLT, Nat.reduceSub, Int.reduceToNat, ↓reduceIte, reduceCtorEq]; apply hk; clear hk K) | apply qw8 | apply qw1 | refine qwc lv62 ?_ | apply qt1 | apply qw5 | apply qw2 | apply qw9 | apply qt2 | apply qt3 | apply qt4 | apply qt5 | apply qt6 | apply qw3 | apply qw4 | apply qj1 | apply qj2 | apply qj3 | apply qj4 | apply qj5 | apply qu1 | apply qu2 | ((first | apply qa1 | apply qa2 | apply qa3 | apply qh1 | apply qh2); intro K hk; simp only [go_sem, Nat.reduceEqDiff, Nat.reduceAdd, Nat.reduceLeDiff, Nat.reduceLT, Nat.reduceSub, Int.reduceToNat, ↓reduceIte, reduceCtorEq]; (repeat (refine And.intro ?_ ?_; focus (first | omega | assumption | with_reducible rfl | (simp only [go_sem, Nat.reduceEqDiff, Nat.reduceAdd, Nat.reduceLeDiff, Nat.reduceLT, Nat.reduceSub, Int.reduceToNat, ↓reduceIte, reduceCtorEq]; done)))); intros; apply hk; clear hk K) | ((first | apply qg1 rfl | apply qcd); focus (simp only [go_sem, Nat.reduceEqDiff, Nat.reduceAdd, Nat.reduceLeDiff, Nat.reduceLT, Nat.reduceSub, Int.reduceToNat, ↓reduceIte, reduceCtorEq]; exact rfl)) | (refine qj6 ?_ ?_ <;> intro hc <;> (try simp only [hc]) <;> (try simp only [decide_eq_true_eq, decide_eq_false_iff_not, Bool.not_eq_true', Bool.not_eq_false', Bool.not_eq_true, reduceCtorEq] at hc) <;> (try (exfalso; omega))) | (refine qt7 ?_ ?_; focus decide) | (refine qw7 ?_ ?_ ?_; (focus (decide +kernel)); (focus (decide +kernel))))
  refine s_loop (ι := Nat) (fun k => [(0, .seq (encPs xs)), (3, .str (txtL (xs.take k))), (4, .int .i64 k)]) (fun _ => []) 0 (fun k => k ≤ xs.length) (fun k => xs.length - k) 0 (by omega) (by omega) ?_ ?_
  · simp [fits, fitsT, fitsM, upd_def, PV.nmb, nmbL, MB.nmb, List.getD_cons_zero, List.getD_cons_succ, txtL_nil]
  intro k hk
  simp only [mkS, mkT, mkM]
  repeat' (first | (refine qwd fun K hk => ?_; simp only [lv62, mkT, go_sem, Nat.reduceEqDiff, Nat.reduceAdd, Nat.reduceLeDiff, Nat.reduceLT, Nat.reduceSub, Int.reduceToNat, ↓reduceIte, reduceCtorEq]; apply hk; clear hk K) | apply qw8 | apply qw1 | refine qwc lv62 ?_ | apply qt1 | apply qw5 | apply qw2 | apply qw9 | apply qt2 | apply qt3 | apply qt4 | apply qt5 | apply qt6 | apply qw3 | apply qw4 | apply qj1 | apply qj2 | apply qj3 | apply qj4 | apply qj5 | apply qu1 | apply qu2 | ((first | apply qa1 | apply qa2 | apply qa3 | apply qh1 | apply qh2); intro K hk; simp only [go_sem, Nat.reduceEqDiff, Nat.reduceAdd, Nat.reduceLeDiff, Nat.reduceLT, Nat.reduceSub, Int.reduceToNat, ↓reduceIte, reduceCtorEq]; (repeat (refine And.intro ?_ ?_; focus (first | omega | assumption | with_reducible rfl | (simp only [go_sem, Nat.reduceEqDiff, Nat.reduceAdd, Nat.reduceLeDiff, Nat.reduceLT, Nat.reduceSub, Int.reduceToNat, ↓reduceIte, reduceCtorEq]; done)))); intros; apply hk; clear hk K) | ((first | apply qg1 rfl | apply qcd); focus (simp only [go_sem, Nat.reduceEqDiff, Nat.reduceAdd, Nat.reduceLeDiff, Nat.reduceLT, Nat.reduceSub, Int.reduceToNat, ↓reduceIte, reduceCtorEq]; exact rfl)) | (refine qj6 ?_ ?_ <;> intro hc <;> (try simp only [hc]) <;> (try simp only [decide_eq_true_eq, decide_eq_false_iff_not, Bool.not_eq_true', Bool.not_eq_false', Bool.not_eq_true, reduceCtorEq] at hc) <;> (try (exfalso; omega))) | (refine qt7 ?_ ?_; focus decide) | (refine qw7 ?_ ?_ ?_; (focus (decide +kernel)); (focus (decide +kernel))))
  · obtain ⟨⟨kd, t, nm, ps, os⟩, hx⟩ := get_some (xs := xs) (k := k) (by omega)
    have htk := take_snoc' hx
    have ws := wtL_split hx
    rw [wtP_mk] at ws
    have hget := encPs_get xs
    obtain ⟨hkd, hgp, hgo⟩ := gd_in (gdL_mem hgd hx)
    have c1 := txtL_le ps
    have c2 := txtL_le os
    have c3 := txtL_le (xs.take k)
    have wd := len_le_wtL (xs.drop (k + 1))
    have c4 := len_le_wtL os
    have hos : os = [] ↔ ¬ (0 : Int) < os.length := by rw [← List.length_eq_zero_iff]; omega
    have wk : wtL (xs.take k) ≤ wtL xs := by have := wtL_append (xs.take k) (xs.drop k); rw [List.take_append_drop] at this; omega
    repeat' (first | (refine qwd fun K hk => ?_; simp only [lv62, mkT, go_sem, Nat.reduceEqDiff, Nat.reduceAdd, Nat.reduceLeDiff, Nat.reduceLT, Nat.reduceSub, Int.reduceToNat, ↓reduceIte, reduceCtorEq, hget, hx, encP_mk, List.length_append, encPs_length]; apply hk; clear hk K) | apply qw8 | apply qw1 | refine qwc lv62 ?_ | apply qt1 | apply qw5 | apply qw2 | apply qw9 | apply qt2 | apply qt3 | apply qt4 | apply qt5 | apply qt6 | apply qw3 | apply qw4 | apply qj1 | apply qj2 | apply qj3 | apply qj4 | apply qj5 | apply qu1 | apply qu2 | ((first | apply qa1 | apply qa2 | apply qa3 | apply qh1 | apply qh2); intro K hk; simp only [go_sem, Nat.reduceEqDiff, Nat.reduceAdd, Nat.reduceLeDiff, Nat.reduceLT, Nat.reduceSub, Int.reduceToNat, ↓reduceIte, reduceCtorEq, hget, hx, encP_mk, List.length_append, encPs_length]; (repeat (refine And.intro ?_ ?_; focus (first | omega | assumption | with_reducible rfl | (simp only [go_sem, Nat.reduceEqDiff, Nat.reduceAdd, Nat.reduceLeDiff, Nat.reduceLT, Nat.reduceSub, Int.reduceToNat, ↓reduceIte, reduceCtorEq, hget, hx, encP_mk, List.length_append, encPs_length]; done)))); intros; apply hk; clear hk K) | ((first | apply qg1 rfl | apply qcd); focus (simp only [go_sem, Nat.reduceEqDiff, Nat.reduceAdd, Nat.reduceLeDiff, Nat.reduceLT, Nat.reduceSub, Int.reduceToNat, ↓reduceIte, reduceCtorEq, hget, hx, encP_mk, List.length_append, encPs_length]; exact rfl)) | (refine qj6 ?_ ?_ <;> intro hc <;> (try simp only [hc]) <;> (try simp only [decide_eq_true_eq, decide_eq_false_iff_not, Bool.not_eq_true', Bool.not_eq_false', Bool.not_eq_true, reduceCtorEq] at hc) <;> (try (exfalso; omega))) | (refine qt7 ?_ ?_; focus decide) | (refine qw7 ?_ ?_ ?_; (focus (decide +kernel)); (focus (decide +kernel))))
    all_goals
      refine s_again (k + 1) ?_ ?_ ?_ <;> (first | omega | (dsimp only; omega) | skip)
      have hS : txtL (xs.take (k + 1)) = txtL (xs.take k) ++ txtP (.mk kd t nm ps os) := by rw [htk, txtL_append, txtL_one]
      rw [txtP_mk] at hS
      clear hK htk hos
      by_cases ho : os = []
      · subst ho; first | (exfalso; simp at hc; done) | (simp [fits, fitsT, fitsM, upd_def, PV.nmb, nmbL, MB.nmb, List.getD_cons_zero, List.getD_cons_succ, *]; done) | (obtain rfl : kd = 3 := (by omega); simp [fits, fitsT, fitsM, upd_def, PV.nmb, nmbL, MB.nmb, List.getD_cons_zero, List.getD_cons_succ, *])
      · have hl9 := List.length_pos_iff.2 ho
        first | (exfalso; omega) | (simp [fits, fitsT, fitsM, upd_def, PV.nmb, nmbL, MB.nmb, List.getD_cons_zero, List.getD_cons_succ, *]; done) | (obtain rfl : kd = 3 := (by omega); simp [fits, fitsT, fitsM, upd_def, PV.nmb, nmbL, MB.nmb, List.getD_cons_zero, List.getD_cons_succ, *])
  · obtain rfl : k = xs.length := by omega
    ((first | refine fin_ret ?_ | refine fin_end ?_); simp only [go_sem, ↓upd_def, Nat.reduceEqDiff, Nat.reduceAdd, ↓reduceIte, reduceCtorEq])
    rw [List.take_length]
    exact hK
theorem txt_sc : PureOk Try.prog 62 kdQ := rel_all (fun x : List PartD => wtL x) txt_s
def ttM (x : List PartD) : Bs := if partsB x = true then txtL x else []
theorem tt_i : PureOk Try.prog 14 (parV fun x => .str (ttM x)) := by
  refine pure_rel 1 (tab_cons pv_i (tab_cons txt_ic tab_nil)) mixed [.tmp 2] Try.func14 rfl rfl (by kernel_rfl) (by kernel_rfl) (fun _ => rfl) (by kernel_rfl) ?_
  rintro xs K hb hK
  unfold entry
  repeat' (first | apply qw8 | apply qw1 | apply qw6 | apply qt1 | apply qw5 | apply qw2 | apply qw9 | apply qt2 | apply qt3 | apply qt4 | apply qt5 | apply qt6 | apply qw3 | apply qw4 | apply qj1 | apply qj2 | apply qj3 | apply qj4 | apply qj5 | apply qu1 | apply qu2 | ((first | apply qa1 | apply qa2 | apply qa3 | apply qh1 | apply qh2); intro K hk; simp only [go_sem, Nat.reduceEqDiff, Nat.reduceAdd, Nat.reduceLeDiff, Nat.reduceLT, Nat.reduceSub, Int.reduceToNat, ↓reduceIte, reduceCtorEq]; (repeat (refine And.intro ?_ ?_; focus (first | omega | assumption | with_reducible rfl | (simp only [go_sem, Nat.reduceEqDiff, Nat.reduceAdd, Nat.reduceLeDiff, Nat.reduceLT, Nat.reduceSub, Int.reduceToNat, ↓reduceIte, reduceCtorEq]; done)))); intros; apply hk; clear hk K) | ((first | apply qg1 rfl | apply qcd); focus (simp only [go_sem, Nat.reduceEqDiff, Nat.reduceAdd, Nat.reduceLeDiff, Nat.reduceLT, Nat.reduceSub, Int.reduceToNat, ↓reduceIte, reduceCtorEq]; exact rfl)) | (refine qj6 ?_ ?_ <;> intro hc <;> (try simp only [hc]) <;> (try simp only [decide_eq_true_eq, decide_eq_false_iff_not, Bool.not_eq_true', Bool.not_eq_false', Bool.not_eq_true, reduceCtorEq] at hc) <;> (try (exfalso; omega))) | (refine qt7 ?_ ?_; focus decide) | (refine qw7 ?_ ?_ ?_; (focus (decide +kernel)); (focus (decide +kernel))))
  all_goals
    ((first | refine fin_ret ?_ | refine fin_end ?_); simp only [go_sem, ↓upd_def, Nat.reduceEqDiff, Nat.reduceAdd, ↓reduceIte, reduceCtorEq])
    refine K_str hK ?_
    clear hK
    unfold ttM
    simp [*]
theorem partsB_gd {x : List PartD} (h : partsB x = true) : ∃ d b, gdL d b x = true := by
  unfold partsB at h
  simp only [Bool.and_eq_true] at h
  exact ⟨_, _, h.2⟩
theorem tt_s : PureOk Try.prog 15 (parV fun x => .str (ttM x)) := by
  refine pure_rel 1 (tab_cons pv_s (tab_cons txt_sc tab_nil)) mixed [.tmp 2] Try.func15 rfl rfl (by kernel_rfl) (by kernel_rfl) (fun _ => rfl) (by kernel_rfl) ?_
  rintro xs K hb hK
  unfold entry
  by_cases hp : partsB xs = true
  · have hp2 := partsB_gd hp
    repeat' (first | apply qw8 | apply qw1 | apply qw6 | apply qt1 | apply qw5 | apply qw2 | apply qw9 | apply qt2 | apply qt3 | apply qt4 | apply qt5 | apply qt6 | apply qw3 | apply qw4 | apply qj1 | apply qj2 | apply qj3 | apply qj4 | apply qj5 | apply qu1 | apply qu2 | ((first | apply qa1 | apply qa2 | apply qa3 | apply qh1 | apply qh2); intro K hk; simp only [go_sem, Nat.reduceEqDiff, Nat.reduceAdd, Nat.reduceLeDiff, Nat.reduceLT, Nat.reduceSub, Int.reduceToNat, ↓reduceIte, reduceCtorEq, hp]; (repeat (refine And.intro ?_ ?_; focus (first | omega | assumption | with_reducible rfl | (simp only [go_sem, Nat.reduceEqDiff, Nat.reduceAdd, Nat.reduceLeDiff, Nat.reduceLT, Nat.reduceSub, Int.reduceToNat, ↓reduceIte, reduceCtorEq, hp]; done)))); intros; apply hk; clear hk K) | ((first | apply qg1 rfl | apply qcd); focus (simp only [go_sem, Nat.reduceEqDiff, Nat.reduceAdd, Nat.reduceLeDiff, Nat.reduceLT, Nat.reduceSub, Int.reduceToNat, ↓reduceIte, reduceCtorEq, hp]; exact rfl)) | (refine qj6 ?_ ?_ <;> intro hc <;> (try simp only [hc]) <;> (try simp only [decide_eq_true_eq, decide_eq_false_iff_not, Bool.not_eq_true', Bool.not_eq_false', Bool.not_eq_true, reduceCtorEq] at hc) <;> (try (exfalso; omega))) | (refine qt7 ?_ ?_; focus decide) | (refine qw7 ?_ ?_ ?_; (focus (decide +kernel)); (focus (decide +kernel))))
    all_goals
      ((first | refine fin_ret ?_ | refine fin_end ?_); simp only [go_sem, ↓upd_def, Nat.reduceEqDiff, Nat.reduceAdd, ↓reduceIte, reduceCtorEq])
      refine K_str hK ?_
      clear hK
      unfold ttM
      simp [*]
  · have hp1 : partsB xs = false := Bool.eq_false_iff.2 hp
    repeat' (first | apply qw8 | apply qw1 | apply qw6 | apply qt1 | apply qw5 | apply qw2 | apply qw9 | apply qt2 | apply qt3 | apply qt4 | apply qt5 | apply qt6 | apply qw3 | apply qw4 | apply qj1 | apply qj2 | apply qj3 | apply qj4 | apply qj5 | apply qu1 | apply qu2 | ((first | apply qa1 | apply qa2 | apply qa3 | apply qh1 | apply qh2); intro K hk; simp only [go_sem, Nat.reduceEqDiff, Nat.reduceAdd, Nat.reduceLeDiff, Nat.reduceLT, Nat.reduceSub, Int.reduceToNat, ↓reduceIte, reduceCtorEq, hp1]; (repeat (refine And.intro ?_ ?_; focus (first | omega | assumption | with_reducible rfl | (simp only [go_sem, Nat.reduceEqDiff, Nat.reduceAdd, Nat.reduceLeDiff, Nat.reduceLT, Nat.reduceSub, Int.reduceToNat, ↓reduceIte, reduceCtorEq, hp1]; done)))); intros; apply hk; clear hk K) | ((first | apply qg1 rfl | apply qcd); focus (simp only [go_sem, Nat.reduceEqDiff, Nat.reduceAdd, Nat.reduceLeDiff, Nat.reduceLT, Nat.reduceSub, Int.reduceToNat, ↓reduceIte, reduceCtorEq, hp1]; exact rfl)) | (refine qj6 ?_ ?_ <;> intro hc <;> (try simp only [hc]) <;> (try simp only [decide_eq_true_eq, decide_eq_false_iff_not, Bool.not_eq_true', Bool.not_eq_false', Bool.not_eq_true, reduceCtorEq] at hc) <;> (try (exfalso; omega))) | (refine qt7 ?_ ?_; focus decide) | (refine qw7 ?_ ?_ ?_; (focus (decide +kernel)); (focus (decide +kernel))))
    all_goals
      ((first | refine fin_ret ?_ | refine fin_end ?_); simp only [go_sem, ↓upd_def, Nat.reduceEqDiff, Nat.reduceAdd, ↓reduceIte, reduceCtorEq])
      refine K_str hK ?_
      clear hK
      unfold ttM
      simp [*]
end Go.Proofs.Ytoocbpendccngaa
