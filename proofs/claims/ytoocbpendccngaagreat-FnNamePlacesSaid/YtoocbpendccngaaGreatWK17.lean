/- Rows of numbers; holes with their states, by places; their weights. Plain. -/
import Derived.Test.YtoocbpendccngaaGreatWK3
import Derived.Test.YtoocbpendccngaaGreatWFL

namespace Go.Proofs.YtoocbpendccngaaGreat
set_option maxRecDepth 100000
set_option linter.unusedVariables false
set_option linter.unusedSimpArgs false
open Go.RowKit
def ints (l : List Int) : List (List PV) := l.map fun k => [.int .i64 k]
theorem ints_length (l : List Int) : (ints l).length = l.length := by simp [ints]
theorem ints_get (l : List Int) (k : Nat) : (ints l)[k]? = (l[k]?).map fun k => [.int .i64 k] := by simp [ints]
theorem ints_append (a b : List Int) : ints (a ++ b) = ints a ++ ints b := by simp [ints]
theorem ints_one (k : Int) : ints [k] = [[.int .i64 k]] := rfl
theorem ints_cell (l : List Int) : ∀ e ∈ ints l, e.length = 1 := by
  intro e he
  simp only [ints, List.mem_map] at he
  obtain ⟨k, _, rfl⟩ := he
  rfl
theorem ints_all (l : List Int) : (∀ e ∈ ints l, e.length = 1) = True := eq_true (ints_cell l)
theorem ints_plain (l : List Int) : (ints l).all (·.all plainU) = true := by simp [ints, plainU]
theorem ints_inj : ∀ {a b : List Int}, ints a = ints b → a = b
  | [], [], _ => rfl
  | [], _ :: _, h => by simp [ints] at h
  | _ :: _, [], h => by simp [ints] at h
  | x :: xs, y :: ys, h => by
    unfold ints at h
    rw [List.map_cons, List.map_cons, List.cons.injEq] at h
    have h1 : x = y := by simpa using h.1
    rw [h1, ints_inj h.2]
theorem ints_iff {a b : List Int} : ints a = ints b ↔ a = b := ⟨ints_inj, fun h => h ▸ rfl⟩
mutual
theorem stV_wkP : ∀ (x : PartD) (s : St), stV s = true → stV (wkP s x).2 = true
  | .mk k t n ps os, s, h => by
    have h1 := stV_wkL ps s h
    rw [wkP_mk]
    split
    · exact stV_afterS s t
    split
    · exact stV_behind s
    split
    · exact h1
    split
    · exact h
    · exact h
theorem stV_wkL : ∀ (xs : List PartD) (s : St), stV s = true → stV (wkL s xs).2 = true
  | [], s, h => by rw [wkL_nil]; exact h
  | x :: xs, s, h => by rw [wkL_cons]; exact stV_wkL xs _ (stV_wkP x s h)
end
mutual
theorem wk_leP : ∀ (x : PartD) (s : St), (wkP s x).1.length ≤ hlP x
  | .mk k t n ps os, s => by
    have h1 := wk_leL ps s
    have h2 := wk_leL os s
    rw [wkP_mk, hlP_mk]
    split
    · simp
    split
    · simp; omega
    split
    · simp only [List.length_append]; omega
    split
    · simp only; omega
    · simp
theorem wk_leL : ∀ (xs : List PartD) (s : St), (wkL s xs).1.length ≤ hlL xs
  | [], s => by rw [wkL_nil, hlL_nil]; simp
  | x :: xs, s => by
    have h1 := wk_leP x s
    have h2 := wk_leL xs (wkP s x).2
    rw [wkL_cons, hlL_cons]
    simp only [List.length_append]; omega
end
theorem wk_wt (xs : List PartD) (s : St) : (wkL s xs).1.length ≤ wtL xs := Nat.le_trans (wk_leL xs s) (hlL_le xs)
theorem wk_pre (s : St) (xs : List PartD) (k : Nat) : (wkL s (xs.take k)).1.length ≤ (wkL s xs).1.length := by
  have e : wkL s xs = wkL s (xs.take k ++ xs.drop k) := by rw [List.take_append_drop]
  rw [e, wkL_append]
  simp only [List.length_append]; omega
theorem wtL_take (xs : List PartD) (k : Nat) : wtL (xs.take k) ≤ wtL xs := by
  have := wtL_append (xs.take k) (xs.drop k)
  rw [List.take_append_drop] at this; omega
/-- The places of holes. -/
def plcs (l : List (Bs × St)) : List Int := l.map fun h => placeM h.2
theorem plcs_append (a b : List (Bs × St)) : plcs (a ++ b) = plcs a ++ plcs b := by simp [plcs]
theorem plcs_len (l : List (Bs × St)) : (plcs l).length = l.length := by simp [plcs]
theorem plcN_append (n : Bs) (a b : List (Bs × St)) : plcN n (a ++ b) = plcN n a ++ plcN n b := by simp [plcN]
theorem plcN_len (n : Bs) (l : List (Bs × St)) : (plcN n l).length ≤ l.length := by
  have := (plcN_sub n l).length_le
  simpa using this
theorem plcN_one (n m : Bs) (s : St) : plcN n [(m, s)] = if m = n then [placeM s] else [] := by
  unfold plcN
  by_cases h : m = n <;> simp [h]
theorem gd_none {d : Nat} {k : Int} {t n : Bs} {ps os : List PartD} (h : gdP d (.mk k t n ps os) = true) (hk : ¬ (k = 3 ∨ k = 4)) : (k = 1 ∨ k = 2) ∧ ps = [] ∧ os = [] := by
  rw [gdP_mk] at h
  by_cases k1 : k = 1
  · rw [if_pos k1] at h
    simp only [Bool.and_eq_true, decide_eq_true_eq] at h
    obtain ⟨⟨_, rfl⟩, rfl⟩ := h
    exact ⟨.inl k1, rfl, rfl⟩
  rw [if_neg k1] at h
  by_cases k2 : k = 2
  · rw [if_pos k2] at h
    simp only [Bool.and_eq_true, decide_eq_true_eq] at h
    obtain ⟨⟨_, rfl⟩, rfl⟩ := h
    exact ⟨.inr k2, rfl, rfl⟩
  rw [if_neg k2, if_neg hk] at h
  cases h
theorem gd_each {d : Nat} {k : Int} {t n : Bs} {ps os : List PartD} (h : gdP d (.mk k t n ps os) = true) (hk : k = 4) : os = [] := by
  rw [gdP_mk, if_neg (by omega), if_neg (by omega), if_pos (by omega)] at h
  simp only [Bool.and_eq_true] at h
  have := h.1.1.1.2
  simpa [hk] using this
theorem gd_sub {d : Nat} {k : Int} {t n : Bs} {ps os : List PartD} (h : gdP d (.mk k t n ps os) = true) : (∃ d b, gdL d b ps = true) ∧ ∃ d b, gdL d b os = true := by
  by_cases hk : k = 3 ∨ k = 4
  · rw [gdP_mk, if_neg (by omega), if_neg (by omega), if_pos hk] at h
    simp only [Bool.and_eq_true] at h
    exact ⟨⟨_, _, h.1.2⟩, ⟨_, _, h.2⟩⟩
  · obtain ⟨_, rfl, rfl⟩ := gd_none h hk
    exact ⟨⟨0, false, gdL_nil _ _⟩, ⟨0, false, gdL_nil _ _⟩⟩
theorem gd_at {d : Nat} {x : PartD} : ∀ {xs : List PartD} {b : Bool} {k : Nat}, gdL d b xs = true → xs[k]? = some x → gdP d x = true
  | [], _, _, _, h => by simp at h
  | y :: ys, b, 0, hg, h => by
    obtain rfl : y = x := by simpa using h
    rw [gdL] at hg
    simp only [Bool.and_eq_true] at hg
    exact hg.1.1
  | y :: ys, b, k + 1, hg, h => by
    rw [gdL] at hg
    simp only [Bool.and_eq_true] at hg
    exact gd_at hg.2 (by simpa using h)
theorem wk_parts {d : Nat} {s : St} {k : Int} {t n : Bs} {ps os : List PartD} (h : gdP d (.mk k t n ps os) = true) : (wkP s (.mk k t n ps os)).1 = (if k = 2 then [(n, s)] else []) ++ ((wkL s ps).1 ++ (wkL s os).1) := by
  rw [wkP_mk]
  by_cases hk : k = 3 ∨ k = 4
  · rw [if_neg (by omega), if_neg (by omega), if_neg (show ¬ k = 2 by omega)]
    by_cases k4 : k = 4
    · rw [if_neg (by omega), if_pos k4, gd_each h k4, wkL_nil]; simp
    · rw [if_pos (by omega)]; simp
  · obtain ⟨h12, rfl, rfl⟩ := gd_none h hk
    rw [wkL_nil]
    rcases h12 with h1 | h1
    · rw [if_pos h1, if_neg (by omega)]; simp
    · rw [if_neg (by omega), if_pos h1, if_pos h1]; simp
theorem kids_ok {d : Nat} {s : St} {k : Int} {t n : Bs} {ps os : List PartD} (h : gdP d (.mk k t n ps os) = true) (hs : s.mode ≠ 15) (hm : (chkP s (.mk k t n ps os)).mode ≠ 15) : (chkL s ps).mode ≠ 15 ∧ (chkL s os).mode ≠ 15 := by
  by_cases hk : k = 3 ∨ k = 4
  · obtain ⟨h1, h2, h3⟩ := kids_chk hm hk
    refine ⟨h1, ?_⟩
    by_cases k4 : k = 4
    · rw [gd_each h k4, chkL_nil]; exact hs
    · rw [h2 (by omega)]; exact h1
  · obtain ⟨_, rfl, rfl⟩ := gd_none h hk
    rw [chkL_nil]; exact ⟨hs, hs⟩
/-- One more part of a list that leads to no bad state. -/
theorem chk_at {s : St} {xs : List PartD} {k : Nat} {x : PartD} {d : Nat} {b : Bool} (hv : stV s = true) (hg : gdL d b xs = true) (hm : (chkL s xs).mode ≠ 15) (hx : xs[k]? = some x) :
    gdP d x = true ∧ (chkL s (xs.take k)).mode ≠ 15 ∧ (chkP (chkL s (xs.take k)) x).mode ≠ 15 ∧ (wkL s (xs.take k)).2 = chkL s (xs.take k) ∧ chkL s (xs.take (k + 1)) = chkP (chkL s (xs.take k)) x ∧ chkL (chkL s (xs.take k)) [x] = chkP (chkL s (xs.take k)) x := by
  have h0 := chk_take hv hm 0
  rw [List.take_zero, chkL_nil] at h0
  have h1 := chk_take hv hm k
  have h2 := chk_take hv hm (k + 1)
  have hsn := chkL_snoc hx h0 h1
  have h3 : (chkP (chkL s (xs.take k)) x).mode ≠ 15 := by
    intro h
    rw [hsn, if_pos h] at h2
    exact h2 rfl
  refine ⟨gd_at hg hx, h1, h3, wk_chkL _ d s b (gdL_take hg k) h1, by rw [hsn, if_neg h3], ?_⟩
  rw [chkL_cons, if_neg h3, chkL_nil]
end Go.Proofs.YtoocbpendccngaaGreat
