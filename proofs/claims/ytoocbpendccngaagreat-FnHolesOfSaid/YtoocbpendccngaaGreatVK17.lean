/- Rows of numbers; holes with their states, by places; their weights. Plain. -/
import Derived.Test.YtoocbpendccngaaGreatVK3
import Derived.Test.YtoocbpendccngaaGreatVFL

namespace Go.Proofs.YtoocbpendccngaaGreat
set_option maxRecDepth 100000
set_option linter.unusedVariables false
set_option linter.unusedSimpArgs false
open Go.RowKit
theorem gd_none {d : Nat} {k : Int} {t n : Bs} {ps os : List PartD} (h : gdP d (.mk k t n ps os) = true) (hk : ¬ (k = 3 ∨ k = 4)) : (k = 1 ∨ k = 2) ∧ ps = [] ∧ os = [] := by
  rw [gdP_mk] at h
  by_cases k1 : k = 1
  · rw [if_pos k1] at h
    simp only [Bool.and_eq_true, decide_eq_true_eq] at h
    obtain ⟨⟨_, rfl⟩, rfl⟩ := h
    exact ⟨.inl k1, rfl, rfl⟩
  rw [if_neg k1] at h
  by_cases k2 : k = 2
  · rw [if_pos k2] at h
    simp only [Bool.and_eq_true, decide_eq_true_eq] at h
    obtain ⟨⟨_, rfl⟩, rfl⟩ := h
    exact ⟨.inr k2, rfl, rfl⟩
  rw [if_neg k2, if_neg hk] at h
  cases h
theorem gd_each {d : Nat} {k : Int} {t n : Bs} {ps os : List PartD} (h : gdP d (.mk k t n ps os) = true) (hk : k = 4) : os = [] := by
  rw [gdP_mk, if_neg (by omega), if_neg (by omega), if_pos (by omega)] at h
  simp only [Bool.and_eq_true] at h
  have := h.1.1.1.2
  simpa [hk] using this
theorem gd_at {d : Nat} {x : PartD} : ∀ {xs : List PartD} {b : Bool} {k : Nat}, gdL d b xs = true → xs[k]? = some x → gdP d x = true
  | [], _, _, _, h => by simp at h
  | y :: ys, b, 0, hg, h => by
    obtain rfl : y = x := by simpa using h
    rw [gdL] at hg
    simp only [Bool.and_eq_true] at hg
    exact hg.1.1
  | y :: ys, b, k + 1, hg, h => by
    rw [gdL] at hg
    simp only [Bool.and_eq_true] at hg
    exact gd_at hg.2 (by simpa using h)
theorem kids_ok {d : Nat} {s : St} {k : Int} {t n : Bs} {ps os : List PartD} (h : gdP d (.mk k t n ps os) = true) (hs : s.mode ≠ 15) (hm : (chkP s (.mk k t n ps os)).mode ≠ 15) : (chkL s ps).mode ≠ 15 ∧ (chkL s os).mode ≠ 15 := by
  by_cases hk : k = 3 ∨ k = 4
  · obtain ⟨h1, h2, h3⟩ := kids_chk hm hk
    refine ⟨h1, ?_⟩
    by_cases k4 : k = 4
    · rw [gd_each h k4, chkL_nil]; exact hs
    · rw [h2 (by omega)]; exact h1
  · obtain ⟨_, rfl, rfl⟩ := gd_none h hk
    rw [chkL_nil]; exact ⟨hs, hs⟩
/-- One more part of a list that leads to no bad state. -/
theorem chk_at {s : St} {xs : List PartD} {k : Nat} {x : PartD} {d : Nat} {b : Bool} (hv : stV s = true) (hg : gdL d b xs = true) (hm : (chkL s xs).mode ≠ 15) (hx : xs[k]? = some x) :
    gdP d x = true ∧ (chkL s (xs.take k)).mode ≠ 15 ∧ (chkP (chkL s (xs.take k)) x).mode ≠ 15 ∧ (wkL s (xs.take k)).2 = chkL s (xs.take k) ∧ chkL s (xs.take (k + 1)) = chkP (chkL s (xs.take k)) x ∧ chkL (chkL s (xs.take k)) [x] = chkP (chkL s (xs.take k)) x := by
  have h0 := chk_take hv hm 0
  rw [List.take_zero, chkL_nil] at h0
  have h1 := chk_take hv hm k
  have h2 := chk_take hv hm (k + 1)
  have hsn := chkL_snoc hx h0 h1
  have h3 : (chkP (chkL s (xs.take k)) x).mode ≠ 15 := by
    intro h
    rw [hsn, if_pos h] at h2
    exact h2 rfl
  refine ⟨gd_at hg hx, h1, h3, wk_chkL _ d s b (gdL_take hg k) h1, by rw [hsn, if_neg h3], ?_⟩
  rw [chkL_cons, if_neg h3, chkL_nil]
end Go.Proofs.YtoocbpendccngaaGreat
