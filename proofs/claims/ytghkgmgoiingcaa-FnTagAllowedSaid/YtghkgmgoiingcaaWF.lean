/- FaultText. -/
import Derived.Test.YtghkgmgoiingcaaW1
namespace Go.Proofs.Ytghkgmgoiingcaa
open Go.RowKit

def faultS (n : Int) : List UInt8 :=
  if n = 0 then [110, 111, 110, 101] else if n = 1 then [109, 97, 114, 107, 117, 112] else if n = 2 then [112, 108, 97, 99, 101] else
  if n = 3 then [98, 114, 97, 110, 99, 104] else if n = 4 then [108, 111, 111, 112] else if n = 5 then [101, 110, 100] else []

set_option maxHeartbeats 1000000 in
theorem faultText_i (n : Int) (w : World) :
    Calls Try.prog 11 #[.int .i64 n] w fun e w' => e = .returned (.string ⟨(faultS n).toArray⟩) ∧ Below w.heap.size w w' := by
  have hn : n < 0 ∨ 6 ≤ n ∨ n = 0 ∨ n = 1 ∨ n = 2 ∨ n = 3 ∨ n = 4 ∨ n = 5 := by omega
  rcases hn with h | h | rfl | rfl | rfl | rfl | rfl | rfl
  all_goals
    go_enter Try.func11, Try.ntmps11
    go_wp2
    go_ret
    refine ⟨?_, (Below.refl _ _).alloc (Nat.le_refl _) _⟩
  · have e : faultS n = [] := by unfold faultS; repeat rw [if_neg (by omega)]
    rw [e]; rfl
  · have e : faultS n = [] := by unfold faultS; repeat rw [if_neg (by omega)]
    rw [e]; rfl
  all_goals simp [faultS]

set_option maxHeartbeats 1000000 in
theorem faultText_s (n : Int) (w : World) :
    Calls Try.prog 10 #[.int .i64 n] w fun e w' => e = .returned (.string ⟨(faultS n).toArray⟩) ∧ Below w.heap.size w w' := by
  have hn : n < 0 ∨ 6 ≤ n ∨ n = 0 ∨ n = 1 ∨ n = 2 ∨ n = 3 ∨ n = 4 ∨ n = 5 := by omega
  rcases hn with h | h | rfl | rfl | rfl | rfl | rfl | rfl
  all_goals
    have i0 : inB 0 0 5 = true := rfl
    have i1 : inB 1 0 5 = true := rfl
    have i2 : inB 2 0 5 = true := rfl
    have i3 : inB 3 0 5 = true := rfl
    have i4 : inB 4 0 5 = true := rfl
    have i5 : inB 5 0 5 = true := rfl
    try have hi : inB n 0 5 = false := inB_f (by omega)
    go_enter Try.func10, Try.ntmps10
    go_wp2_with (go_at_call 20; refine (l1In_any _ _ _ _).mono ?_; rintro e w' ⟨rfl, rfl⟩)
    go_ret
    first | refine ⟨?_, (Below.refl _ _).alloc (Nat.le_refl _) _⟩ | refine ⟨?_, (Below.refl _ _)⟩
  · have e : faultS n = [] := by unfold faultS; repeat rw [if_neg (by omega)]
    rw [e]; rfl
  · have e : faultS n = [] := by unfold faultS; repeat rw [if_neg (by omega)]
    rw [e]; rfl
  all_goals simp [faultS]


end Go.Proofs.Ytghkgmgoiingcaa
