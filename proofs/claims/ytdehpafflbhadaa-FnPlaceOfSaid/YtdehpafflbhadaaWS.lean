/- States: StateValid. -/
import Derived.Test.YtdehpafflbhadaaW1
import Derived.Test.YtdehpafflbhadaaWN
import Derived.Lib.Hide
namespace Go.Proofs.Ytdehpafflbhadaa
set_option maxRecDepth 100000
set_option linter.unusedVariables false
set_option linter.unusedSimpArgs false
open Go.RowKit

def stOk (m : Int) (tag attr : List UInt8) (seen : Bool) : Bool :=
  decide (0 ≤ m) && decide (m ≤ 15) &&
  (if 2 ≤ m ∧ m ≤ 8 then nameB tag else if m = 9 then tag.isEmpty || nameB tag else tag.isEmpty) &&
  (if 4 ≤ m ∧ m ≤ 8 then nameB attr else attr.isEmpty) &&
  (if m = 6 ∨ m = 7 then true else if m = 8 then seen else !seen)

theorem stOk_out {m : Int} (tag attr : List UInt8) (seen : Bool) (h : m < 0 ∨ 15 < m) : stOk m tag attr seen = false := by
  unfold stOk
  have : (decide (0 ≤ m) && decide (m ≤ 15)) = false := by simp; omega
  rw [this]
  rfl

theorem mode_cases {m : Int} (h : 0 ≤ m) (h' : m ≤ 15) : m = 0 ∨ m = 1 ∨ m = 2 ∨ m = 3 ∨ m = 4 ∨ m = 5 ∨ m = 6 ∨ m = 7 ∨ m = 8 ∨ m = 9 ∨ m = 10 ∨ m = 11 ∨ m = 12 ∨ m = 13 ∨ m = 14 ∨ m = 15 := by omega

set_option maxHeartbeats 4000000 in
theorem stateValid_i (m : Int) (tag attr : ByteArray) (seen : Bool) (ht : tag.size ≤ maxLen) (ha : attr.size ≤ maxLen) (w : World) :
    Calls Try.prog 44 #[.agg #[.int .i64 m, .string tag, .string attr, .bool seen]] w fun e w' => e = .returned (.bool (stOk m tag.data.toList attr.data.toList seen)) ∧ Below w.heap.size w w' := by
  have HT := Lib.hid ht
  have HA := Lib.hid ha
  clear ht ha
  by_cases h0 : m < 0
  · rw [stOk_out _ _ _ (.inl h0)]
    go_enter Try.func44, Try.ntmps44
    go_wp2
    go_ret
    exact ⟨rfl, (Below.refl _ _).alloc (Nat.le_refl _) _⟩
  by_cases h1 : 15 < m
  · rw [stOk_out _ _ _ (.inr h1)]
    go_enter Try.func44, Try.ntmps44
    go_wp2
    go_ret
    exact ⟨rfl, (Below.refl _ _).alloc (Nat.le_refl _) _⟩
  rcases mode_cases (by omega : 0 ≤ m) (by omega) with rfl | rfl | rfl | rfl | rfl | rfl | rfl | rfl | rfl | rfl | rfl | rfl | rfl | rfl | rfl | rfl
  all_goals
    clear h0 h1
    go_enter Try.func44, Try.ntmps44
    go_wp2_with (go_at_call 73; refine (nameValid_i _ (by first | exact HT.out | exact HA.out) _).mono ?_; rintro e w' ⟨rfl, rfl⟩)
  all_goals go_ret
  all_goals refine ⟨?_, (Below.refl _ _).alloc (Nat.le_refl _) _⟩
  all_goals
    simp only [toList_data] at *
    generalize tag.data.toList = T at *
    generalize attr.data.toList = A at *
    simp_all [stOk]

set_option maxHeartbeats 4000000 in
theorem stateValid_s (m : Int) (tag attr : ByteArray) (seen : Bool) (ht : tag.size ≤ maxLen) (ha : attr.size ≤ maxLen) (w : World) :
    Calls Try.prog 61 #[.agg #[.int .i64 m, .string tag, .string attr, .bool seen]] w fun e w' => e = .returned (.bool (stOk m tag.data.toList attr.data.toList seen)) ∧ Below w.heap.size w w' := by
  have HT := Lib.hid ht
  have HA := Lib.hid ha
  clear ht ha
  have hm : m < 0 ∨ 15 < m ∨ (0 ≤ m ∧ m ≤ 15) := by omega
  rcases hm with h | h | ⟨h0, h1⟩
  · rw [stOk_out _ _ _ (.inl h)]
    have i1 : inB m 2 8 = false := inB_f (by omega)
    have i2 : inB m 4 8 = false := inB_f (by omega)
    have i3 : inB m 6 7 = false := inB_f (by omega)
    have i4 : inB m 0 15 = false := inB_f (by omega)
    have e1 : (m == 9) = false := by simp; omega
    have e2 : (m == 8) = false := by simp; omega
    go_enter Try.func61, Try.ntmps61
    go_wp2_with (go_at_call 90; refine (l1In_any _ _ _ _).mono ?_; rintro e w' ⟨rfl, rfl⟩)
    all_goals go_ret
    all_goals exact ⟨rfl, (Below.refl _ _).alloc (Nat.le_refl _) _⟩
  · rw [stOk_out _ _ _ (.inr h)]
    have i1 : inB m 2 8 = false := inB_f (by omega)
    have i2 : inB m 4 8 = false := inB_f (by omega)
    have i3 : inB m 6 7 = false := inB_f (by omega)
    have i4 : inB m 0 15 = false := inB_f (by omega)
    have e1 : (m == 9) = false := by simp; omega
    have e2 : (m == 8) = false := by simp; omega
    go_enter Try.func61, Try.ntmps61
    go_wp2_with (go_at_call 90; refine (l1In_any _ _ _ _).mono ?_; rintro e w' ⟨rfl, rfl⟩)
    all_goals go_ret
    all_goals exact ⟨rfl, (Below.refl _ _).alloc (Nat.le_refl _) _⟩
  obtain ⟨b1, i1, q1⟩ : ∃ b, inB m 2 8 = b ∧ b = (decide (2 ≤ m) && decide (m ≤ 8)) := ⟨_, rfl, rfl⟩
  obtain ⟨b2, i2, q2⟩ : ∃ b, inB m 4 8 = b ∧ b = (decide (4 ≤ m) && decide (m ≤ 8)) := ⟨_, rfl, rfl⟩
  obtain ⟨b3, i3, q3⟩ : ∃ b, inB m 6 7 = b ∧ b = (decide (6 ≤ m) && decide (m ≤ 7)) := ⟨_, rfl, rfl⟩
  have i4 : inB m 0 15 = true := inB_t h0 h1
  rcases mode_cases h0 h1 with rfl | rfl | rfl | rfl | rfl | rfl | rfl | rfl | rfl | rfl | rfl | rfl | rfl | rfl | rfl | rfl
  all_goals
    clear h0 h1
    simp at q1 q2 q3
    subst q1 q2 q3
    go_enter Try.func61, Try.ntmps61
    go_wp2_with (first | (go_at_call 90; refine (l1In_any _ _ _ _).mono ?_; rintro e w' ⟨rfl, rfl⟩) | (go_at_call 91; refine (nameValid_s _ (by first | exact HT.out | exact HA.out) _).mono ?_; rintro e w' ⟨rfl, rfl⟩))
  all_goals go_ret
  all_goals refine ⟨?_, (Below.refl _ _).alloc (Nat.le_refl _) _⟩
  all_goals
    simp only [toList_data] at *
    generalize tag.data.toList = T at *
    generalize attr.data.toList = A at *
    simp_all [stOk]
end Go.Proofs.Ytdehpafflbhadaa
