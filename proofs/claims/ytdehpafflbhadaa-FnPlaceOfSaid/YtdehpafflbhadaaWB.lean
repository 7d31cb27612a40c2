/- StateBehind, and the laws' own copies of states. -/
import Derived.Test.YtdehpafflbhadaaWP
namespace Go.Proofs.Ytdehpafflbhadaa
set_option maxRecDepth 100000
set_option linter.unusedVariables false
set_option linter.unusedSimpArgs false
open Go.RowKit

/-- Something was seen behind a hole. -/
def seenB (m : Int) (seen : Bool) : Bool := if m = 6 ∨ m = 7 then true else seen
theorem seenB_t {m : Int} {seen : Bool} (h : m = 6 ∨ m = 7) : seenB m seen = true := by unfold seenB; rw [if_pos h]
theorem seenB_f {m : Int} {seen : Bool} (h : ¬ (m = 6 ∨ m = 7)) : seenB m seen = seen := by unfold seenB; rw [if_neg h]

set_option maxHeartbeats 4000000 in
theorem behind_none_i (m : Int) (tag attr : ByteArray) (seen : Bool) (ht : tag.size ≤ maxLen) (ha : attr.size ≤ maxLen) (hp : placeB m tag.data.toList attr.data.toList seen = 0) (w : World) :
    Calls Try.prog 34 #[.agg #[.int .i64 m, .string tag, .string attr, .bool seen]] w fun e w' => e = .returned (.agg #[.int .i64 15, .string ⟨#[]⟩, .string ⟨#[]⟩, .bool false]) ∧ Below w.heap.size w w' := by
  have HT := Lib.hid ht
  have HA := Lib.hid ha
  clear ht ha
  go_enter Try.func34, Try.ntmps34
  go_wp2_with fail
  refine (placeOf_i m tag attr seen HT.out HA.out _).mono ?_
  rintro e w1 ⟨rfl, hb⟩
  have HB := Lib.hid (below_call (((Below.refl w.heap.size w).alloc (Nat.le_refl _) _).alloc (by simp) _) hb (by simp; omega))
  have hbs := hb.size
  have B1 : Blk w1 (w.heap.size + 1) 43 #[.int .i64 0, .string ⟨#[]⟩, .string ⟨#[]⟩, .bool false] := (Blk.new _ _ _ (by simp)).below hb (by simp <;> omega)
  have C1 := B1.c4
  clear hb B1
  simp at hbs
  go_wp2_with fail
  refine bodyPost_ret (v := .agg #[.int .i64 15, .string ⟨#[]⟩, .string ⟨#[]⟩, .bool false]) (by simp [results, Try.results34, go_sem, C1]) rfl ⟨rfl, ?_⟩
  repeat (first | exact HB.out | refine Below.setCell ?_ (by simp <;> omega) _)

set_option maxHeartbeats 4000000 in
theorem behind_some_i (m : Int) (tag attr : ByteArray) (seen : Bool) (ht : tag.size ≤ maxLen) (ha : attr.size ≤ maxLen) (hp : ¬ placeB m tag.data.toList attr.data.toList seen = 0) (w : World) :
    Calls Try.prog 34 #[.agg #[.int .i64 m, .string tag, .string attr, .bool seen]] w fun e w' => e = .returned (.agg #[.int .i64 m, .string tag, .string attr, .bool (seenB m seen)]) ∧ Below w.heap.size w w' := by
  have HT := Lib.hid ht
  have HA := Lib.hid ha
  clear ht ha
  have hp' : (placeB m tag.data.toList attr.data.toList seen == 0) = false := by simp [hp]
  clear hp
  have hm : m = 6 ∨ m = 7 ∨ ((m == 6) = false ∧ (m == 7) = false ∧ ¬ (m = 6 ∨ m = 7)) := by
    by_cases h6 : m = 6
    · exact .inl h6
    by_cases h7 : m = 7
    · exact .inr (.inl h7)
    · exact .inr (.inr ⟨by simp [h6], by simp [h7], by omega⟩)
  rcases hm with rfl | rfl | ⟨hm6, hm7, hmn⟩
  all_goals
    first | rw [seenB_t (.inl rfl)] | rw [seenB_t (.inr rfl)] | (rw [seenB_f hmn]; clear hmn)
    go_enter Try.func34, Try.ntmps34
    go_wp2_with fail
    refine (placeOf_i _ tag attr seen HT.out HA.out _).mono ?_
    rintro e w1 ⟨rfl, hb⟩
    have HB := Lib.hid (below_call (((Below.refl w.heap.size w).alloc (Nat.le_refl _) _).alloc (by simp) _) hb (by simp; omega))
    have hbs := hb.size
    have C1 := ((Blk.new (w.alloc _) 43 #[.int .i64 0, .string ⟨#[]⟩, .string ⟨#[]⟩, .bool false] (g := w.heap.size + 1) (by simp)).below hb (by simp <;> omega)).c4
    have C0 := (((Blk.new w 43 #[.int .i64 _, .string tag, .string attr, .bool seen] rfl).alloc _).below hb (by simp <;> omega)).c4
    clear hb
    simp at hbs
    go_wp2_with fail
  · refine bodyPost_ret (v := .agg #[.int .i64 6, .string tag, .string attr, .bool true]) (by simp [results, Try.results34, go_sem, C1]) rfl ⟨rfl, ?_⟩
    repeat (first | exact HB.out | refine Below.setCell ?_ (by simp <;> omega) _)
  · refine bodyPost_ret (v := .agg #[.int .i64 7, .string tag, .string attr, .bool true]) (by simp [results, Try.results34, go_sem, C1]) rfl ⟨rfl, ?_⟩
    repeat (first | exact HB.out | refine Below.setCell ?_ (by simp <;> omega) _)
  · refine bodyPost_ret (v := .agg #[.int .i64 m, .string tag, .string attr, .bool seen]) (by simp [results, Try.results34, go_sem, C1]) rfl ⟨rfl, ?_⟩
    repeat (first | exact HB.out | refine Below.setCell ?_ (by simp <;> omega) _)

set_option maxHeartbeats 4000000 in
theorem l13Behind_any (m : Int) (tag attr : ByteArray) (seen : Bool) (w : World) :
    Calls Try.prog 65 #[.agg #[.int .i64 m, .string tag, .string attr, .bool seen]] w fun e w' => e = .returned (.agg #[.int .i64 m, .string tag, .string attr, .bool (seenB m seen)]) ∧ Below w.heap.size w w' := by
  have hm : m = 6 ∨ m = 7 ∨ ((m == 6) = false ∧ (m == 7) = false ∧ ¬ (m = 6 ∨ m = 7)) := by
    by_cases h6 : m = 6
    · exact .inl h6
    by_cases h7 : m = 7
    · exact .inr (.inl h7)
    · exact .inr (.inr ⟨by simp [h6], by simp [h7], by omega⟩)
  rcases hm with rfl | rfl | ⟨hm6, hm7, hmn⟩
  all_goals
    first | rw [seenB_t (.inl rfl)] | rw [seenB_t (.inr rfl)] | (rw [seenB_f hmn]; clear hmn)
    go_enter Try.func65, Try.ntmps65
    go_wp2_with fail
  · refine bodyPost_ret (v := .agg #[.int .i64 6, .string tag, .string attr, .bool true]) (by simp [results, Try.results65, go_sem]) rfl ⟨rfl, ?_⟩
    repeat (first | exact Below.refl _ _ | refine Below.setCell ?_ (by simp <;> omega) _ | refine Below.alloc ?_ (by simp <;> omega) _)
  · refine bodyPost_ret (v := .agg #[.int .i64 7, .string tag, .string attr, .bool true]) (by simp [results, Try.results65, go_sem]) rfl ⟨rfl, ?_⟩
    repeat (first | exact Below.refl _ _ | refine Below.setCell ?_ (by simp <;> omega) _ | refine Below.alloc ?_ (by simp <;> omega) _)
  · refine bodyPost_ret (v := .agg #[.int .i64 m, .string tag, .string attr, .bool seen]) (by simp [results, Try.results65, go_sem]) rfl ⟨rfl, ?_⟩
    repeat (first | exact Below.refl _ _ | refine Below.setCell ?_ (by simp <;> omega) _ | refine Below.alloc ?_ (by simp <;> omega) _)

set_option maxHeartbeats 4000000 in
theorem behind_some_s (m : Int) (tag attr : ByteArray) (seen : Bool) (ht : tag.size ≤ maxLen) (ha : attr.size ≤ maxLen) (hp : ¬ placeB m tag.data.toList attr.data.toList seen = 0) (w : World) :
    Calls Try.prog 33 #[.agg #[.int .i64 m, .string tag, .string attr, .bool seen]] w fun e w' => e = .returned (.agg #[.int .i64 m, .string tag, .string attr, .bool (seenB m seen)]) ∧ Below w.heap.size w w' := by
  have HT := Lib.hid ht
  have HA := Lib.hid ha
  clear ht ha
  have hp' : (placeB m tag.data.toList attr.data.toList seen == 0) = false := by simp [hp]
  clear hp
  go_enter Try.func33, Try.ntmps33
  go_wp2_with fail
  refine (placeOf_s _ tag attr seen HT.out HA.out _).mono ?_
  rintro e w1 ⟨rfl, hb⟩
  have HB := Lib.hid (below_call (((Below.refl w.heap.size w).alloc (Nat.le_refl _) _).alloc (by simp) _) hb (by simp; omega))
  have hbs := hb.size
  have B1 := (Blk.new (w.alloc _) 43 #[.int .i64 0, .string ⟨#[]⟩, .string ⟨#[]⟩, .bool false] (g := w.heap.size + 1) (by simp)).below hb (by simp <;> omega)
  have C0 := (((Blk.new w 43 #[.int .i64 _, .string tag, .string attr, .bool seen] rfl).alloc _).below hb (by simp <;> omega)).c4
  have HB1 := Lib.hid B1
  clear hb B1
  simp at hbs
  go_wp2_with fail
  refine (l13Behind_any m tag attr seen _).mono ?_
  rintro e w2 ⟨rfl, hb⟩
  have HB2 := Lib.hid (below_call HB.out hb (by omega))
  have hbs2 := hb.size
  have C1 := (HB1.out.below hb (by omega)).c4
  clear hb C0 HB HB1
  go_wp2_with fail
  refine bodyPost_ret (v := .agg #[.int .i64 m, .string tag, .string attr, .bool (seenB m seen)]) (by simp [results, Try.results33, go_sem, C1]) rfl ⟨rfl, ?_⟩
  repeat (first | exact HB2.out | refine Below.setCell ?_ (by simp <;> omega) _)

set_option maxHeartbeats 4000000 in
theorem eqState_same (m : Int) (tag attr : ByteArray) (seen : Bool) (w : World) :
    Calls Try.prog 35 #[.agg #[.int .i64 m, .string tag, .string attr, .bool seen], .agg #[.int .i64 m, .string tag, .string attr, .bool seen]] w fun e w' => e = .returned (.bool true) ∧ Below w.heap.size w w' := by
  go_enter Try.func35, Try.ntmps35
  go_wp2
  go_ret
  exact ⟨rfl, by repeat (first | exact Below.refl _ _ | refine Below.setCell ?_ (by simp <;> omega) _ | refine Below.alloc ?_ (by simp <;> omega) _)⟩

set_option maxHeartbeats 4000000 in
theorem toState_any (m : Int) (tag attr : ByteArray) (seen : Bool) (w : World) :
    Calls Try.prog 31 #[.agg #[.int .i64 m, .string tag, .string attr, .bool seen]] w fun e w' => e = .returned (.agg #[.int .i64 m, .string tag, .string attr, .bool seen]) ∧ Below w.heap.size w w' := by
  go_enter Try.func31, Try.ntmps31
  go_wp2
  refine bodyPost_ret (v := .agg #[.int .i64 m, .string tag, .string attr, .bool seen]) (by simp [results, Try.results31, go_sem]) rfl ⟨rfl, ?_⟩
  repeat (first | exact Below.refl _ _ | refine Below.setCell ?_ (by simp <;> omega) _ | refine Below.alloc ?_ (by simp <;> omega) _)

set_option maxHeartbeats 4000000 in
theorem szState_any (m : Int) (tag attr : ByteArray) (seen : Bool) (ht : tag.size ≤ maxLen) (ha : attr.size ≤ maxLen) (w : World) :
    Calls Try.prog 29 #[.agg #[.int .i64 m, .string tag, .string attr, .bool seen], .int .i64 1048576] w fun e w' => (∃ r : Int, e = .returned (.int .i64 r)) ∧ Below w.heap.size w w' := by
  unfold maxLen at ht ha
  by_cases h1 : tag.size ≤ 1048576
  · by_cases h2 : tag.size + attr.size ≤ 1048576
    all_goals
      go_enter Try.func29, Try.ntmps29
      go_wp2
      all_goals go_ret
      all_goals exact ⟨⟨_, rfl⟩, by repeat (first | exact Below.refl _ _ | refine Below.setCell ?_ (by simp <;> omega) _ | refine Below.alloc ?_ (by simp <;> omega) _)⟩
  · go_enter Try.func29, Try.ntmps29
    go_wp2
    all_goals go_ret
    all_goals exact ⟨⟨_, rfl⟩, by repeat (first | exact Below.refl _ _ | refine Below.setCell ?_ (by simp <;> omega) _ | refine Below.alloc ?_ (by simp <;> omega) _)⟩
set_option maxHeartbeats 4000000 in
theorem behind_none_s (m : Int) (tag attr : ByteArray) (seen : Bool) (ht : tag.size ≤ maxLen) (ha : attr.size ≤ maxLen) (hp : placeB m tag.data.toList attr.data.toList seen = 0) (w : World) :
    Calls Try.prog 33 #[.agg #[.int .i64 m, .string tag, .string attr, .bool seen]] w fun e w' => e = .returned (.agg #[.int .i64 15, .string ⟨#[]⟩, .string ⟨#[]⟩, .bool false]) ∧ Below w.heap.size w w' := by
  have HT := Lib.hid ht
  have HA := Lib.hid ha
  clear ht ha
  go_enter Try.func33, Try.ntmps33
  go_wp2_with fail
  refine (placeOf_s m tag attr seen HT.out HA.out _).mono ?_
  rintro e w1 ⟨rfl, hb⟩
  have HB := Lib.hid (below_call (((Below.refl w.heap.size w).alloc (Nat.le_refl _) _).alloc (by simp) _) hb (by simp; omega))
  have hbs := hb.size
  have B1 : Blk w1 (w.heap.size + 1) 43 #[.int .i64 0, .string ⟨#[]⟩, .string ⟨#[]⟩, .bool false] := (Blk.new _ _ _ (by simp)).below hb (by simp <;> omega)
  have C1 := B1.c4
  clear hb B1
  simp at hbs
  go_wp2_with fail
  refine bodyPost_ret (v := .agg #[.int .i64 15, .string ⟨#[]⟩, .string ⟨#[]⟩, .bool false]) (by simp [results, Try.results33, go_sem, C1]) rfl ⟨rfl, ?_⟩
  repeat (first | exact HB.out | refine Below.setCell ?_ (by simp <;> omega) _)
end Go.Proofs.Ytdehpafflbhadaa
