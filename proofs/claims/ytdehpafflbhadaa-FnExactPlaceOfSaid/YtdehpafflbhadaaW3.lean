/- The laws on places and states behind holes. -/
import Derived.Test.YtdehpafflbhadaaWB
namespace Go.Proofs.Ytdehpafflbhadaa
open Go.RowKit

set_option maxHeartbeats 4000000 in
theorem FnExactPlaceOf_walk (m : Int) (tag attr : ByteArray) (seen : Bool) (w : World) (ht : tag.size ≤ maxLen) (ha : attr.size ≤ maxLen) :
    Calls Try.prog 5 #[.agg #[.int .i64 m, .string tag, .string attr, .bool seen]] w fun e w' => e = .returned (.bool true) ∧ Below w.heap.size w w' := by
  have HT := Lib.hid ht
  have HA := Lib.hid ha
  clear ht ha
  go_enter Try.func5, Try.ntmps5
  go_wp2_with fail
  refine (szState_any m tag attr seen HT.out HA.out _).mono ?_
  rintro e w1 ⟨⟨r, rfl⟩, hb⟩
  have HB := Lib.hid (below_call ((Below.refl w.heap.size w).alloc (Nat.le_refl _) _) hb (by first | omega | (simp; done) | (simp; omega)))
  have hbs := hb.size
  have B0 := (Blk.new w 40 #[.int .i64 m, .string tag, .string attr, .bool seen] rfl).below hb (by first | omega | (simp; done) | (simp; omega))
  have C0 := B0.c4
  have H0 := Lib.hid B0
  clear hb B0
  simp at hbs
  by_cases hr : r < 0
  · go_wp2_with fail
    go_ret
    exact ⟨rfl, HB.out⟩
  go_wp2_with fail
  refine (toState_any m tag attr seen _).mono ?_
  rintro e w2 ⟨rfl, hb⟩
  have HB2 := Lib.hid (below_call HB.out hb (by first | omega | (simp; done) | (simp; omega)))
  have hbs2 := hb.size
  have H02 := Lib.hid (H0.out.below hb (by first | omega | (simp; done) | (simp; omega)))
  clear hb HB C0 H0
  go_wp2_with fail
  refine (placeOf_s m tag attr seen HT.out HA.out _).mono ?_
  rintro e w3 ⟨rfl, hb⟩
  have HB3 := Lib.hid (below_call HB2.out hb (by first | omega | (simp; done) | (simp; omega)))
  have hbs3 := hb.size
  have C0 := (H02.out.below hb (by first | omega | (simp; done) | (simp; omega))).c4
  clear hb HB2 H02
  go_wp2_with fail
  refine (toState_any m tag attr seen _).mono ?_
  rintro e w4 ⟨rfl, hb⟩
  have HB4 := Lib.hid (below_call HB3.out hb (by first | omega | (simp; done) | (simp; omega)))
  have hbs4 := hb.size
  clear hb HB3 C0
  go_wp2_with fail
  refine (placeOf_i m tag attr seen HT.out HA.out _).mono ?_
  rintro e w5 ⟨rfl, hb⟩
  have HB5 := Lib.hid (below_call HB4.out hb (by first | omega | (simp; done) | (simp; omega)))
  clear hb HB4
  go_wp2_with fail
  go_ret
  exact ⟨rfl, HB5.out⟩

set_option maxHeartbeats 4000000 in
theorem FnExactStateBehind_walk (m : Int) (tag attr : ByteArray) (seen : Bool) (w : World) (ht : tag.size ≤ maxLen) (ha : attr.size ≤ maxLen) :
    Calls Try.prog 6 #[.agg #[.int .i64 m, .string tag, .string attr, .bool seen]] w fun e w' => e = .returned (.bool true) ∧ Below w.heap.size w w' := by
  have HT := Lib.hid ht
  have HA := Lib.hid ha
  clear ht ha
  by_cases hp : placeB m tag.data.toList attr.data.toList seen = 0
  all_goals
    have HP := Lib.hid hp
    clear hp
    go_enter Try.func6, Try.ntmps6
    go_wp2_with fail
    refine (szState_any m tag attr seen HT.out HA.out _).mono ?_
    rintro e w1 ⟨⟨r, rfl⟩, hb⟩
    have HB := Lib.hid (below_call ((Below.refl w.heap.size w).alloc (Nat.le_refl _) _) hb (by first | omega | (simp; done) | (simp; omega)))
    have hbs := hb.size
    have B0 := (Blk.new w 40 #[.int .i64 m, .string tag, .string attr, .bool seen] rfl).below hb (by first | omega | (simp; done) | (simp; omega))
    have C0 := B0.c4
    have H0 := Lib.hid B0
    clear hb B0
    simp at hbs
    by_cases hr : r < 0
    · go_wp2_with fail
      go_ret
      exact ⟨rfl, HB.out⟩
    go_wp2_with fail
    refine (toState_any m tag attr seen _).mono ?_
    rintro e w2 ⟨rfl, hb⟩
    have HB2 := Lib.hid (below_call HB.out hb (by first | omega | (simp; done) | (simp; omega)))
    have hbs2 := hb.size
    have H02 := Lib.hid (H0.out.below hb (by first | omega | (simp; done) | (simp; omega)))
    clear hb HB C0 H0
    go_wp2_with fail
    first | refine (behind_none_s m tag attr seen HT.out HA.out HP.out _).mono ?_ | refine (behind_some_s m tag attr seen HT.out HA.out HP.out _).mono ?_
    rintro e w3 ⟨rfl, hb⟩
    have HB3 := Lib.hid (below_call HB2.out hb (by first | omega | (simp; done) | (simp; omega)))
    have hbs3 := hb.size
    have H03 := Lib.hid (H02.out.below hb (by first | omega | (simp; done) | (simp; omega)))
    have C0 := H03.out.c4
    have hl3 : w.heap.size < w3.heap.size := by omega
    clear hb HB2 H02
    go_wp2_with fail
    refine (toState_any m tag attr seen _).mono ?_
    rintro e w4 ⟨rfl, hb⟩
    have hbx : Below w.heap.size w w4 := by
      refine below_call ?_ hb (by first | omega | (simp; done) | (simp; omega))
      repeat (first | exact HB3.out | refine Below.setCell ?_ (by first | omega | (simp; done) | (simp; omega)) _ | refine Below.alloc ?_ (by first | omega | (simp; done) | (simp; omega)) _ | refine Below.drew ?_)
    have hbs4 := hb.size
    simp at hbs4
    first
    | have B1 := (Blk.new w3 43 #[.int .i64 m, .string tag, .string attr, .bool (seenB m seen)] rfl).below hb (by first | omega | (simp; done) | (simp; omega))
    | have B1 := (Blk.new w3 43 #[.int .i64 15, .string ⟨#[]⟩, .string ⟨#[]⟩, .bool false] rfl).below hb (by first | omega | (simp; done) | (simp; omega))
    have HBx := Lib.hid hbx
    have H1 := Lib.hid B1
    clear hb HB3 C0 hbx B1 H03
    go_wp2_with fail
    first | refine (behind_none_i m tag attr seen HT.out HA.out HP.out _).mono ?_ | refine (behind_some_i m tag attr seen HT.out HA.out HP.out _).mono ?_
    rintro e w5 ⟨rfl, hb⟩
    have HB5 := Lib.hid (below_call HBx.out hb (by first | omega | (simp; done) | (simp; omega)))
    have hbs5 := hb.size
    have C1 := (H1.out.below hb (by first | omega | (simp; done) | (simp; omega))).c4
    have hl5 : w3.heap.size < w5.heap.size := by omega
    clear hb HBx H1
    go_wp2_with fail
    refine (eqState_same _ _ _ _ _).mono ?_
    rintro e w6 ⟨rfl, hb⟩
    have hbx : Below w.heap.size w w6 := by
      refine below_call ?_ hb (by first | omega | (simp; done) | (simp; omega))
      repeat (first | exact HB5.out | refine Below.setCell ?_ (by first | omega | (simp; done) | (simp; omega)) _ | refine Below.alloc ?_ (by first | omega | (simp; done) | (simp; omega)) _ | refine Below.drew ?_)
    have HB6 := Lib.hid hbx
    clear hb hbx HB5
    go_wp2_with fail
    go_ret
    exact ⟨rfl, HB6.out⟩
end Go.Proofs.Ytdehpafflbhadaa
