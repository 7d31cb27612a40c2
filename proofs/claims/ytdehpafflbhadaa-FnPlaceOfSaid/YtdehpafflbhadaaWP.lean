/- Places: PlaceOf. -/
import Derived.Test.YtdehpafflbhadaaWS
import Derived.Lib.Strings
namespace Go.Proofs.Ytdehpafflbhadaa
set_option maxRecDepth 100000
set_option linter.unusedVariables false
set_option linter.unusedSimpArgs false
open Go.RowKit

set_option maxHeartbeats 400000 in
theorem hasPrefix_any (s p : ByteArray) (hs : s.size ≤ maxLen) (hp : p.size ≤ maxLen) (w : World) :
    Calls Try.prog 63 #[.string s, .string p] w fun e w' => e = .returned (.bool (Lib.hasPrefix s.data.toList p.data.toList)) ∧ w = w' := by
  rw [← Lib.hasPrefix_raw]
  unfold maxLen at hs hp
  by_cases h : p.size ≤ s.size
  · go_enter Try.func63, Try.ntmps63
    go_wp2
    all_goals go_ret
    all_goals exact ⟨by simp_all, rfl⟩
  · go_enter Try.func63, Try.ntmps63
    go_wp2
    all_goals go_ret
    all_goals exact ⟨by simp_all <;> omega, rfl⟩

def placeB (m : Int) (tag attr : List UInt8) (seen : Bool) : Int :=
  if stOk m tag attr seen = false then 0 else if m = 0 then 1 else if m = 12 then 5 else
  if m = 6 ∨ m = 7 then (if Lib.hasPrefix attr [111, 110] = true ∨ attr = [115, 116, 121, 108, 101] then 0 else if addrB attr = false then 2 else if seen = true then 4 else 3) else 0

theorem placeB_bad {m : Int} {tag attr : List UInt8} {seen : Bool} (h : stOk m tag attr seen = false) : placeB m tag attr seen = 0 := by
  unfold placeB; rw [if_pos h]

theorem stOk_in {m : Int} {tag attr : List UInt8} {seen : Bool} (h : stOk m tag attr seen = true) : 0 ≤ m ∧ m ≤ 15 := by
  by_cases h' : m < 0 ∨ 15 < m
  · rw [stOk_out _ _ _ h'] at h; cases h
  · omega

set_option maxHeartbeats 4000000 in
theorem placeOf_i (m : Int) (tag attr : ByteArray) (seen : Bool) (ht : tag.size ≤ maxLen) (ha : attr.size ≤ maxLen) (w : World) :
    Calls Try.prog 32 #[.agg #[.int .i64 m, .string tag, .string attr, .bool seen]] w fun e w' => e = .returned (.int .i64 (placeB m tag.data.toList attr.data.toList seen)) ∧ Below w.heap.size w w' := by
  have HT := Lib.hid ht
  have HA := Lib.hid ha
  clear ht ha
  have HP : Hid ((ByteArray.mk #[111, 110]).size ≤ maxLen) := Lib.hid (by decide)
  cases hv : stOk m tag.data.toList attr.data.toList seen with
  | false =>
    rw [placeB_bad hv]
    go_enter Try.func32, Try.ntmps32
    go_wp2_with fail
    refine (stateValid_i m tag attr seen HT.out HA.out _).mono ?_
    rintro e w1 ⟨rfl, hb⟩
    have HB := Lib.hid ((((Below.refl w.heap.size w).alloc (Nat.le_refl _) _)).trans (hb.mono (by simp)))
    clear hb
    go_wp2_with fail
    go_ret
    exact ⟨rfl, HB.out⟩
  | true =>
    obtain ⟨h0, h1⟩ := stOk_in hv
    rcases mode_cases h0 h1 with rfl | rfl | rfl | rfl | rfl | rfl | rfl | rfl | rfl | rfl | rfl | rfl | rfl | rfl | rfl | rfl
    all_goals
      clear h0 h1
      have HV := Lib.hid hv
      go_enter Try.func32, Try.ntmps32
      go_wp2_with fail
      refine (stateValid_i _ tag attr seen HT.out HA.out _).mono ?_
      rintro e w1 ⟨rfl, hb⟩
      have hcell : ∀ j v, #[Value.int .i64 _, .string tag, .string attr, .bool seen][j]? = some v → w1.cell? ⟨w.heap.size, j, none⟩ = some v := fun j v hj => by
        rw [hb.cell (p := ⟨w.heap.size, j, none⟩) (by simp)]
        exact (World.cell?_alloc_mark _ _ _ _ _).trans hj
      have c0 := hcell 0 _ rfl
      have c1 := hcell 1 _ rfl
      have c2 := hcell 2 _ rfl
      have c3 := hcell 3 _ rfl
      have HB := Lib.hid ((((Below.refl w.heap.size w).alloc (Nat.le_refl _) _)).trans (hb.mono (by simp)))
      clear hb hcell
      go_wp2_with (first | (go_at_call 63; refine (hasPrefix_any _ _ HA.out HP.out _).mono ?_; rintro e w' ⟨rfl, rfl⟩) | (go_at_call 64; refine (addressName_i _ _).mono ?_; rintro e w' ⟨rfl, rfl⟩))
    all_goals go_ret
    all_goals refine ⟨?_, HB.out⟩
    all_goals
      have hv' := HV.out
      simp only [toList_data] at *
      generalize tag.data.toList = T at *
      generalize attr.data.toList = A at *
      simp_all [placeB]
set_option maxHeartbeats 4000000 in
theorem placeOf_s (m : Int) (tag attr : ByteArray) (seen : Bool) (ht : tag.size ≤ maxLen) (ha : attr.size ≤ maxLen) (w : World) :
    Calls Try.prog 30 #[.agg #[.int .i64 m, .string tag, .string attr, .bool seen]] w fun e w' => e = .returned (.int .i64 (placeB m tag.data.toList attr.data.toList seen)) ∧ Below w.heap.size w w' := by
  have HT := Lib.hid ht
  have HA := Lib.hid ha
  clear ht ha
  have HM := HA.out
  unfold maxLen at HM
  have hsz : (attr.size < 2 ∧ Hid (false = Lib.hasPrefix attr.data.toList [111, 110])) ∨ (2 ≤ attr.size ∧ Hid (((attr.extract 0 2).toList == [111, 110]) = Lib.hasPrefix attr.data.toList [111, 110])) := by
    have h := Lib.hasPrefix_raw attr ⟨#[111, 110]⟩
    have e1 : (ByteArray.mk #[111, 110]).size = 2 := rfl
    have e2 : (ByteArray.mk #[111, 110]).data.toList = [111, 110] := rfl
    rw [toList_data ⟨#[111, 110]⟩, e1, e2] at h
    rcases Nat.lt_or_ge attr.size 2 with hl | hl
    · rw [decide_eq_false (by omega), Bool.false_and] at h
      exact .inl ⟨hl, Lib.hid h⟩
    · rw [decide_eq_true hl, Bool.true_and] at h
      exact .inr ⟨hl, Lib.hid h⟩
  cases hv : stOk m tag.data.toList attr.data.toList seen with
  | false =>
    rw [placeB_bad hv]
    go_enter Try.func30, Try.ntmps30
    go_wp2_with fail
    refine (stateValid_s m tag attr seen HT.out HA.out _).mono ?_
    rintro e w1 ⟨rfl, hb⟩
    have HB := Lib.hid ((((Below.refl w.heap.size w).alloc (Nat.le_refl _) _)).trans (hb.mono (by simp)))
    clear hb
    go_wp2_with fail
    go_ret
    exact ⟨rfl, HB.out⟩
  | true =>
    obtain ⟨h0, h1⟩ := stOk_in hv
    rcases hsz with ⟨hsz, HPR⟩ | ⟨hsz, HPR⟩
    all_goals
     rcases mode_cases h0 h1 with rfl | rfl | rfl | rfl | rfl | rfl | rfl | rfl | rfl | rfl | rfl | rfl | rfl | rfl | rfl | rfl
    all_goals
      clear h0 h1
      have HV := Lib.hid hv
      go_enter Try.func30, Try.ntmps30
      go_wp2_with fail
      refine (stateValid_s _ tag attr seen HT.out HA.out _).mono ?_
      rintro e w1 ⟨rfl, hb⟩
      have hcell : ∀ j v, #[Value.int .i64 _, .string tag, .string attr, .bool seen][j]? = some v → w1.cell? ⟨w.heap.size, j, none⟩ = some v := fun j v hj => by
        rw [hb.cell (p := ⟨w.heap.size, j, none⟩) (by simp)]
        exact (World.cell?_alloc_mark _ _ _ _ _).trans hj
      have c0 := hcell 0 _ rfl
      have c1 := hcell 1 _ rfl
      have c2 := hcell 2 _ rfl
      have c3 := hcell 3 _ rfl
      have HB := Lib.hid ((((Below.refl w.heap.size w).alloc (Nat.le_refl _) _)).trans (hb.mono (by simp)))
      clear hb hcell
      go_wp2_with (first | (go_at_call 62; refine (addressName_s _ _).mono ?_; rintro e w' ⟨rfl, rfl⟩))
    all_goals go_ret
    all_goals refine ⟨?_, HB.out⟩
    all_goals
      have hv' := HV.out
      have hpr := HPR.out
      simp only [toList_data] at *
      try generalize (attr.extract 0 2).data.toList = X at *
      generalize tag.data.toList = T at *
      generalize attr.data.toList = A at *
      simp_all [placeB]
end Go.Proofs.Ytdehpafflbhadaa
