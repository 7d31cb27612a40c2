/- The reference's step (WT3a). Printed by gen_step.py. -/
import Derived.Test.YtdehpafflbhadaaWT3
namespace Go.Proofs.Ytdehpafflbhadaa
set_option maxRecDepth 100000
set_option linter.unusedVariables false
set_option linter.unusedSimpArgs false
open Go.RowKit

set_option maxHeartbeats 8000000 in
theorem stepState_s_bad (m : Int) (tag attr : ByteArray) (seen : Bool) (b : UInt8) (ht : tag.size ≤ maxLen) (ha : attr.size ≤ maxLen) (hv : stOk m tag.data.toList attr.data.toList seen = false) (w : World) :
    Calls Try.prog 124 #[.agg #[.int .i64 m, .string tag, .string attr, .bool seen], .int .u8 (b.toNat : Int)] w fun e w' => e = .returned (stV (step m tag.data.toList attr.data.toList seen b)) ∧ Below w.heap.size w w' := by
  have HT := Lib.hid ht
  have HA := Lib.hid ha
  clear ht ha
  have ER : step m tag.data.toList attr.data.toList seen b = St.bad := by unfold step; rw [if_pos hv]
  rw [ER]; clear ER
  go_enter Try.func124, Try.ntmps124
  go_wp2_with fail
  refine (stateValid_s _ tag attr seen HT.out HA.out _).mono ?_
  rintro e w1 ⟨rfl, hb⟩
  have HB := Lib.hid (below_call ((((Below.refl w.heap.size w).alloc (Nat.le_refl _) _).alloc (by first | omega | (simp; done) | (simp; omega)) _).alloc (by first | omega | (simp; done) | (simp; omega)) _) hb (by first | omega | (simp; done) | (simp; omega)))
  have hbs := hb.size
  have C0 := ((((Blk.new w 43 #[.int .i64 m, .string tag, .string attr, .bool seen] rfl).alloc _).alloc _).below hb (by first | omega | (simp; done) | (simp; omega))).c4
  have B1 := (((Blk.new (w.alloc _) 43 #[.int .i64 0, .string ⟨#[]⟩, .string ⟨#[]⟩, .bool false] (g := w.heap.size + 1) (by simp)).alloc _).below hb (by first | omega | (simp; done) | (simp; omega)))
  have C2 := ((Blk.new ((w.alloc _).alloc _) 43 #[.int .i64 15, .string ⟨#[]⟩, .string ⟨#[]⟩, .bool false] (g := w.heap.size + 1 + 1) (by simp)).below hb (by first | omega | (simp; done) | (simp; omega))).c4
  have C1 := B1.c4
  have HB1 := Lib.hid B1
  clear hb B1
  simp at hbs
  go_wp2_with fail
  refine bodyPost_ret (v := .agg #[.int .i64 15, .string ⟨#[]⟩, .string ⟨#[]⟩, .bool false]) (by simp [results, Try.results124, go_sem, C1]) rfl ⟨by simp [stV, St.bad, ba_eta], ?_⟩
  repeat (first | exact HB.out | refine Below.setCell ?_ (by first | omega | (simp; done) | (simp; omega)) _ | refine Below.alloc ?_ (by first | omega | (simp; done) | (simp; omega)) _ | refine Below.drew ?_)


set_option maxHeartbeats 8000000 in
theorem stepState_s_0 (tag attr : ByteArray) (seen : Bool) (b : UInt8) (ht : tag.size ≤ maxLen) (ha : attr.size ≤ maxLen) (hv : stOk 0 tag.data.toList attr.data.toList seen = true) (w : World) :
    Calls Try.prog 124 #[.agg #[.int .i64 0, .string tag, .string attr, .bool seen], .int .u8 (b.toNat : Int)] w fun e w' => e = .returned (stV (step 0 tag.data.toList attr.data.toList seen b)) ∧ Below w.heap.size w w' := by
  have HT := Lib.hid ht
  have HA := Lib.hid ha
  clear ht ha
  by_cases h60 : b = 60
  · subst h60
    have q1 : nameN 60 = false := rfl
    have q2 : letN 60 = false := rfl
    have ER : step 0 tag.data.toList attr.data.toList seen (60 : UInt8) = ⟨1, [], [], false⟩ := by simp [step, hv, q1, q2]
    rw [ER]; clear ER
    go_enter Try.func124, Try.ntmps124
    go_wp2_with fail
    refine (stateValid_s _ tag attr seen HT.out HA.out _).mono ?_
    rintro e w1 ⟨rfl, hb⟩
    have HB := Lib.hid (below_call ((((Below.refl w.heap.size w).alloc (Nat.le_refl _) _).alloc (by first | omega | (simp; done) | (simp; omega)) _).alloc (by first | omega | (simp; done) | (simp; omega)) _) hb (by first | omega | (simp; done) | (simp; omega)))
    have hbs := hb.size
    have C0 := ((((Blk.new w 43 #[.int .i64 0, .string tag, .string attr, .bool seen] rfl).alloc _).alloc _).below hb (by first | omega | (simp; done) | (simp; omega))).c4
    have B1 := (((Blk.new (w.alloc _) 43 #[.int .i64 0, .string ⟨#[]⟩, .string ⟨#[]⟩, .bool false] (g := w.heap.size + 1) (by simp)).alloc _).below hb (by first | omega | (simp; done) | (simp; omega)))
    have C2 := ((Blk.new ((w.alloc _).alloc _) 43 #[.int .i64 15, .string ⟨#[]⟩, .string ⟨#[]⟩, .bool false] (g := w.heap.size + 1 + 1) (by simp)).below hb (by first | omega | (simp; done) | (simp; omega))).c4
    have C1 := B1.c4
    have HB1 := Lib.hid B1
    clear hb B1
    simp at hbs
    go_wp2_with (first | (go_at_call 143; refine (l5Name_any _ _).mono ?_; rintro e w' ⟨rfl, rfl⟩) | (go_at_call 120; refine (l1Letter_any _ _).mono ?_; rintro e w' ⟨rfl, rfl⟩) | (go_at_call 90; refine (l1In_any _ _ _ _).mono ?_; rintro e w' ⟨rfl, rfl⟩))
    refine bodyPost_ret (v := .agg #[.int .i64 1, .string ⟨#[]⟩, .string ⟨#[]⟩, .bool false]) (by simp [results, Try.results124, go_sem, C1]) rfl ⟨by simp [stV, St.bad, ba_eta], ?_⟩
    repeat (first | exact HB.out | refine Below.setCell ?_ (by first | omega | (simp; done) | (simp; omega)) _ | refine Below.alloc ?_ (by first | omega | (simp; done) | (simp; omega)) _ | refine Below.drew ?_)
  have e60 : ((b.toNat : Int) == 60) = false := u8_ne (c := 60) h60
  have ER : step 0 tag.data.toList attr.data.toList seen b = ⟨0, [], [], false⟩ := by simp [step, hv, h60]
  rw [ER]; clear ER
  go_enter Try.func124, Try.ntmps124
  go_wp2_with fail
  refine (stateValid_s _ tag attr seen HT.out HA.out _).mono ?_
  rintro e w1 ⟨rfl, hb⟩
  have HB := Lib.hid (below_call ((((Below.refl w.heap.size w).alloc (Nat.le_refl _) _).alloc (by first | omega | (simp; done) | (simp; omega)) _).alloc (by first | omega | (simp; done) | (simp; omega)) _) hb (by first | omega | (simp; done) | (simp; omega)))
  have hbs := hb.size
  have C0 := ((((Blk.new w 43 #[.int .i64 0, .string tag, .string attr, .bool seen] rfl).alloc _).alloc _).below hb (by first | omega | (simp; done) | (simp; omega))).c4
  have B1 := (((Blk.new (w.alloc _) 43 #[.int .i64 0, .string ⟨#[]⟩, .string ⟨#[]⟩, .bool false] (g := w.heap.size + 1) (by simp)).alloc _).below hb (by first | omega | (simp; done) | (simp; omega)))
  have C2 := ((Blk.new ((w.alloc _).alloc _) 43 #[.int .i64 15, .string ⟨#[]⟩, .string ⟨#[]⟩, .bool false] (g := w.heap.size + 1 + 1) (by simp)).below hb (by first | omega | (simp; done) | (simp; omega))).c4
  have C1 := B1.c4
  have HB1 := Lib.hid B1
  clear hb B1
  simp at hbs
  go_wp2_with (first | (go_at_call 143; refine (l5Name_any _ _).mono ?_; rintro e w' ⟨rfl, rfl⟩) | (go_at_call 120; refine (l1Letter_any _ _).mono ?_; rintro e w' ⟨rfl, rfl⟩) | (go_at_call 90; refine (l1In_any _ _ _ _).mono ?_; rintro e w' ⟨rfl, rfl⟩))
  refine bodyPost_ret (v := .agg #[.int .i64 0, .string ⟨#[]⟩, .string ⟨#[]⟩, .bool false]) (by simp [results, Try.results124, go_sem, C1]) rfl ⟨by simp [stV, St.bad, ba_eta], ?_⟩
  repeat (first | exact HB.out | refine Below.setCell ?_ (by first | omega | (simp; done) | (simp; omega)) _ | refine Below.alloc ?_ (by first | omega | (simp; done) | (simp; omega)) _ | refine Below.drew ?_)


set_option maxHeartbeats 8000000 in
theorem stepState_s_10 (tag attr : ByteArray) (seen : Bool) (b : UInt8) (ht : tag.size ≤ maxLen) (ha : attr.size ≤ maxLen) (hv : stOk 10 tag.data.toList attr.data.toList seen = true) (w : World) :
    Calls Try.prog 124 #[.agg #[.int .i64 10, .string tag, .string attr, .bool seen], .int .u8 (b.toNat : Int)] w fun e w' => e = .returned (stV (step 10 tag.data.toList attr.data.toList seen b)) ∧ Below w.heap.size w w' := by
  have HT := Lib.hid ht
  have HA := Lib.hid ha
  clear ht ha
  by_cases h62 : b = 62
  · subst h62
    have q1 : nameN 62 = false := rfl
    have q2 : letN 62 = false := rfl
    have ER : step 10 tag.data.toList attr.data.toList seen (62 : UInt8) = ⟨0, [], [], false⟩ := by simp [step, hv, q1, q2]
    rw [ER]; clear ER
    go_enter Try.func124, Try.ntmps124
    go_wp2_with fail
    refine (stateValid_s _ tag attr seen HT.out HA.out _).mono ?_
    rintro e w1 ⟨rfl, hb⟩
    have HB := Lib.hid (below_call ((((Below.refl w.heap.size w).alloc (Nat.le_refl _) _).alloc (by first | omega | (simp; done) | (simp; omega)) _).alloc (by first | omega | (simp; done) | (simp; omega)) _) hb (by first | omega | (simp; done) | (simp; omega)))
    have hbs := hb.size
    have C0 := ((((Blk.new w 43 #[.int .i64 10, .string tag, .string attr, .bool seen] rfl).alloc _).alloc _).below hb (by first | omega | (simp; done) | (simp; omega))).c4
    have B1 := (((Blk.new (w.alloc _) 43 #[.int .i64 0, .string ⟨#[]⟩, .string ⟨#[]⟩, .bool false] (g := w.heap.size + 1) (by simp)).alloc _).below hb (by first | omega | (simp; done) | (simp; omega)))
    have C2 := ((Blk.new ((w.alloc _).alloc _) 43 #[.int .i64 15, .string ⟨#[]⟩, .string ⟨#[]⟩, .bool false] (g := w.heap.size + 1 + 1) (by simp)).below hb (by first | omega | (simp; done) | (simp; omega))).c4
    have C1 := B1.c4
    have HB1 := Lib.hid B1
    clear hb B1
    simp at hbs
    go_wp2_with (first | (go_at_call 143; refine (l5Name_any _ _).mono ?_; rintro e w' ⟨rfl, rfl⟩) | (go_at_call 120; refine (l1Letter_any _ _).mono ?_; rintro e w' ⟨rfl, rfl⟩) | (go_at_call 90; refine (l1In_any _ _ _ _).mono ?_; rintro e w' ⟨rfl, rfl⟩))
    refine bodyPost_ret (v := .agg #[.int .i64 0, .string ⟨#[]⟩, .string ⟨#[]⟩, .bool false]) (by simp [results, Try.results124, go_sem, C1]) rfl ⟨by simp [stV, St.bad, ba_eta], ?_⟩
    repeat (first | exact HB.out | refine Below.setCell ?_ (by first | omega | (simp; done) | (simp; omega)) _ | refine Below.alloc ?_ (by first | omega | (simp; done) | (simp; omega)) _ | refine Below.drew ?_)
  have e62 : ((b.toNat : Int) == 62) = false := u8_ne (c := 62) h62
  have ER : step 10 tag.data.toList attr.data.toList seen b = ⟨10, tag.data.toList, attr.data.toList, seen⟩ := by simp [step, hv, h62]
  rw [ER]; clear ER
  go_enter Try.func124, Try.ntmps124
  go_wp2_with fail
  refine (stateValid_s _ tag attr seen HT.out HA.out _).mono ?_
  rintro e w1 ⟨rfl, hb⟩
  have HB := Lib.hid (below_call ((((Below.refl w.heap.size w).alloc (Nat.le_refl _) _).alloc (by first | omega | (simp; done) | (simp; omega)) _).alloc (by first | omega | (simp; done) | (simp; omega)) _) hb (by first | omega | (simp; done) | (simp; omega)))
  have hbs := hb.size
  have C0 := ((((Blk.new w 43 #[.int .i64 10, .string tag, .string attr, .bool seen] rfl).alloc _).alloc _).below hb (by first | omega | (simp; done) | (simp; omega))).c4
  have B1 := (((Blk.new (w.alloc _) 43 #[.int .i64 0, .string ⟨#[]⟩, .string ⟨#[]⟩, .bool false] (g := w.heap.size + 1) (by simp)).alloc _).below hb (by first | omega | (simp; done) | (simp; omega)))
  have C2 := ((Blk.new ((w.alloc _).alloc _) 43 #[.int .i64 15, .string ⟨#[]⟩, .string ⟨#[]⟩, .bool false] (g := w.heap.size + 1 + 1) (by simp)).below hb (by first | omega | (simp; done) | (simp; omega))).c4
  have C1 := B1.c4
  have HB1 := Lib.hid B1
  clear hb B1
  simp at hbs
  go_wp2_with (first | (go_at_call 143; refine (l5Name_any _ _).mono ?_; rintro e w' ⟨rfl, rfl⟩) | (go_at_call 120; refine (l1Letter_any _ _).mono ?_; rintro e w' ⟨rfl, rfl⟩) | (go_at_call 90; refine (l1In_any _ _ _ _).mono ?_; rintro e w' ⟨rfl, rfl⟩))
  refine bodyPost_ret (v := .agg #[.int .i64 10, .string tag, .string attr, .bool seen]) (by simp [results, Try.results124, go_sem, C1]) rfl ⟨by simp [stV, St.bad, ba_eta], ?_⟩
  repeat (first | exact HB.out | refine Below.setCell ?_ (by first | omega | (simp; done) | (simp; omega)) _ | refine Below.alloc ?_ (by first | omega | (simp; done) | (simp; omega)) _ | refine Below.drew ?_)


set_option maxHeartbeats 8000000 in
theorem stepState_s_15 (tag attr : ByteArray) (seen : Bool) (b : UInt8) (ht : tag.size ≤ maxLen) (ha : attr.size ≤ maxLen) (hv : stOk 15 tag.data.toList attr.data.toList seen = true) (w : World) :
    Calls Try.prog 124 #[.agg #[.int .i64 15, .string tag, .string attr, .bool seen], .int .u8 (b.toNat : Int)] w fun e w' => e = .returned (stV (step 15 tag.data.toList attr.data.toList seen b)) ∧ Below w.heap.size w w' := by
  have HT := Lib.hid ht
  have HA := Lib.hid ha
  clear ht ha
  have i1 : inB 15 2 8 = false := rfl
  have i2 : inB 15 11 14 = false := rfl
  have ER : step 15 tag.data.toList attr.data.toList seen b = St.bad := by simp [step, hv]
  rw [ER]; clear ER
  go_enter Try.func124, Try.ntmps124
  go_wp2_with fail
  refine (stateValid_s _ tag attr seen HT.out HA.out _).mono ?_
  rintro e w1 ⟨rfl, hb⟩
  have HB := Lib.hid (below_call ((((Below.refl w.heap.size w).alloc (Nat.le_refl _) _).alloc (by first | omega | (simp; done) | (simp; omega)) _).alloc (by first | omega | (simp; done) | (simp; omega)) _) hb (by first | omega | (simp; done) | (simp; omega)))
  have hbs := hb.size
  have C0 := ((((Blk.new w 43 #[.int .i64 15, .string tag, .string attr, .bool seen] rfl).alloc _).alloc _).below hb (by first | omega | (simp; done) | (simp; omega))).c4
  have B1 := (((Blk.new (w.alloc _) 43 #[.int .i64 0, .string ⟨#[]⟩, .string ⟨#[]⟩, .bool false] (g := w.heap.size + 1) (by simp)).alloc _).below hb (by first | omega | (simp; done) | (simp; omega)))
  have C2 := ((Blk.new ((w.alloc _).alloc _) 43 #[.int .i64 15, .string ⟨#[]⟩, .string ⟨#[]⟩, .bool false] (g := w.heap.size + 1 + 1) (by simp)).below hb (by first | omega | (simp; done) | (simp; omega))).c4
  have C1 := B1.c4
  have HB1 := Lib.hid B1
  clear hb B1
  simp at hbs
  go_wp2_with (first | (go_at_call 143; refine (l5Name_any _ _).mono ?_; rintro e w' ⟨rfl, rfl⟩) | (go_at_call 120; refine (l1Letter_any _ _).mono ?_; rintro e w' ⟨rfl, rfl⟩) | (go_at_call 90; refine (l1In_any _ _ _ _).mono ?_; rintro e w' ⟨rfl, rfl⟩))
  refine bodyPost_ret (v := .agg #[.int .i64 15, .string ⟨#[]⟩, .string ⟨#[]⟩, .bool false]) (by simp [results, Try.results124, go_sem, C1]) rfl ⟨by simp [stV, St.bad, ba_eta], ?_⟩
  repeat (first | exact HB.out | refine Below.setCell ?_ (by first | omega | (simp; done) | (simp; omega)) _ | refine Below.alloc ?_ (by first | omega | (simp; done) | (simp; omega)) _ | refine Below.drew ?_)


set_option maxHeartbeats 8000000 in
theorem stepState_s_1 (tag attr : ByteArray) (seen : Bool) (b : UInt8) (ht : tag.size ≤ maxLen) (ha : attr.size ≤ maxLen) (hv : stOk 1 tag.data.toList attr.data.toList seen = true) (w : World) :
    Calls Try.prog 124 #[.agg #[.int .i64 1, .string tag, .string attr, .bool seen], .int .u8 (b.toNat : Int)] w fun e w' => e = .returned (stV (step 1 tag.data.toList attr.data.toList seen b)) ∧ Below w.heap.size w w' := by
  have HT := Lib.hid ht
  have HA := Lib.hid ha
  clear ht ha
  have i1 : inB 1 2 8 = false := rfl
  have i2 : inB 1 11 14 = false := rfl
  have hcv := conv1 (P := Try.prog) Try.underlying55 Try.underlying5 Try.underlying9 b _ rfl
  by_cases h47 : b = 47
  · subst h47
    have q1 : nameN 47 = false := rfl
    have q2 : letN 47 = false := rfl
    have ER : step 1 tag.data.toList attr.data.toList seen (47 : UInt8) = ⟨9, [], [], false⟩ := by simp [step, hv, q1, q2]
    rw [ER]; clear ER
    go_enter Try.func124, Try.ntmps124
    go_wp2_with fail
    refine (stateValid_s _ tag attr seen HT.out HA.out _).mono ?_
    rintro e w1 ⟨rfl, hb⟩
    have HB := Lib.hid (below_call ((((Below.refl w.heap.size w).alloc (Nat.le_refl _) _).alloc (by first | omega | (simp; done) | (simp; omega)) _).alloc (by first | omega | (simp; done) | (simp; omega)) _) hb (by first | omega | (simp; done) | (simp; omega)))
    have hbs := hb.size
    have C0 := ((((Blk.new w 43 #[.int .i64 1, .string tag, .string attr, .bool seen] rfl).alloc _).alloc _).below hb (by first | omega | (simp; done) | (simp; omega))).c4
    have B1 := (((Blk.new (w.alloc _) 43 #[.int .i64 0, .string ⟨#[]⟩, .string ⟨#[]⟩, .bool false] (g := w.heap.size + 1) (by simp)).alloc _).below hb (by first | omega | (simp; done) | (simp; omega)))
    have C2 := ((Blk.new ((w.alloc _).alloc _) 43 #[.int .i64 15, .string ⟨#[]⟩, .string ⟨#[]⟩, .bool false] (g := w.heap.size + 1 + 1) (by simp)).below hb (by first | omega | (simp; done) | (simp; omega))).c4
    have C1 := B1.c4
    have HB1 := Lib.hid B1
    clear hb B1
    simp at hbs
    go_wp2_with (first | (go_at_call 143; refine (l5Name_any _ _).mono ?_; rintro e w' ⟨rfl, rfl⟩) | (go_at_call 120; refine (l1Letter_any _ _).mono ?_; rintro e w' ⟨rfl, rfl⟩) | (go_at_call 90; refine (l1In_any _ _ _ _).mono ?_; rintro e w' ⟨rfl, rfl⟩))
    refine bodyPost_ret (v := .agg #[.int .i64 9, .string ⟨#[]⟩, .string ⟨#[]⟩, .bool false]) (by simp [results, Try.results124, go_sem, C1]) rfl ⟨by simp [stV, St.bad, ba_eta], ?_⟩
    repeat (first | exact HB.out | refine Below.setCell ?_ (by first | omega | (simp; done) | (simp; omega)) _ | refine Below.alloc ?_ (by first | omega | (simp; done) | (simp; omega)) _ | refine Below.drew ?_)
  by_cases h33 : b = 33
  · subst h33
    have q1 : nameN 33 = false := rfl
    have q2 : letN 33 = false := rfl
    have ER : step 1 tag.data.toList attr.data.toList seen (33 : UInt8) = ⟨10, [], [], false⟩ := by simp [step, hv, h47, q1, q2]
    rw [ER]; clear ER
    go_enter Try.func124, Try.ntmps124
    go_wp2_with fail
    refine (stateValid_s _ tag attr seen HT.out HA.out _).mono ?_
    rintro e w1 ⟨rfl, hb⟩
    have HB := Lib.hid (below_call ((((Below.refl w.heap.size w).alloc (Nat.le_refl _) _).alloc (by first | omega | (simp; done) | (simp; omega)) _).alloc (by first | omega | (simp; done) | (simp; omega)) _) hb (by first | omega | (simp; done) | (simp; omega)))
    have hbs := hb.size
    have C0 := ((((Blk.new w 43 #[.int .i64 1, .string tag, .string attr, .bool seen] rfl).alloc _).alloc _).below hb (by first | omega | (simp; done) | (simp; omega))).c4
    have B1 := (((Blk.new (w.alloc _) 43 #[.int .i64 0, .string ⟨#[]⟩, .string ⟨#[]⟩, .bool false] (g := w.heap.size + 1) (by simp)).alloc _).below hb (by first | omega | (simp; done) | (simp; omega)))
    have C2 := ((Blk.new ((w.alloc _).alloc _) 43 #[.int .i64 15, .string ⟨#[]⟩, .string ⟨#[]⟩, .bool false] (g := w.heap.size + 1 + 1) (by simp)).below hb (by first | omega | (simp; done) | (simp; omega))).c4
    have C1 := B1.c4
    have HB1 := Lib.hid B1
    clear hb B1
    simp at hbs
    go_wp2_with (first | (go_at_call 143; refine (l5Name_any _ _).mono ?_; rintro e w' ⟨rfl, rfl⟩) | (go_at_call 120; refine (l1Letter_any _ _).mono ?_; rintro e w' ⟨rfl, rfl⟩) | (go_at_call 90; refine (l1In_any _ _ _ _).mono ?_; rintro e w' ⟨rfl, rfl⟩))
    refine bodyPost_ret (v := .agg #[.int .i64 10, .string ⟨#[]⟩, .string ⟨#[]⟩, .bool false]) (by simp [results, Try.results124, go_sem, C1]) rfl ⟨by simp [stV, St.bad, ba_eta], ?_⟩
    repeat (first | exact HB.out | refine Below.setCell ?_ (by first | omega | (simp; done) | (simp; omega)) _ | refine Below.alloc ?_ (by first | omega | (simp; done) | (simp; omega)) _ | refine Below.drew ?_)
  have e47 : ((b.toNat : Int) == 47) = false := u8_ne (c := 47) h47
  have e33 : ((b.toNat : Int) == 33) = false := u8_ne (c := 33) h33
  cases hn : letN b.toNat with
  | true =>
    have ER : step 1 tag.data.toList attr.data.toList seen b = moreSt 2 [] [] [b] := by simp [step, hv, h47, h33, hn]
    rw [ER]; clear ER
    go_enter Try.func124, Try.ntmps124
    go_wp2_with fail
    refine (stateValid_s _ tag attr seen HT.out HA.out _).mono ?_
    rintro e w1 ⟨rfl, hb⟩
    have HB := Lib.hid (below_call ((((Below.refl w.heap.size w).alloc (Nat.le_refl _) _).alloc (by first | omega | (simp; done) | (simp; omega)) _).alloc (by first | omega | (simp; done) | (simp; omega)) _) hb (by first | omega | (simp; done) | (simp; omega)))
    have hbs := hb.size
    have C0 := ((((Blk.new w 43 #[.int .i64 1, .string tag, .string attr, .bool seen] rfl).alloc _).alloc _).below hb (by first | omega | (simp; done) | (simp; omega))).c4
    have B1 := (((Blk.new (w.alloc _) 43 #[.int .i64 0, .string ⟨#[]⟩, .string ⟨#[]⟩, .bool false] (g := w.heap.size + 1) (by simp)).alloc _).below hb (by first | omega | (simp; done) | (simp; omega)))
    have C2 := ((Blk.new ((w.alloc _).alloc _) 43 #[.int .i64 15, .string ⟨#[]⟩, .string ⟨#[]⟩, .bool false] (g := w.heap.size + 1 + 1) (by simp)).below hb (by first | omega | (simp; done) | (simp; omega))).c4
    have C1 := B1.c4
    have HB1 := Lib.hid B1
    clear hb B1
    simp at hbs
    go_wp2_with (first | (go_at_call 143; refine (l5Name_any _ _).mono ?_; rintro e w' ⟨rfl, rfl⟩) | (go_at_call 120; refine (l1Letter_any _ _).mono ?_; rintro e w' ⟨rfl, rfl⟩) | (go_at_call 90; refine (l1In_any _ _ _ _).mono ?_; rintro e w' ⟨rfl, rfl⟩))
    refine (l5More_any _ ⟨#[]⟩ ⟨#[]⟩ _ (by show 0 ≤ 1000; omega) (by show 0 ≤ 1000; omega) (by show 1 ≤ 1000; omega) _).mono ?_
    rintro e w2 ⟨rfl, hb⟩
    have HB2 := Lib.hid (below_call (HB.out.alloc (by first | omega | (simp; done) | (simp; omega)) _) hb (by first | omega | (simp; done) | (simp; omega)))
    have hbs2 := hb.size
    simp at hbs2
    have C1' := ((HB1.out.alloc _).below hb (by first | omega | (simp; done) | (simp; omega))).c4
    clear hb C0 C1 C2 HB HB1
    generalize hR : moreSt 2 [] [] [b] = R
    obtain ⟨r0, r1, r2, r3⟩ := R
    simp only [stV] at *
    have HR := Lib.hid hR
    clear hR
    go_wp2_with fail
    refine bodyPost_ret (v := .agg #[.int .i64 r0, .string ⟨r1.toArray⟩, .string ⟨r2.toArray⟩, .bool r3]) (by simp [results, Try.results124, go_sem, C1']) rfl ⟨by rw [HR.out]; rfl, ?_⟩
    repeat (first | exact HB2.out | refine Below.setCell ?_ (by first | omega | (simp; done) | (simp; omega)) _ | refine Below.alloc ?_ (by first | omega | (simp; done) | (simp; omega)) _ | refine Below.drew ?_)
  | false =>
    have ER : step 1 tag.data.toList attr.data.toList seen b = St.bad := by simp [step, hv, h47, h33, hn]
    rw [ER]; clear ER
    go_enter Try.func124, Try.ntmps124
    go_wp2_with fail
    refine (stateValid_s _ tag attr seen HT.out HA.out _).mono ?_
    rintro e w1 ⟨rfl, hb⟩
    have HB := Lib.hid (below_call ((((Below.refl w.heap.size w).alloc (Nat.le_refl _) _).alloc (by first | omega | (simp; done) | (simp; omega)) _).alloc (by first | omega | (simp; done) | (simp; omega)) _) hb (by first | omega | (simp; done) | (simp; omega)))
    have hbs := hb.size
    have C0 := ((((Blk.new w 43 #[.int .i64 1, .string tag, .string attr, .bool seen] rfl).alloc _).alloc _).below hb (by first | omega | (simp; done) | (simp; omega))).c4
    have B1 := (((Blk.new (w.alloc _) 43 #[.int .i64 0, .string ⟨#[]⟩, .string ⟨#[]⟩, .bool false] (g := w.heap.size + 1) (by simp)).alloc _).below hb (by first | omega | (simp; done) | (simp; omega)))
    have C2 := ((Blk.new ((w.alloc _).alloc _) 43 #[.int .i64 15, .string ⟨#[]⟩, .string ⟨#[]⟩, .bool false] (g := w.heap.size + 1 + 1) (by simp)).below hb (by first | omega | (simp; done) | (simp; omega))).c4
    have C1 := B1.c4
    have HB1 := Lib.hid B1
    clear hb B1
    simp at hbs
    go_wp2_with (first | (go_at_call 143; refine (l5Name_any _ _).mono ?_; rintro e w' ⟨rfl, rfl⟩) | (go_at_call 120; refine (l1Letter_any _ _).mono ?_; rintro e w' ⟨rfl, rfl⟩) | (go_at_call 90; refine (l1In_any _ _ _ _).mono ?_; rintro e w' ⟨rfl, rfl⟩))
    refine bodyPost_ret (v := .agg #[.int .i64 15, .string ⟨#[]⟩, .string ⟨#[]⟩, .bool false]) (by simp [results, Try.results124, go_sem, C1]) rfl ⟨by simp [stV, St.bad, ba_eta], ?_⟩
    repeat (first | exact HB.out | refine Below.setCell ?_ (by first | omega | (simp; done) | (simp; omega)) _ | refine Below.alloc ?_ (by first | omega | (simp; done) | (simp; omega)) _ | refine Below.drew ?_)


set_option maxHeartbeats 8000000 in
theorem stepState_s_6 (tag attr : ByteArray) (seen : Bool) (b : UInt8) (ht : tag.size ≤ maxLen) (ha : attr.size ≤ maxLen) (hv : stOk 6 tag.data.toList attr.data.toList seen = true) (w : World) :
    Calls Try.prog 124 #[.agg #[.int .i64 6, .string tag, .string attr, .bool seen], .int .u8 (b.toNat : Int)] w fun e w' => e = .returned (stV (step 6 tag.data.toList attr.data.toList seen b)) ∧ Below w.heap.size w w' := by
  have HT := Lib.hid ht
  have HA := Lib.hid ha
  clear ht ha
  by_cases h34 : b = 34
  · subst h34
    have q1 : nameN 34 = false := rfl
    have q2 : letN 34 = false := rfl
    have ER : step 6 tag.data.toList attr.data.toList seen (34 : UInt8) = ⟨3, tag.data.toList, [], false⟩ := by simp [step, hv, q1, q2]
    rw [ER]; clear ER
    go_enter Try.func124, Try.ntmps124
    go_wp2_with fail
    refine (stateValid_s _ tag attr seen HT.out HA.out _).mono ?_
    rintro e w1 ⟨rfl, hb⟩
    have HB := Lib.hid (below_call ((((Below.refl w.heap.size w).alloc (Nat.le_refl _) _).alloc (by first | omega | (simp; done) | (simp; omega)) _).alloc (by first | omega | (simp; done) | (simp; omega)) _) hb (by first | omega | (simp; done) | (simp; omega)))
    have hbs := hb.size
    have C0 := ((((Blk.new w 43 #[.int .i64 6, .string tag, .string attr, .bool seen] rfl).alloc _).alloc _).below hb (by first | omega | (simp; done) | (simp; omega))).c4
    have B1 := (((Blk.new (w.alloc _) 43 #[.int .i64 0, .string ⟨#[]⟩, .string ⟨#[]⟩, .bool false] (g := w.heap.size + 1) (by simp)).alloc _).below hb (by first | omega | (simp; done) | (simp; omega)))
    have C2 := ((Blk.new ((w.alloc _).alloc _) 43 #[.int .i64 15, .string ⟨#[]⟩, .string ⟨#[]⟩, .bool false] (g := w.heap.size + 1 + 1) (by simp)).below hb (by first | omega | (simp; done) | (simp; omega))).c4
    have C1 := B1.c4
    have HB1 := Lib.hid B1
    clear hb B1
    simp at hbs
    go_wp2_with (first | (go_at_call 143; refine (l5Name_any _ _).mono ?_; rintro e w' ⟨rfl, rfl⟩) | (go_at_call 120; refine (l1Letter_any _ _).mono ?_; rintro e w' ⟨rfl, rfl⟩) | (go_at_call 90; refine (l1In_any _ _ _ _).mono ?_; rintro e w' ⟨rfl, rfl⟩))
    refine bodyPost_ret (v := .agg #[.int .i64 3, .string tag, .string ⟨#[]⟩, .bool false]) (by simp [results, Try.results124, go_sem, C1]) rfl ⟨by simp [stV, St.bad, ba_eta], ?_⟩
    repeat (first | exact HB.out | refine Below.setCell ?_ (by first | omega | (simp; done) | (simp; omega)) _ | refine Below.alloc ?_ (by first | omega | (simp; done) | (simp; omega)) _ | refine Below.drew ?_)
  have e34 : ((b.toNat : Int) == 34) = false := u8_ne (c := 34) h34
  have ER : step 6 tag.data.toList attr.data.toList seen b = ⟨6, tag.data.toList, attr.data.toList, true⟩ := by simp [step, hv, h34]
  rw [ER]; clear ER
  go_enter Try.func124, Try.ntmps124
  go_wp2_with fail
  refine (stateValid_s _ tag attr seen HT.out HA.out _).mono ?_
  rintro e w1 ⟨rfl, hb⟩
  have HB := Lib.hid (below_call ((((Below.refl w.heap.size w).alloc (Nat.le_refl _) _).alloc (by first | omega | (simp; done) | (simp; omega)) _).alloc (by first | omega | (simp; done) | (simp; omega)) _) hb (by first | omega | (simp; done) | (simp; omega)))
  have hbs := hb.size
  have C0 := ((((Blk.new w 43 #[.int .i64 6, .string tag, .string attr, .bool seen] rfl).alloc _).alloc _).below hb (by first | omega | (simp; done) | (simp; omega))).c4
  have B1 := (((Blk.new (w.alloc _) 43 #[.int .i64 0, .string ⟨#[]⟩, .string ⟨#[]⟩, .bool false] (g := w.heap.size + 1) (by simp)).alloc _).below hb (by first | omega | (simp; done) | (simp; omega)))
  have C2 := ((Blk.new ((w.alloc _).alloc _) 43 #[.int .i64 15, .string ⟨#[]⟩, .string ⟨#[]⟩, .bool false] (g := w.heap.size + 1 + 1) (by simp)).below hb (by first | omega | (simp; done) | (simp; omega))).c4
  have C1 := B1.c4
  have HB1 := Lib.hid B1
  clear hb B1
  simp at hbs
  go_wp2_with (first | (go_at_call 143; refine (l5Name_any _ _).mono ?_; rintro e w' ⟨rfl, rfl⟩) | (go_at_call 120; refine (l1Letter_any _ _).mono ?_; rintro e w' ⟨rfl, rfl⟩) | (go_at_call 90; refine (l1In_any _ _ _ _).mono ?_; rintro e w' ⟨rfl, rfl⟩))
  refine (l5Value_any _ tag attr seen _).mono ?_
  rintro e w2 ⟨rfl, hb⟩
  have HB2 := Lib.hid (below_call HB.out hb (by first | omega | (simp; done) | (simp; omega)))
  have hbs2 := hb.size
  have C1' := (HB1.out.below hb (by first | omega | (simp; done) | (simp; omega))).c4
  clear hb C0 C1 C2 HB HB1
  go_wp2_with fail
  refine bodyPost_ret (v := .agg #[.int .i64 6, .string tag, .string attr, .bool true]) (by simp [results, Try.results124, go_sem, C1']) rfl ⟨by simp [stV, ba_eta], ?_⟩
  repeat (first | exact HB2.out | refine Below.setCell ?_ (by first | omega | (simp; done) | (simp; omega)) _ | refine Below.alloc ?_ (by first | omega | (simp; done) | (simp; omega)) _ | refine Below.drew ?_)


end Go.Proofs.Ytdehpafflbhadaa
