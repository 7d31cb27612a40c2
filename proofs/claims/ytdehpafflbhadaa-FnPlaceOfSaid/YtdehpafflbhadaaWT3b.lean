/- The reference's step (WT3b). Printed by gen_step.py. -/
import Derived.Test.YtdehpafflbhadaaWT3
namespace Go.Proofs.Ytdehpafflbhadaa
set_option maxRecDepth 100000
set_option linter.unusedVariables false
set_option linter.unusedSimpArgs false
open Go.RowKit

set_option maxHeartbeats 8000000 in
theorem stepState_s_7 (tag attr : ByteArray) (seen : Bool) (b : UInt8) (ht : tag.size ≤ maxLen) (ha : attr.size ≤ maxLen) (hv : stOk 7 tag.data.toList attr.data.toList seen = true) (w : World) :
    Calls Try.prog 124 #[.agg #[.int .i64 7, .string tag, .string attr, .bool seen], .int .u8 (b.toNat : Int)] w fun e w' => e = .returned (stV (step 7 tag.data.toList attr.data.toList seen b)) ∧ Below w.heap.size w w' := by
  have HT := Lib.hid ht
  have HA := Lib.hid ha
  clear ht ha
  by_cases h39 : b = 39
  · subst h39
    have q1 : nameN 39 = false := rfl
    have q2 : letN 39 = false := rfl
    have ER : step 7 tag.data.toList attr.data.toList seen (39 : UInt8) = ⟨3, tag.data.toList, [], false⟩ := by simp [step, hv, q1, q2]
    rw [ER]; clear ER
    go_enter Try.func124, Try.ntmps124
    go_wp2_with fail
    refine (stateValid_s _ tag attr seen HT.out HA.out _).mono ?_
    rintro e w1 ⟨rfl, hb⟩
    have HB := Lib.hid (below_call ((((Below.refl w.heap.size w).alloc (Nat.le_refl _) _).alloc (by first | omega | (simp; done) | (simp; omega)) _).alloc (by first | omega | (simp; done) | (simp; omega)) _) hb (by first | omega | (simp; done) | (simp; omega)))
    have hbs := hb.size
    have C0 := ((((Blk.new w 43 #[.int .i64 7, .string tag, .string attr, .bool seen] rfl).alloc _).alloc _).below hb (by first | omega | (simp; done) | (simp; omega))).c4
    have B1 := (((Blk.new (w.alloc _) 43 #[.int .i64 0, .string ⟨#[]⟩, .string ⟨#[]⟩, .bool false] (g := w.heap.size + 1) (by simp)).alloc _).below hb (by first | omega | (simp; done) | (simp; omega)))
    have C2 := ((Blk.new ((w.alloc _).alloc _) 43 #[.int .i64 15, .string ⟨#[]⟩, .string ⟨#[]⟩, .bool false] (g := w.heap.size + 1 + 1) (by simp)).below hb (by first | omega | (simp; done) | (simp; omega))).c4
    have C1 := B1.c4
    have HB1 := Lib.hid B1
    clear hb B1
    simp at hbs
    go_wp2_with (first | (go_at_call 143; refine (l5Name_any _ _).mono ?_; rintro e w' ⟨rfl, rfl⟩) | (go_at_call 120; refine (l1Letter_any _ _).mono ?_; rintro e w' ⟨rfl, rfl⟩) | (go_at_call 90; refine (l1In_any _ _ _ _).mono ?_; rintro e w' ⟨rfl, rfl⟩))
    refine bodyPost_ret (v := .agg #[.int .i64 3, .string tag, .string ⟨#[]⟩, .bool false]) (by simp [results, Try.results124, go_sem, C1]) rfl ⟨by simp [stV, St.bad, ba_eta], ?_⟩
    repeat (first | exact HB.out | refine Below.setCell ?_ (by first | omega | (simp; done) | (simp; omega)) _ | refine Below.alloc ?_ (by first | omega | (simp; done) | (simp; omega)) _ | refine Below.drew ?_)
  have e39 : ((b.toNat : Int) == 39) = false := u8_ne (c := 39) h39
  have ER : step 7 tag.data.toList attr.data.toList seen b = ⟨7, tag.data.toList, attr.data.toList, true⟩ := by simp [step, hv, h39]
  rw [ER]; clear ER
  go_enter Try.func124, Try.ntmps124
  go_wp2_with fail
  refine (stateValid_s _ tag attr seen HT.out HA.out _).mono ?_
  rintro e w1 ⟨rfl, hb⟩
  have HB := Lib.hid (below_call ((((Below.refl w.heap.size w).alloc (Nat.le_refl _) _).alloc (by first | omega | (simp; done) | (simp; omega)) _).alloc (by first | omega | (simp; done) | (simp; omega)) _) hb (by first | omega | (simp; done) | (simp; omega)))
  have hbs := hb.size
  have C0 := ((((Blk.new w 43 #[.int .i64 7, .string tag, .string attr, .bool seen] rfl).alloc _).alloc _).below hb (by first | omega | (simp; done) | (simp; omega))).c4
  have B1 := (((Blk.new (w.alloc _) 43 #[.int .i64 0, .string ⟨#[]⟩, .string ⟨#[]⟩, .bool false] (g := w.heap.size + 1) (by simp)).alloc _).below hb (by first | omega | (simp; done) | (simp; omega)))
  have C2 := ((Blk.new ((w.alloc _).alloc _) 43 #[.int .i64 15, .string ⟨#[]⟩, .string ⟨#[]⟩, .bool false] (g := w.heap.size + 1 + 1) (by simp)).below hb (by first | omega | (simp; done) | (simp; omega))).c4
  have C1 := B1.c4
  have HB1 := Lib.hid B1
  clear hb B1
  simp at hbs
  go_wp2_with (first | (go_at_call 143; refine (l5Name_any _ _).mono ?_; rintro e w' ⟨rfl, rfl⟩) | (go_at_call 120; refine (l1Letter_any _ _).mono ?_; rintro e w' ⟨rfl, rfl⟩) | (go_at_call 90; refine (l1In_any _ _ _ _).mono ?_; rintro e w' ⟨rfl, rfl⟩))
  refine (l5Value_any _ tag attr seen _).mono ?_
  rintro e w2 ⟨rfl, hb⟩
  have HB2 := Lib.hid (below_call HB.out hb (by first | omega | (simp; done) | (simp; omega)))
  have hbs2 := hb.size
  have C1' := (HB1.out.below hb (by first | omega | (simp; done) | (simp; omega))).c4
  clear hb C0 C1 C2 HB HB1
  go_wp2_with fail
  refine bodyPost_ret (v := .agg #[.int .i64 7, .string tag, .string attr, .bool true]) (by simp [results, Try.results124, go_sem, C1']) rfl ⟨by simp [stV, ba_eta], ?_⟩
  repeat (first | exact HB2.out | refine Below.setCell ?_ (by first | omega | (simp; done) | (simp; omega)) _ | refine Below.alloc ?_ (by first | omega | (simp; done) | (simp; omega)) _ | refine Below.drew ?_)


set_option maxHeartbeats 8000000 in
theorem stepState_s_2 (tag attr : ByteArray) (seen : Bool) (b : UInt8) (ht : tag.size ≤ maxLen) (ha : attr.size ≤ maxLen) (hv : stOk 2 tag.data.toList attr.data.toList seen = true) (w : World) :
    Calls Try.prog 124 #[.agg #[.int .i64 2, .string tag, .string attr, .bool seen], .int .u8 (b.toNat : Int)] w fun e w' => e = .returned (stV (step 2 tag.data.toList attr.data.toList seen b)) ∧ Below w.heap.size w w' := by
  have HT := Lib.hid ht
  have HA := Lib.hid ha
  clear ht ha
  obtain ⟨hs1, hs2⟩ := stOk_sizes hv
  have i1 : inB 2 2 8 = true := rfl
  have ER : step 2 tag.data.toList attr.data.toList seen b = tagSt 2 tag.data.toList attr.data.toList b := by simp [step, hv]
  rw [ER]; clear ER
  go_enter Try.func124, Try.ntmps124
  go_wp2_with fail
  refine (stateValid_s _ tag attr seen HT.out HA.out _).mono ?_
  rintro e w1 ⟨rfl, hb⟩
  have HB := Lib.hid (below_call ((((Below.refl w.heap.size w).alloc (Nat.le_refl _) _).alloc (by first | omega | (simp; done) | (simp; omega)) _).alloc (by first | omega | (simp; done) | (simp; omega)) _) hb (by first | omega | (simp; done) | (simp; omega)))
  have hbs := hb.size
  have C0 := ((((Blk.new w 43 #[.int .i64 2, .string tag, .string attr, .bool seen] rfl).alloc _).alloc _).below hb (by first | omega | (simp; done) | (simp; omega))).c4
  have B1 := (((Blk.new (w.alloc _) 43 #[.int .i64 0, .string ⟨#[]⟩, .string ⟨#[]⟩, .bool false] (g := w.heap.size + 1) (by simp)).alloc _).below hb (by first | omega | (simp; done) | (simp; omega)))
  have C2 := ((Blk.new ((w.alloc _).alloc _) 43 #[.int .i64 15, .string ⟨#[]⟩, .string ⟨#[]⟩, .bool false] (g := w.heap.size + 1 + 1) (by simp)).below hb (by first | omega | (simp; done) | (simp; omega))).c4
  have C1 := B1.c4
  have HB1 := Lib.hid B1
  clear hb B1
  simp at hbs
  go_wp2_with (first | (go_at_call 143; refine (l5Name_any _ _).mono ?_; rintro e w' ⟨rfl, rfl⟩) | (go_at_call 120; refine (l1Letter_any _ _).mono ?_; rintro e w' ⟨rfl, rfl⟩) | (go_at_call 90; refine (l1In_any _ _ _ _).mono ?_; rintro e w' ⟨rfl, rfl⟩))
  refine (l5Tag_2 tag attr seen b (by omega) (by omega) _).mono ?_
  rintro e w2 ⟨rfl, hb⟩
  have HB2 := Lib.hid (below_call HB.out hb (by first | omega | (simp; done) | (simp; omega)))
  have hbs2 := hb.size
  skip
  have C1' := (HB1.out.below hb (by first | omega | (simp; done) | (simp; omega))).c4
  clear hb C0 C1 C2 HB HB1
  generalize hR : tagSt 2 tag.data.toList attr.data.toList b = R
  obtain ⟨r0, r1, r2, r3⟩ := R
  simp only [stV] at *
  have HR := Lib.hid hR
  clear hR
  go_wp2_with fail
  refine bodyPost_ret (v := .agg #[.int .i64 r0, .string ⟨r1.toArray⟩, .string ⟨r2.toArray⟩, .bool r3]) (by simp [results, Try.results124, go_sem, C1']) rfl ⟨by rw [HR.out]; rfl, ?_⟩
  repeat (first | exact HB2.out | refine Below.setCell ?_ (by first | omega | (simp; done) | (simp; omega)) _ | refine Below.alloc ?_ (by first | omega | (simp; done) | (simp; omega)) _ | refine Below.drew ?_)


set_option maxHeartbeats 8000000 in
theorem stepState_s_3 (tag attr : ByteArray) (seen : Bool) (b : UInt8) (ht : tag.size ≤ maxLen) (ha : attr.size ≤ maxLen) (hv : stOk 3 tag.data.toList attr.data.toList seen = true) (w : World) :
    Calls Try.prog 124 #[.agg #[.int .i64 3, .string tag, .string attr, .bool seen], .int .u8 (b.toNat : Int)] w fun e w' => e = .returned (stV (step 3 tag.data.toList attr.data.toList seen b)) ∧ Below w.heap.size w w' := by
  have HT := Lib.hid ht
  have HA := Lib.hid ha
  clear ht ha
  obtain ⟨hs1, hs2⟩ := stOk_sizes hv
  have i1 : inB 3 2 8 = true := rfl
  have ER : step 3 tag.data.toList attr.data.toList seen b = tagSt 3 tag.data.toList attr.data.toList b := by simp [step, hv]
  rw [ER]; clear ER
  go_enter Try.func124, Try.ntmps124
  go_wp2_with fail
  refine (stateValid_s _ tag attr seen HT.out HA.out _).mono ?_
  rintro e w1 ⟨rfl, hb⟩
  have HB := Lib.hid (below_call ((((Below.refl w.heap.size w).alloc (Nat.le_refl _) _).alloc (by first | omega | (simp; done) | (simp; omega)) _).alloc (by first | omega | (simp; done) | (simp; omega)) _) hb (by first | omega | (simp; done) | (simp; omega)))
  have hbs := hb.size
  have C0 := ((((Blk.new w 43 #[.int .i64 3, .string tag, .string attr, .bool seen] rfl).alloc _).alloc _).below hb (by first | omega | (simp; done) | (simp; omega))).c4
  have B1 := (((Blk.new (w.alloc _) 43 #[.int .i64 0, .string ⟨#[]⟩, .string ⟨#[]⟩, .bool false] (g := w.heap.size + 1) (by simp)).alloc _).below hb (by first | omega | (simp; done) | (simp; omega)))
  have C2 := ((Blk.new ((w.alloc _).alloc _) 43 #[.int .i64 15, .string ⟨#[]⟩, .string ⟨#[]⟩, .bool false] (g := w.heap.size + 1 + 1) (by simp)).below hb (by first | omega | (simp; done) | (simp; omega))).c4
  have C1 := B1.c4
  have HB1 := Lib.hid B1
  clear hb B1
  simp at hbs
  go_wp2_with (first | (go_at_call 143; refine (l5Name_any _ _).mono ?_; rintro e w' ⟨rfl, rfl⟩) | (go_at_call 120; refine (l1Letter_any _ _).mono ?_; rintro e w' ⟨rfl, rfl⟩) | (go_at_call 90; refine (l1In_any _ _ _ _).mono ?_; rintro e w' ⟨rfl, rfl⟩))
  refine (l5Tag_3 tag attr seen b (by omega) (by omega) _).mono ?_
  rintro e w2 ⟨rfl, hb⟩
  have HB2 := Lib.hid (below_call HB.out hb (by first | omega | (simp; done) | (simp; omega)))
  have hbs2 := hb.size
  skip
  have C1' := (HB1.out.below hb (by first | omega | (simp; done) | (simp; omega))).c4
  clear hb C0 C1 C2 HB HB1
  generalize hR : tagSt 3 tag.data.toList attr.data.toList b = R
  obtain ⟨r0, r1, r2, r3⟩ := R
  simp only [stV] at *
  have HR := Lib.hid hR
  clear hR
  go_wp2_with fail
  refine bodyPost_ret (v := .agg #[.int .i64 r0, .string ⟨r1.toArray⟩, .string ⟨r2.toArray⟩, .bool r3]) (by simp [results, Try.results124, go_sem, C1']) rfl ⟨by rw [HR.out]; rfl, ?_⟩
  repeat (first | exact HB2.out | refine Below.setCell ?_ (by first | omega | (simp; done) | (simp; omega)) _ | refine Below.alloc ?_ (by first | omega | (simp; done) | (simp; omega)) _ | refine Below.drew ?_)


set_option maxHeartbeats 8000000 in
theorem stepState_s_4 (tag attr : ByteArray) (seen : Bool) (b : UInt8) (ht : tag.size ≤ maxLen) (ha : attr.size ≤ maxLen) (hv : stOk 4 tag.data.toList attr.data.toList seen = true) (w : World) :
    Calls Try.prog 124 #[.agg #[.int .i64 4, .string tag, .string attr, .bool seen], .int .u8 (b.toNat : Int)] w fun e w' => e = .returned (stV (step 4 tag.data.toList attr.data.toList seen b)) ∧ Below w.heap.size w w' := by
  have HT := Lib.hid ht
  have HA := Lib.hid ha
  clear ht ha
  obtain ⟨hs1, hs2⟩ := stOk_sizes hv
  have i1 : inB 4 2 8 = true := rfl
  have ER : step 4 tag.data.toList attr.data.toList seen b = tagSt 4 tag.data.toList attr.data.toList b := by simp [step, hv]
  rw [ER]; clear ER
  go_enter Try.func124, Try.ntmps124
  go_wp2_with fail
  refine (stateValid_s _ tag attr seen HT.out HA.out _).mono ?_
  rintro e w1 ⟨rfl, hb⟩
  have HB := Lib.hid (below_call ((((Below.refl w.heap.size w).alloc (Nat.le_refl _) _).alloc (by first | omega | (simp; done) | (simp; omega)) _).alloc (by first | omega | (simp; done) | (simp; omega)) _) hb (by first | omega | (simp; done) | (simp; omega)))
  have hbs := hb.size
  have C0 := ((((Blk.new w 43 #[.int .i64 4, .string tag, .string attr, .bool seen] rfl).alloc _).alloc _).below hb (by first | omega | (simp; done) | (simp; omega))).c4
  have B1 := (((Blk.new (w.alloc _) 43 #[.int .i64 0, .string ⟨#[]⟩, .string ⟨#[]⟩, .bool false] (g := w.heap.size + 1) (by simp)).alloc _).below hb (by first | omega | (simp; done) | (simp; omega)))
  have C2 := ((Blk.new ((w.alloc _).alloc _) 43 #[.int .i64 15, .string ⟨#[]⟩, .string ⟨#[]⟩, .bool false] (g := w.heap.size + 1 + 1) (by simp)).below hb (by first | omega | (simp; done) | (simp; omega))).c4
  have C1 := B1.c4
  have HB1 := Lib.hid B1
  clear hb B1
  simp at hbs
  go_wp2_with (first | (go_at_call 143; refine (l5Name_any _ _).mono ?_; rintro e w' ⟨rfl, rfl⟩) | (go_at_call 120; refine (l1Letter_any _ _).mono ?_; rintro e w' ⟨rfl, rfl⟩) | (go_at_call 90; refine (l1In_any _ _ _ _).mono ?_; rintro e w' ⟨rfl, rfl⟩))
  refine (l5Tag_4 tag attr seen b (by omega) (by omega) _).mono ?_
  rintro e w2 ⟨rfl, hb⟩
  have HB2 := Lib.hid (below_call HB.out hb (by first | omega | (simp; done) | (simp; omega)))
  have hbs2 := hb.size
  skip
  have C1' := (HB1.out.below hb (by first | omega | (simp; done) | (simp; omega))).c4
  clear hb C0 C1 C2 HB HB1
  generalize hR : tagSt 4 tag.data.toList attr.data.toList b = R
  obtain ⟨r0, r1, r2, r3⟩ := R
  simp only [stV] at *
  have HR := Lib.hid hR
  clear hR
  go_wp2_with fail
  refine bodyPost_ret (v := .agg #[.int .i64 r0, .string ⟨r1.toArray⟩, .string ⟨r2.toArray⟩, .bool r3]) (by simp [results, Try.results124, go_sem, C1']) rfl ⟨by rw [HR.out]; rfl, ?_⟩
  repeat (first | exact HB2.out | refine Below.setCell ?_ (by first | omega | (simp; done) | (simp; omega)) _ | refine Below.alloc ?_ (by first | omega | (simp; done) | (simp; omega)) _ | refine Below.drew ?_)


set_option maxHeartbeats 8000000 in
theorem stepState_s_5 (tag attr : ByteArray) (seen : Bool) (b : UInt8) (ht : tag.size ≤ maxLen) (ha : attr.size ≤ maxLen) (hv : stOk 5 tag.data.toList attr.data.toList seen = true) (w : World) :
    Calls Try.prog 124 #[.agg #[.int .i64 5, .string tag, .string attr, .bool seen], .int .u8 (b.toNat : Int)] w fun e w' => e = .returned (stV (step 5 tag.data.toList attr.data.toList seen b)) ∧ Below w.heap.size w w' := by
  have HT := Lib.hid ht
  have HA := Lib.hid ha
  clear ht ha
  obtain ⟨hs1, hs2⟩ := stOk_sizes hv
  have i1 : inB 5 2 8 = true := rfl
  have ER : step 5 tag.data.toList attr.data.toList seen b = tagSt 5 tag.data.toList attr.data.toList b := by simp [step, hv]
  rw [ER]; clear ER
  go_enter Try.func124, Try.ntmps124
  go_wp2_with fail
  refine (stateValid_s _ tag attr seen HT.out HA.out _).mono ?_
  rintro e w1 ⟨rfl, hb⟩
  have HB := Lib.hid (below_call ((((Below.refl w.heap.size w).alloc (Nat.le_refl _) _).alloc (by first | omega | (simp; done) | (simp; omega)) _).alloc (by first | omega | (simp; done) | (simp; omega)) _) hb (by first | omega | (simp; done) | (simp; omega)))
  have hbs := hb.size
  have C0 := ((((Blk.new w 43 #[.int .i64 5, .string tag, .string attr, .bool seen] rfl).alloc _).alloc _).below hb (by first | omega | (simp; done) | (simp; omega))).c4
  have B1 := (((Blk.new (w.alloc _) 43 #[.int .i64 0, .string ⟨#[]⟩, .string ⟨#[]⟩, .bool false] (g := w.heap.size + 1) (by simp)).alloc _).below hb (by first | omega | (simp; done) | (simp; omega)))
  have C2 := ((Blk.new ((w.alloc _).alloc _) 43 #[.int .i64 15, .string ⟨#[]⟩, .string ⟨#[]⟩, .bool false] (g := w.heap.size + 1 + 1) (by simp)).below hb (by first | omega | (simp; done) | (simp; omega))).c4
  have C1 := B1.c4
  have HB1 := Lib.hid B1
  clear hb B1
  simp at hbs
  go_wp2_with (first | (go_at_call 143; refine (l5Name_any _ _).mono ?_; rintro e w' ⟨rfl, rfl⟩) | (go_at_call 120; refine (l1Letter_any _ _).mono ?_; rintro e w' ⟨rfl, rfl⟩) | (go_at_call 90; refine (l1In_any _ _ _ _).mono ?_; rintro e w' ⟨rfl, rfl⟩))
  refine (l5Tag_5 tag attr seen b (by omega) (by omega) _).mono ?_
  rintro e w2 ⟨rfl, hb⟩
  have HB2 := Lib.hid (below_call HB.out hb (by first | omega | (simp; done) | (simp; omega)))
  have hbs2 := hb.size
  skip
  have C1' := (HB1.out.below hb (by first | omega | (simp; done) | (simp; omega))).c4
  clear hb C0 C1 C2 HB HB1
  generalize hR : tagSt 5 tag.data.toList attr.data.toList b = R
  obtain ⟨r0, r1, r2, r3⟩ := R
  simp only [stV] at *
  have HR := Lib.hid hR
  clear hR
  go_wp2_with fail
  refine bodyPost_ret (v := .agg #[.int .i64 r0, .string ⟨r1.toArray⟩, .string ⟨r2.toArray⟩, .bool r3]) (by simp [results, Try.results124, go_sem, C1']) rfl ⟨by rw [HR.out]; rfl, ?_⟩
  repeat (first | exact HB2.out | refine Below.setCell ?_ (by first | omega | (simp; done) | (simp; omega)) _ | refine Below.alloc ?_ (by first | omega | (simp; done) | (simp; omega)) _ | refine Below.drew ?_)


set_option maxHeartbeats 8000000 in
theorem stepState_s_8 (tag attr : ByteArray) (seen : Bool) (b : UInt8) (ht : tag.size ≤ maxLen) (ha : attr.size ≤ maxLen) (hv : stOk 8 tag.data.toList attr.data.toList seen = true) (w : World) :
    Calls Try.prog 124 #[.agg #[.int .i64 8, .string tag, .string attr, .bool seen], .int .u8 (b.toNat : Int)] w fun e w' => e = .returned (stV (step 8 tag.data.toList attr.data.toList seen b)) ∧ Below w.heap.size w w' := by
  have HT := Lib.hid ht
  have HA := Lib.hid ha
  clear ht ha
  obtain ⟨hs1, hs2⟩ := stOk_sizes hv
  have i1 : inB 8 2 8 = true := rfl
  have ER : step 8 tag.data.toList attr.data.toList seen b = tagSt 8 tag.data.toList attr.data.toList b := by simp [step, hv]
  rw [ER]; clear ER
  go_enter Try.func124, Try.ntmps124
  go_wp2_with fail
  refine (stateValid_s _ tag attr seen HT.out HA.out _).mono ?_
  rintro e w1 ⟨rfl, hb⟩
  have HB := Lib.hid (below_call ((((Below.refl w.heap.size w).alloc (Nat.le_refl _) _).alloc (by first | omega | (simp; done) | (simp; omega)) _).alloc (by first | omega | (simp; done) | (simp; omega)) _) hb (by first | omega | (simp; done) | (simp; omega)))
  have hbs := hb.size
  have C0 := ((((Blk.new w 43 #[.int .i64 8, .string tag, .string attr, .bool seen] rfl).alloc _).alloc _).below hb (by first | omega | (simp; done) | (simp; omega))).c4
  have B1 := (((Blk.new (w.alloc _) 43 #[.int .i64 0, .string ⟨#[]⟩, .string ⟨#[]⟩, .bool false] (g := w.heap.size + 1) (by simp)).alloc _).below hb (by first | omega | (simp; done) | (simp; omega)))
  have C2 := ((Blk.new ((w.alloc _).alloc _) 43 #[.int .i64 15, .string ⟨#[]⟩, .string ⟨#[]⟩, .bool false] (g := w.heap.size + 1 + 1) (by simp)).below hb (by first | omega | (simp; done) | (simp; omega))).c4
  have C1 := B1.c4
  have HB1 := Lib.hid B1
  clear hb B1
  simp at hbs
  go_wp2_with (first | (go_at_call 143; refine (l5Name_any _ _).mono ?_; rintro e w' ⟨rfl, rfl⟩) | (go_at_call 120; refine (l1Letter_any _ _).mono ?_; rintro e w' ⟨rfl, rfl⟩) | (go_at_call 90; refine (l1In_any _ _ _ _).mono ?_; rintro e w' ⟨rfl, rfl⟩))
  refine (l5Tag_8 tag attr seen b (by omega) (by omega) _).mono ?_
  rintro e w2 ⟨rfl, hb⟩
  have HB2 := Lib.hid (below_call HB.out hb (by first | omega | (simp; done) | (simp; omega)))
  have hbs2 := hb.size
  skip
  have C1' := (HB1.out.below hb (by first | omega | (simp; done) | (simp; omega))).c4
  clear hb C0 C1 C2 HB HB1
  generalize hR : tagSt 8 tag.data.toList attr.data.toList b = R
  obtain ⟨r0, r1, r2, r3⟩ := R
  simp only [stV] at *
  have HR := Lib.hid hR
  clear hR
  go_wp2_with fail
  refine bodyPost_ret (v := .agg #[.int .i64 r0, .string ⟨r1.toArray⟩, .string ⟨r2.toArray⟩, .bool r3]) (by simp [results, Try.results124, go_sem, C1']) rfl ⟨by rw [HR.out]; rfl, ?_⟩
  repeat (first | exact HB2.out | refine Below.setCell ?_ (by first | omega | (simp; done) | (simp; omega)) _ | refine Below.alloc ?_ (by first | omega | (simp; done) | (simp; omega)) _ | refine Below.drew ?_)


end Go.Proofs.Ytdehpafflbhadaa
