/- The reference's step (WT3c). Printed by gen_step.py. -/
import Derived.Test.YtdehpafflbhadaaWT3
namespace Go.Proofs.Ytdehpafflbhadaa
set_option maxRecDepth 100000
set_option linter.unusedVariables false
set_option linter.unusedSimpArgs false
open Go.RowKit

set_option maxHeartbeats 8000000 in
theorem stepState_s_11 (tag attr : ByteArray) (seen : Bool) (b : UInt8) (ht : tag.size ≤ maxLen) (ha : attr.size ≤ maxLen) (hv : stOk 11 tag.data.toList attr.data.toList seen = true) (w : World) :
    Calls Try.prog 124 #[.agg #[.int .i64 11, .string tag, .string attr, .bool seen], .int .u8 (b.toNat : Int)] w fun e w' => e = .returned (stV (step 11 tag.data.toList attr.data.toList seen b)) ∧ Below w.heap.size w w' := by
  have HT := Lib.hid ht
  have HA := Lib.hid ha
  clear ht ha
  have i1 : inB 11 2 8 = false := rfl
  have i2 : inB 11 11 14 = true := rfl
  have ER : step 11 tag.data.toList attr.data.toList seen b = scriptSt 11 b := by simp [step, hv]
  rw [ER]; clear ER
  go_enter Try.func124, Try.ntmps124
  go_wp2_with fail
  refine (stateValid_s _ tag attr seen HT.out HA.out _).mono ?_
  rintro e w1 ⟨rfl, hb⟩
  have HB := Lib.hid (below_call ((((Below.refl w.heap.size w).alloc (Nat.le_refl _) _).alloc (by first | omega | (simp; done) | (simp; omega)) _).alloc (by first | omega | (simp; done) | (simp; omega)) _) hb (by first | omega | (simp; done) | (simp; omega)))
  have hbs := hb.size
  have C0 := ((((Blk.new w 43 #[.int .i64 11, .string tag, .string attr, .bool seen] rfl).alloc _).alloc _).below hb (by first | omega | (simp; done) | (simp; omega))).c4
  have B1 := (((Blk.new (w.alloc _) 43 #[.int .i64 0, .string ⟨#[]⟩, .string ⟨#[]⟩, .bool false] (g := w.heap.size + 1) (by simp)).alloc _).below hb (by first | omega | (simp; done) | (simp; omega)))
  have C2 := ((Blk.new ((w.alloc _).alloc _) 43 #[.int .i64 15, .string ⟨#[]⟩, .string ⟨#[]⟩, .bool false] (g := w.heap.size + 1 + 1) (by simp)).below hb (by first | omega | (simp; done) | (simp; omega))).c4
  have C1 := B1.c4
  have HB1 := Lib.hid B1
  clear hb B1
  simp at hbs
  go_wp2_with (first | (go_at_call 143; refine (l5Name_any _ _).mono ?_; rintro e w' ⟨rfl, rfl⟩) | (go_at_call 120; refine (l1Letter_any _ _).mono ?_; rintro e w' ⟨rfl, rfl⟩) | (go_at_call 90; refine (l1In_any _ _ _ _).mono ?_; rintro e w' ⟨rfl, rfl⟩))
  refine (l5Script_11 tag attr seen b _).mono ?_
  rintro e w2 ⟨rfl, hb⟩
  have HB2 := Lib.hid (below_call HB.out hb (by first | omega | (simp; done) | (simp; omega)))
  have hbs2 := hb.size
  skip
  have C1' := (HB1.out.below hb (by first | omega | (simp; done) | (simp; omega))).c4
  clear hb C0 C1 C2 HB HB1
  generalize hR : scriptSt 11 b = R
  obtain ⟨r0, r1, r2, r3⟩ := R
  simp only [stV] at *
  have HR := Lib.hid hR
  clear hR
  go_wp2_with fail
  refine bodyPost_ret (v := .agg #[.int .i64 r0, .string ⟨r1.toArray⟩, .string ⟨r2.toArray⟩, .bool r3]) (by simp [results, Try.results124, go_sem, C1']) rfl ⟨by rw [HR.out]; rfl, ?_⟩
  repeat (first | exact HB2.out | refine Below.setCell ?_ (by first | omega | (simp; done) | (simp; omega)) _ | refine Below.alloc ?_ (by first | omega | (simp; done) | (simp; omega)) _ | refine Below.drew ?_)


set_option maxHeartbeats 8000000 in
theorem stepState_s_12 (tag attr : ByteArray) (seen : Bool) (b : UInt8) (ht : tag.size ≤ maxLen) (ha : attr.size ≤ maxLen) (hv : stOk 12 tag.data.toList attr.data.toList seen = true) (w : World) :
    Calls Try.prog 124 #[.agg #[.int .i64 12, .string tag, .string attr, .bool seen], .int .u8 (b.toNat : Int)] w fun e w' => e = .returned (stV (step 12 tag.data.toList attr.data.toList seen b)) ∧ Below w.heap.size w w' := by
  have HT := Lib.hid ht
  have HA := Lib.hid ha
  clear ht ha
  have i1 : inB 12 2 8 = false := rfl
  have i2 : inB 12 11 14 = true := rfl
  have ER : step 12 tag.data.toList attr.data.toList seen b = scriptSt 12 b := by simp [step, hv]
  rw [ER]; clear ER
  go_enter Try.func124, Try.ntmps124
  go_wp2_with fail
  refine (stateValid_s _ tag attr seen HT.out HA.out _).mono ?_
  rintro e w1 ⟨rfl, hb⟩
  have HB := Lib.hid (below_call ((((Below.refl w.heap.size w).alloc (Nat.le_refl _) _).alloc (by first | omega | (simp; done) | (simp; omega)) _).alloc (by first | omega | (simp; done) | (simp; omega)) _) hb (by first | omega | (simp; done) | (simp; omega)))
  have hbs := hb.size
  have C0 := ((((Blk.new w 43 #[.int .i64 12, .string tag, .string attr, .bool seen] rfl).alloc _).alloc _).below hb (by first | omega | (simp; done) | (simp; omega))).c4
  have B1 := (((Blk.new (w.alloc _) 43 #[.int .i64 0, .string ⟨#[]⟩, .string ⟨#[]⟩, .bool false] (g := w.heap.size + 1) (by simp)).alloc _).below hb (by first | omega | (simp; done) | (simp; omega)))
  have C2 := ((Blk.new ((w.alloc _).alloc _) 43 #[.int .i64 15, .string ⟨#[]⟩, .string ⟨#[]⟩, .bool false] (g := w.heap.size + 1 + 1) (by simp)).below hb (by first | omega | (simp; done) | (simp; omega))).c4
  have C1 := B1.c4
  have HB1 := Lib.hid B1
  clear hb B1
  simp at hbs
  go_wp2_with (first | (go_at_call 143; refine (l5Name_any _ _).mono ?_; rintro e w' ⟨rfl, rfl⟩) | (go_at_call 120; refine (l1Letter_any _ _).mono ?_; rintro e w' ⟨rfl, rfl⟩) | (go_at_call 90; refine (l1In_any _ _ _ _).mono ?_; rintro e w' ⟨rfl, rfl⟩))
  refine (l5Script_12 tag attr seen b _).mono ?_
  rintro e w2 ⟨rfl, hb⟩
  have HB2 := Lib.hid (below_call HB.out hb (by first | omega | (simp; done) | (simp; omega)))
  have hbs2 := hb.size
  skip
  have C1' := (HB1.out.below hb (by first | omega | (simp; done) | (simp; omega))).c4
  clear hb C0 C1 C2 HB HB1
  generalize hR : scriptSt 12 b = R
  obtain ⟨r0, r1, r2, r3⟩ := R
  simp only [stV] at *
  have HR := Lib.hid hR
  clear hR
  go_wp2_with fail
  refine bodyPost_ret (v := .agg #[.int .i64 r0, .string ⟨r1.toArray⟩, .string ⟨r2.toArray⟩, .bool r3]) (by simp [results, Try.results124, go_sem, C1']) rfl ⟨by rw [HR.out]; rfl, ?_⟩
  repeat (first | exact HB2.out | refine Below.setCell ?_ (by first | omega | (simp; done) | (simp; omega)) _ | refine Below.alloc ?_ (by first | omega | (simp; done) | (simp; omega)) _ | refine Below.drew ?_)


set_option maxHeartbeats 8000000 in
theorem stepState_s_13 (tag attr : ByteArray) (seen : Bool) (b : UInt8) (ht : tag.size ≤ maxLen) (ha : attr.size ≤ maxLen) (hv : stOk 13 tag.data.toList attr.data.toList seen = true) (w : World) :
    Calls Try.prog 124 #[.agg #[.int .i64 13, .string tag, .string attr, .bool seen], .int .u8 (b.toNat : Int)] w fun e w' => e = .returned (stV (step 13 tag.data.toList attr.data.toList seen b)) ∧ Below w.heap.size w w' := by
  have HT := Lib.hid ht
  have HA := Lib.hid ha
  clear ht ha
  have i1 : inB 13 2 8 = false := rfl
  have i2 : inB 13 11 14 = true := rfl
  have ER : step 13 tag.data.toList attr.data.toList seen b = scriptSt 13 b := by simp [step, hv]
  rw [ER]; clear ER
  go_enter Try.func124, Try.ntmps124
  go_wp2_with fail
  refine (stateValid_s _ tag attr seen HT.out HA.out _).mono ?_
  rintro e w1 ⟨rfl, hb⟩
  have HB := Lib.hid (below_call ((((Below.refl w.heap.size w).alloc (Nat.le_refl _) _).alloc (by first | omega | (simp; done) | (simp; omega)) _).alloc (by first | omega | (simp; done) | (simp; omega)) _) hb (by first | omega | (simp; done) | (simp; omega)))
  have hbs := hb.size
  have C0 := ((((Blk.new w 43 #[.int .i64 13, .string tag, .string attr, .bool seen] rfl).alloc _).alloc _).below hb (by first | omega | (simp; done) | (simp; omega))).c4
  have B1 := (((Blk.new (w.alloc _) 43 #[.int .i64 0, .string ⟨#[]⟩, .string ⟨#[]⟩, .bool false] (g := w.heap.size + 1) (by simp)).alloc _).below hb (by first | omega | (simp; done) | (simp; omega)))
  have C2 := ((Blk.new ((w.alloc _).alloc _) 43 #[.int .i64 15, .string ⟨#[]⟩, .string ⟨#[]⟩, .bool false] (g := w.heap.size + 1 + 1) (by simp)).below hb (by first | omega | (simp; done) | (simp; omega))).c4
  have C1 := B1.c4
  have HB1 := Lib.hid B1
  clear hb B1
  simp at hbs
  go_wp2_with (first | (go_at_call 143; refine (l5Name_any _ _).mono ?_; rintro e w' ⟨rfl, rfl⟩) | (go_at_call 120; refine (l1Letter_any _ _).mono ?_; rintro e w' ⟨rfl, rfl⟩) | (go_at_call 90; refine (l1In_any _ _ _ _).mono ?_; rintro e w' ⟨rfl, rfl⟩))
  refine (l5Script_13 tag attr seen b _).mono ?_
  rintro e w2 ⟨rfl, hb⟩
  have HB2 := Lib.hid (below_call HB.out hb (by first | omega | (simp; done) | (simp; omega)))
  have hbs2 := hb.size
  skip
  have C1' := (HB1.out.below hb (by first | omega | (simp; done) | (simp; omega))).c4
  clear hb C0 C1 C2 HB HB1
  generalize hR : scriptSt 13 b = R
  obtain ⟨r0, r1, r2, r3⟩ := R
  simp only [stV] at *
  have HR := Lib.hid hR
  clear hR
  go_wp2_with fail
  refine bodyPost_ret (v := .agg #[.int .i64 r0, .string ⟨r1.toArray⟩, .string ⟨r2.toArray⟩, .bool r3]) (by simp [results, Try.results124, go_sem, C1']) rfl ⟨by rw [HR.out]; rfl, ?_⟩
  repeat (first | exact HB2.out | refine Below.setCell ?_ (by first | omega | (simp; done) | (simp; omega)) _ | refine Below.alloc ?_ (by first | omega | (simp; done) | (simp; omega)) _ | refine Below.drew ?_)


set_option maxHeartbeats 8000000 in
theorem stepState_s_14 (tag attr : ByteArray) (seen : Bool) (b : UInt8) (ht : tag.size ≤ maxLen) (ha : attr.size ≤ maxLen) (hv : stOk 14 tag.data.toList attr.data.toList seen = true) (w : World) :
    Calls Try.prog 124 #[.agg #[.int .i64 14, .string tag, .string attr, .bool seen], .int .u8 (b.toNat : Int)] w fun e w' => e = .returned (stV (step 14 tag.data.toList attr.data.toList seen b)) ∧ Below w.heap.size w w' := by
  have HT := Lib.hid ht
  have HA := Lib.hid ha
  clear ht ha
  have i1 : inB 14 2 8 = false := rfl
  have i2 : inB 14 11 14 = true := rfl
  have ER : step 14 tag.data.toList attr.data.toList seen b = scriptSt 14 b := by simp [step, hv]
  rw [ER]; clear ER
  go_enter Try.func124, Try.ntmps124
  go_wp2_with fail
  refine (stateValid_s _ tag attr seen HT.out HA.out _).mono ?_
  rintro e w1 ⟨rfl, hb⟩
  have HB := Lib.hid (below_call ((((Below.refl w.heap.size w).alloc (Nat.le_refl _) _).alloc (by first | omega | (simp; done) | (simp; omega)) _).alloc (by first | omega | (simp; done) | (simp; omega)) _) hb (by first | omega | (simp; done) | (simp; omega)))
  have hbs := hb.size
  have C0 := ((((Blk.new w 43 #[.int .i64 14, .string tag, .string attr, .bool seen] rfl).alloc _).alloc _).below hb (by first | omega | (simp; done) | (simp; omega))).c4
  have B1 := (((Blk.new (w.alloc _) 43 #[.int .i64 0, .string ⟨#[]⟩, .string ⟨#[]⟩, .bool false] (g := w.heap.size + 1) (by simp)).alloc _).below hb (by first | omega | (simp; done) | (simp; omega)))
  have C2 := ((Blk.new ((w.alloc _).alloc _) 43 #[.int .i64 15, .string ⟨#[]⟩, .string ⟨#[]⟩, .bool false] (g := w.heap.size + 1 + 1) (by simp)).below hb (by first | omega | (simp; done) | (simp; omega))).c4
  have C1 := B1.c4
  have HB1 := Lib.hid B1
  clear hb B1
  simp at hbs
  go_wp2_with (first | (go_at_call 143; refine (l5Name_any _ _).mono ?_; rintro e w' ⟨rfl, rfl⟩) | (go_at_call 120; refine (l1Letter_any _ _).mono ?_; rintro e w' ⟨rfl, rfl⟩) | (go_at_call 90; refine (l1In_any _ _ _ _).mono ?_; rintro e w' ⟨rfl, rfl⟩))
  refine (l5Script_14 tag attr seen b _).mono ?_
  rintro e w2 ⟨rfl, hb⟩
  have HB2 := Lib.hid (below_call HB.out hb (by first | omega | (simp; done) | (simp; omega)))
  have hbs2 := hb.size
  skip
  have C1' := (HB1.out.below hb (by first | omega | (simp; done) | (simp; omega))).c4
  clear hb C0 C1 C2 HB HB1
  generalize hR : scriptSt 14 b = R
  obtain ⟨r0, r1, r2, r3⟩ := R
  simp only [stV] at *
  have HR := Lib.hid hR
  clear hR
  go_wp2_with fail
  refine bodyPost_ret (v := .agg #[.int .i64 r0, .string ⟨r1.toArray⟩, .string ⟨r2.toArray⟩, .bool r3]) (by simp [results, Try.results124, go_sem, C1']) rfl ⟨by rw [HR.out]; rfl, ?_⟩
  repeat (first | exact HB2.out | refine Below.setCell ?_ (by first | omega | (simp; done) | (simp; omega)) _ | refine Below.alloc ?_ (by first | omega | (simp; done) | (simp; omega)) _ | refine Below.drew ?_)


set_option maxHeartbeats 8000000 in
theorem stepState_s_9 (tag attr : ByteArray) (seen : Bool) (b : UInt8) (ht : tag.size ≤ maxLen) (ha : attr.size ≤ maxLen) (hv : stOk 9 tag.data.toList attr.data.toList seen = true) (w : World) :
    Calls Try.prog 124 #[.agg #[.int .i64 9, .string tag, .string attr, .bool seen], .int .u8 (b.toNat : Int)] w fun e w' => e = .returned (stV (step 9 tag.data.toList attr.data.toList seen b)) ∧ Below w.heap.size w w' := by
  have HT := Lib.hid ht
  have HA := Lib.hid ha
  clear ht ha
  obtain ⟨hs1, hs2⟩ := stOk_sizes hv
  have i1 : inB 9 2 8 = false := rfl
  have i2 : inB 9 11 14 = false := rfl
  have hcv := conv1 (P := Try.prog) Try.underlying55 Try.underlying5 Try.underlying9 b _ rfl
  by_cases ht : tag.toList = []
  · have ht' : tag.data.toList = [] := by rw [← toList_data]; exact ht
    have hte : tag.toList.isEmpty = true := by rw [ht]; rfl
    cases hl : letN b.toNat with
    | true =>
      have ER : step 9 tag.data.toList attr.data.toList seen b = moreSt 9 tag.data.toList [] [b] := by simp [step, hv, hl]
      rw [ER]; clear ER
      clear ht'
      go_enter Try.func124, Try.ntmps124
      go_wp2_with fail
      refine (stateValid_s _ tag attr seen HT.out HA.out _).mono ?_
      rintro e w1 ⟨rfl, hb⟩
      have HB := Lib.hid (below_call ((((Below.refl w.heap.size w).alloc (Nat.le_refl _) _).alloc (by first | omega | (simp; done) | (simp; omega)) _).alloc (by first | omega | (simp; done) | (simp; omega)) _) hb (by first | omega | (simp; done) | (simp; omega)))
      have hbs := hb.size
      have C0 := ((((Blk.new w 43 #[.int .i64 9, .string tag, .string attr, .bool seen] rfl).alloc _).alloc _).below hb (by first | omega | (simp; done) | (simp; omega))).c4
      have B1 := (((Blk.new (w.alloc _) 43 #[.int .i64 0, .string ⟨#[]⟩, .string ⟨#[]⟩, .bool false] (g := w.heap.size + 1) (by simp)).alloc _).below hb (by first | omega | (simp; done) | (simp; omega)))
      have C2 := ((Blk.new ((w.alloc _).alloc _) 43 #[.int .i64 15, .string ⟨#[]⟩, .string ⟨#[]⟩, .bool false] (g := w.heap.size + 1 + 1) (by simp)).below hb (by first | omega | (simp; done) | (simp; omega))).c4
      have C1 := B1.c4
      have HB1 := Lib.hid B1
      clear hb B1
      simp at hbs
      go_wp2_with (first | (go_at_call 143; refine (l5Name_any _ _).mono ?_; rintro e w' ⟨rfl, rfl⟩) | (go_at_call 120; refine (l1Letter_any _ _).mono ?_; rintro e w' ⟨rfl, rfl⟩) | (go_at_call 90; refine (l1In_any _ _ _ _).mono ?_; rintro e w' ⟨rfl, rfl⟩))
      refine (l5More_any _ tag ⟨#[]⟩ ⟨#[b]⟩ (by omega) (by show 0 ≤ 1000; omega) (by show 1 ≤ 1000; omega) _).mono ?_
      rintro e w2 ⟨rfl, hb⟩
      have HB2 := Lib.hid (below_call (HB.out.alloc (by first | omega | (simp; done) | (simp; omega)) _) hb (by first | omega | (simp; done) | (simp; omega)))
      have hbs2 := hb.size
      simp at hbs2
      have C1' := ((HB1.out.alloc _).below hb (by first | omega | (simp; done) | (simp; omega))).c4
      clear hb C0 C1 C2 HB HB1
      generalize hR : moreSt 9 tag.data.toList [] [b] = R
      obtain ⟨r0, r1, r2, r3⟩ := R
      simp only [stV] at *
      have HR := Lib.hid hR
      clear hR
      go_wp2_with fail
      refine bodyPost_ret (v := .agg #[.int .i64 r0, .string ⟨r1.toArray⟩, .string ⟨r2.toArray⟩, .bool r3]) (by simp [results, Try.results124, go_sem, C1']) rfl ⟨by rw [HR.out]; rfl, ?_⟩
      repeat (first | exact HB2.out | refine Below.setCell ?_ (by first | omega | (simp; done) | (simp; omega)) _ | refine Below.alloc ?_ (by first | omega | (simp; done) | (simp; omega)) _ | refine Below.drew ?_)
    | false =>
      have ER : step 9 tag.data.toList attr.data.toList seen b = St.bad := by simp [step, hv, hl, ht']
      rw [ER]; clear ER
      clear ht'
      go_enter Try.func124, Try.ntmps124
      go_wp2_with fail
      refine (stateValid_s _ tag attr seen HT.out HA.out _).mono ?_
      rintro e w1 ⟨rfl, hb⟩
      have HB := Lib.hid (below_call ((((Below.refl w.heap.size w).alloc (Nat.le_refl _) _).alloc (by first | omega | (simp; done) | (simp; omega)) _).alloc (by first | omega | (simp; done) | (simp; omega)) _) hb (by first | omega | (simp; done) | (simp; omega)))
      have hbs := hb.size
      have C0 := ((((Blk.new w 43 #[.int .i64 9, .string tag, .string attr, .bool seen] rfl).alloc _).alloc _).below hb (by first | omega | (simp; done) | (simp; omega))).c4
      have B1 := (((Blk.new (w.alloc _) 43 #[.int .i64 0, .string ⟨#[]⟩, .string ⟨#[]⟩, .bool false] (g := w.heap.size + 1) (by simp)).alloc _).below hb (by first | omega | (simp; done) | (simp; omega)))
      have C2 := ((Blk.new ((w.alloc _).alloc _) 43 #[.int .i64 15, .string ⟨#[]⟩, .string ⟨#[]⟩, .bool false] (g := w.heap.size + 1 + 1) (by simp)).below hb (by first | omega | (simp; done) | (simp; omega))).c4
      have C1 := B1.c4
      have HB1 := Lib.hid B1
      clear hb B1
      simp at hbs
      go_wp2_with (first | (go_at_call 143; refine (l5Name_any _ _).mono ?_; rintro e w' ⟨rfl, rfl⟩) | (go_at_call 120; refine (l1Letter_any _ _).mono ?_; rintro e w' ⟨rfl, rfl⟩) | (go_at_call 90; refine (l1In_any _ _ _ _).mono ?_; rintro e w' ⟨rfl, rfl⟩))
      all_goals
        refine bodyPost_ret (v := .agg #[.int .i64 15, .string ⟨#[]⟩, .string ⟨#[]⟩, .bool false]) (by simp [results, Try.results124, go_sem, C1]) rfl ⟨by simp [stV, St.bad, ba_eta], ?_⟩
        repeat (first | exact HB.out | refine Below.setCell ?_ (by first | omega | (simp; done) | (simp; omega)) _ | refine Below.alloc ?_ (by first | omega | (simp; done) | (simp; omega)) _ | refine Below.drew ?_)
  · have ht' : ¬ tag.data.toList = [] := by rw [← toList_data]; exact ht
    have hte : tag.toList.isEmpty = false := by simp [ht]
    cases hl : letN b.toNat with
    | true =>
      have ER : step 9 tag.data.toList attr.data.toList seen b = moreSt 9 tag.data.toList [] [b] := by simp [step, hv, hl]
      rw [ER]; clear ER
      clear ht'
      go_enter Try.func124, Try.ntmps124
      go_wp2_with fail
      refine (stateValid_s _ tag attr seen HT.out HA.out _).mono ?_
      rintro e w1 ⟨rfl, hb⟩
      have HB := Lib.hid (below_call ((((Below.refl w.heap.size w).alloc (Nat.le_refl _) _).alloc (by first | omega | (simp; done) | (simp; omega)) _).alloc (by first | omega | (simp; done) | (simp; omega)) _) hb (by first | omega | (simp; done) | (simp; omega)))
      have hbs := hb.size
      have C0 := ((((Blk.new w 43 #[.int .i64 9, .string tag, .string attr, .bool seen] rfl).alloc _).alloc _).below hb (by first | omega | (simp; done) | (simp; omega))).c4
      have B1 := (((Blk.new (w.alloc _) 43 #[.int .i64 0, .string ⟨#[]⟩, .string ⟨#[]⟩, .bool false] (g := w.heap.size + 1) (by simp)).alloc _).below hb (by first | omega | (simp; done) | (simp; omega)))
      have C2 := ((Blk.new ((w.alloc _).alloc _) 43 #[.int .i64 15, .string ⟨#[]⟩, .string ⟨#[]⟩, .bool false] (g := w.heap.size + 1 + 1) (by simp)).below hb (by first | omega | (simp; done) | (simp; omega))).c4
      have C1 := B1.c4
      have HB1 := Lib.hid B1
      clear hb B1
      simp at hbs
      go_wp2_with (first | (go_at_call 143; refine (l5Name_any _ _).mono ?_; rintro e w' ⟨rfl, rfl⟩) | (go_at_call 120; refine (l1Letter_any _ _).mono ?_; rintro e w' ⟨rfl, rfl⟩) | (go_at_call 90; refine (l1In_any _ _ _ _).mono ?_; rintro e w' ⟨rfl, rfl⟩))
      refine (l5More_any _ tag ⟨#[]⟩ ⟨#[b]⟩ (by omega) (by show 0 ≤ 1000; omega) (by show 1 ≤ 1000; omega) _).mono ?_
      rintro e w2 ⟨rfl, hb⟩
      have HB2 := Lib.hid (below_call (HB.out.alloc (by first | omega | (simp; done) | (simp; omega)) _) hb (by first | omega | (simp; done) | (simp; omega)))
      have hbs2 := hb.size
      simp at hbs2
      have C1' := ((HB1.out.alloc _).below hb (by first | omega | (simp; done) | (simp; omega))).c4
      clear hb C0 C1 C2 HB HB1
      generalize hR : moreSt 9 tag.data.toList [] [b] = R
      obtain ⟨r0, r1, r2, r3⟩ := R
      simp only [stV] at *
      have HR := Lib.hid hR
      clear hR
      go_wp2_with fail
      refine bodyPost_ret (v := .agg #[.int .i64 r0, .string ⟨r1.toArray⟩, .string ⟨r2.toArray⟩, .bool r3]) (by simp [results, Try.results124, go_sem, C1']) rfl ⟨by rw [HR.out]; rfl, ?_⟩
      repeat (first | exact HB2.out | refine Below.setCell ?_ (by first | omega | (simp; done) | (simp; omega)) _ | refine Below.alloc ?_ (by first | omega | (simp; done) | (simp; omega)) _ | refine Below.drew ?_)
    | false =>
      cases hn : nameN b.toNat with
      | true =>
        have ER : step 9 tag.data.toList attr.data.toList seen b = moreSt 9 tag.data.toList [] [b] := by simp [step, hv, hl, hn, ht']
        rw [ER]; clear ER
        clear ht'
        go_enter Try.func124, Try.ntmps124
        go_wp2_with fail
        refine (stateValid_s _ tag attr seen HT.out HA.out _).mono ?_
        rintro e w1 ⟨rfl, hb⟩
        have HB := Lib.hid (below_call ((((Below.refl w.heap.size w).alloc (Nat.le_refl _) _).alloc (by first | omega | (simp; done) | (simp; omega)) _).alloc (by first | omega | (simp; done) | (simp; omega)) _) hb (by first | omega | (simp; done) | (simp; omega)))
        have hbs := hb.size
        have C0 := ((((Blk.new w 43 #[.int .i64 9, .string tag, .string attr, .bool seen] rfl).alloc _).alloc _).below hb (by first | omega | (simp; done) | (simp; omega))).c4
        have B1 := (((Blk.new (w.alloc _) 43 #[.int .i64 0, .string ⟨#[]⟩, .string ⟨#[]⟩, .bool false] (g := w.heap.size + 1) (by simp)).alloc _).below hb (by first | omega | (simp; done) | (simp; omega)))
        have C2 := ((Blk.new ((w.alloc _).alloc _) 43 #[.int .i64 15, .string ⟨#[]⟩, .string ⟨#[]⟩, .bool false] (g := w.heap.size + 1 + 1) (by simp)).below hb (by first | omega | (simp; done) | (simp; omega))).c4
        have C1 := B1.c4
        have HB1 := Lib.hid B1
        clear hb B1
        simp at hbs
        go_wp2_with (first | (go_at_call 143; refine (l5Name_any _ _).mono ?_; rintro e w' ⟨rfl, rfl⟩) | (go_at_call 120; refine (l1Letter_any _ _).mono ?_; rintro e w' ⟨rfl, rfl⟩) | (go_at_call 90; refine (l1In_any _ _ _ _).mono ?_; rintro e w' ⟨rfl, rfl⟩))
        refine (l5More_any _ tag ⟨#[]⟩ ⟨#[b]⟩ (by omega) (by show 0 ≤ 1000; omega) (by show 1 ≤ 1000; omega) _).mono ?_
        rintro e w2 ⟨rfl, hb⟩
        have HB2 := Lib.hid (below_call (HB.out.alloc (by first | omega | (simp; done) | (simp; omega)) _) hb (by first | omega | (simp; done) | (simp; omega)))
        have hbs2 := hb.size
        simp at hbs2
        have C1' := ((HB1.out.alloc _).below hb (by first | omega | (simp; done) | (simp; omega))).c4
        clear hb C0 C1 C2 HB HB1
        generalize hR : moreSt 9 tag.data.toList [] [b] = R
        obtain ⟨r0, r1, r2, r3⟩ := R
        simp only [stV] at *
        have HR := Lib.hid hR
        clear hR
        go_wp2_with fail
        refine bodyPost_ret (v := .agg #[.int .i64 r0, .string ⟨r1.toArray⟩, .string ⟨r2.toArray⟩, .bool r3]) (by simp [results, Try.results124, go_sem, C1']) rfl ⟨by rw [HR.out]; rfl, ?_⟩
        repeat (first | exact HB2.out | refine Below.setCell ?_ (by first | omega | (simp; done) | (simp; omega)) _ | refine Below.alloc ?_ (by first | omega | (simp; done) | (simp; omega)) _ | refine Below.drew ?_)
      | false =>
        by_cases h62 : b = 62
        · subst h62
          have q1 : nameN 62 = false := rfl
          have q2 : letN 62 = false := rfl
          have ER : step 9 tag.data.toList attr.data.toList seen (62 : UInt8) = ⟨0, [], [], false⟩ := by simp [step, hv, ht', q1, q2]
          rw [ER]; clear ER
          clear ht'
          go_enter Try.func124, Try.ntmps124
          go_wp2_with fail
          refine (stateValid_s _ tag attr seen HT.out HA.out _).mono ?_
          rintro e w1 ⟨rfl, hb⟩
          have HB := Lib.hid (below_call ((((Below.refl w.heap.size w).alloc (Nat.le_refl _) _).alloc (by first | omega | (simp; done) | (simp; omega)) _).alloc (by first | omega | (simp; done) | (simp; omega)) _) hb (by first | omega | (simp; done) | (simp; omega)))
          have hbs := hb.size
          have C0 := ((((Blk.new w 43 #[.int .i64 9, .string tag, .string attr, .bool seen] rfl).alloc _).alloc _).below hb (by first | omega | (simp; done) | (simp; omega))).c4
          have B1 := (((Blk.new (w.alloc _) 43 #[.int .i64 0, .string ⟨#[]⟩, .string ⟨#[]⟩, .bool false] (g := w.heap.size + 1) (by simp)).alloc _).below hb (by first | omega | (simp; done) | (simp; omega)))
          have C2 := ((Blk.new ((w.alloc _).alloc _) 43 #[.int .i64 15, .string ⟨#[]⟩, .string ⟨#[]⟩, .bool false] (g := w.heap.size + 1 + 1) (by simp)).below hb (by first | omega | (simp; done) | (simp; omega))).c4
          have C1 := B1.c4
          have HB1 := Lib.hid B1
          clear hb B1
          simp at hbs
          go_wp2_with (first | (go_at_call 143; refine (l5Name_any _ _).mono ?_; rintro e w' ⟨rfl, rfl⟩) | (go_at_call 120; refine (l1Letter_any _ _).mono ?_; rintro e w' ⟨rfl, rfl⟩) | (go_at_call 90; refine (l1In_any _ _ _ _).mono ?_; rintro e w' ⟨rfl, rfl⟩))
          refine bodyPost_ret (v := .agg #[.int .i64 0, .string ⟨#[]⟩, .string ⟨#[]⟩, .bool false]) (by simp [results, Try.results124, go_sem, C1]) rfl ⟨by simp [stV, St.bad, ba_eta], ?_⟩
          repeat (first | exact HB.out | refine Below.setCell ?_ (by first | omega | (simp; done) | (simp; omega)) _ | refine Below.alloc ?_ (by first | omega | (simp; done) | (simp; omega)) _ | refine Below.drew ?_)
        · have e62 : ((b.toNat : Int) == 62) = false := u8_ne (c := 62) h62
          have ER : step 9 tag.data.toList attr.data.toList seen b = St.bad := by simp [step, hv, hl, hn, h62, ht']
          rw [ER]; clear ER
          clear ht'
          go_enter Try.func124, Try.ntmps124
          go_wp2_with fail
          refine (stateValid_s _ tag attr seen HT.out HA.out _).mono ?_
          rintro e w1 ⟨rfl, hb⟩
          have HB := Lib.hid (below_call ((((Below.refl w.heap.size w).alloc (Nat.le_refl _) _).alloc (by first | omega | (simp; done) | (simp; omega)) _).alloc (by first | omega | (simp; done) | (simp; omega)) _) hb (by first | omega | (simp; done) | (simp; omega)))
          have hbs := hb.size
          have C0 := ((((Blk.new w 43 #[.int .i64 9, .string tag, .string attr, .bool seen] rfl).alloc _).alloc _).below hb (by first | omega | (simp; done) | (simp; omega))).c4
          have B1 := (((Blk.new (w.alloc _) 43 #[.int .i64 0, .string ⟨#[]⟩, .string ⟨#[]⟩, .bool false] (g := w.heap.size + 1) (by simp)).alloc _).below hb (by first | omega | (simp; done) | (simp; omega)))
          have C2 := ((Blk.new ((w.alloc _).alloc _) 43 #[.int .i64 15, .string ⟨#[]⟩, .string ⟨#[]⟩, .bool false] (g := w.heap.size + 1 + 1) (by simp)).below hb (by first | omega | (simp; done) | (simp; omega))).c4
          have C1 := B1.c4
          have HB1 := Lib.hid B1
          clear hb B1
          simp at hbs
          go_wp2_with (first | (go_at_call 143; refine (l5Name_any _ _).mono ?_; rintro e w' ⟨rfl, rfl⟩) | (go_at_call 120; refine (l1Letter_any _ _).mono ?_; rintro e w' ⟨rfl, rfl⟩) | (go_at_call 90; refine (l1In_any _ _ _ _).mono ?_; rintro e w' ⟨rfl, rfl⟩))
          refine bodyPost_ret (v := .agg #[.int .i64 15, .string ⟨#[]⟩, .string ⟨#[]⟩, .bool false]) (by simp [results, Try.results124, go_sem, C1]) rfl ⟨by simp [stV, St.bad, ba_eta], ?_⟩
          repeat (first | exact HB.out | refine Below.setCell ?_ (by first | omega | (simp; done) | (simp; omega)) _ | refine Below.alloc ?_ (by first | omega | (simp; done) | (simp; omega)) _ | refine Below.drew ?_)


end Go.Proofs.Ytdehpafflbhadaa
