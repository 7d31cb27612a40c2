/- The reference's step within a tag that opens. Printed by gen_l5tag.py. -/
import Derived.Test.YtdehpafflbhadaaWT
import Derived.Test.YtdehpafflbhadaaWB
namespace Go.Proofs.Ytdehpafflbhadaa
set_option maxRecDepth 100000
set_option linter.unusedVariables false
set_option linter.unusedSimpArgs false
open Go.RowKit

def bN (b : UInt8) : Int := (b.toNat : Int)

def tagSt (m : Int) (tag attr : List UInt8) (b : UInt8) : St :=
  if b = 62 ∧ m ≠ 5 then contentSt tag
  else if m = 2 ∧ nameN b.toNat = true then moreSt 2 tag [] [b]
  else if m = 4 ∧ nameN b.toNat = true then moreSt 4 tag attr [b]
  else if m = 3 ∧ letN b.toNat = true then moreSt 4 tag [] [b]
  else if b = 32 ∧ m ≠ 5 then ⟨3, tag, [], false⟩
  else if m = 4 ∧ b = 61 then ⟨5, tag, attr, false⟩
  else if m = 5 ∧ b = 34 then ⟨6, tag, attr, false⟩
  else if m = 5 ∧ b = 39 then ⟨7, tag, attr, false⟩
  else if (m = 5 ∨ m = 8) ∧ (nameN b.toNat = true ∨ b = 95 ∨ b = 46 ∨ b = 47 ∨ b = 58) then ⟨8, tag, attr, true⟩
  else St.bad

theorem u8_ne {b c : UInt8} (h : ¬ b = c) : ((b.toNat : Int) == (c.toNat : Int)) = false := by
  simp; intro h'; exact h (UInt8.toNat.inj (by omega))

/-- 'string([]byte{b})'. -/
theorem conv1 {P : Program} {src dst e : TypeId} (hs : P.underlying src = some (.slice e)) (he : P.underlying e = some (.int .u8)) (hd : P.underlying dst = some .string) (b : UInt8) (n : Int) (hn : n = (b.toNat : Int)) :
    ∀ (W : World) (g : Nat), W.heap.size = g → (convert src dst (.slice (some ⟨g, 0, none⟩) 1 1)).run P (W.alloc (.cells #[.int .u8 n] e)) = .ok (.string ⟨#[b]⟩) (W.alloc (.cells #[.int .u8 n] e)) := by
  intro W g hg
  subst hg hn
  refine run_convert_bytes_back _ src dst e ⟨W.heap.size, 0, none⟩ 1 [b] hs he hd (fun j hj => ?_)
  have hj0 : j = 0 := by simpa using hj
  subst hj0
  rw [show (⟨W.heap.size, 0, none⟩ : Addr).add 0 = ⟨W.heap.size, 0, none⟩ from rfl, World.cell?_alloc_mark]
  rfl


set_option maxHeartbeats 4000000 in
theorem l5Tag_2 (tag attr : ByteArray) (seen : Bool) (b : UInt8) (ht : tag.size ≤ 1000) (ha : attr.size ≤ 1000) (w : World) :
    Calls Try.prog 144 #[.agg #[.int .i64 2, .string tag, .string attr, .bool seen], .int .u8 (b.toNat : Int)] w fun e w' => e = .returned (stV (tagSt 2 tag.data.toList attr.data.toList b)) ∧ Below w.heap.size w w' := by
  have HT := Lib.hid ht
  have HA := Lib.hid ha
  clear ht ha
  have hcv := conv1 (P := Try.prog) Try.underlying55 Try.underlying5 Try.underlying9 b _ rfl
  by_cases h62 : b = 62
  · subst h62
    have q1 : nameN 62 = false := rfl
    have q2 : letN 62 = false := rfl
    have ER : tagSt 2 tag.data.toList attr.data.toList (62 : UInt8) = contentSt tag.data.toList := by simp [tagSt, q1, q2]
    rw [ER]; clear ER
    go_enter Try.func144, Try.ntmps144
    go_wp2_with (first | (go_at_call 143; refine (l5Name_any _ _).mono ?_; rintro e w' ⟨rfl, rfl⟩) | (go_at_call 120; refine (l1Letter_any _ _).mono ?_; rintro e w' ⟨rfl, rfl⟩))
    refine (l5Content_any tag _).mono ?_
    rintro e w1 ⟨rfl, hb⟩
    have HB := Lib.hid (below_call (((Below.refl w.heap.size w).alloc (Nat.le_refl _) _).alloc (by first | omega | (simp; done) | (simp; omega)) _) hb (by first | omega | (simp; done) | (simp; omega)))
    have hbs := hb.size
    have C0 := ((Blk.new (w.alloc _) 43 #[.int .i64 0, .string ⟨#[]⟩, .string ⟨#[]⟩, .bool false] (g := w.heap.size + 1) (by simp)).below hb (by first | omega | (simp; done) | (simp; omega))).c4
    clear hb
    simp at hbs
    generalize hR : contentSt tag.data.toList = R
    obtain ⟨r0, r1, r2, r3⟩ := R
    simp only [stV] at *
    have HR := Lib.hid hR
    clear hR
    go_wp2_with fail
    refine bodyPost_ret (v := .agg #[.int .i64 r0, .string ⟨r1.toArray⟩, .string ⟨r2.toArray⟩, .bool r3]) (by simp [results, Try.results144, go_sem, C0]) rfl ⟨by rw [HR.out]; rfl, ?_⟩
    repeat (first | exact HB.out | refine Below.setCell ?_ (by first | omega | (simp; done) | (simp; omega)) _ | refine Below.alloc ?_ (by first | omega | (simp; done) | (simp; omega)) _ | refine Below.drew ?_)
  by_cases h32 : b = 32
  · subst h32
    have q1 : nameN 32 = false := rfl
    have q2 : letN 32 = false := rfl
    have ER : tagSt 2 tag.data.toList attr.data.toList (32 : UInt8) = St.mk 3 tag.data.toList [] false := by simp [tagSt, q1, q2]
    rw [ER]; clear ER
    go_enter Try.func144, Try.ntmps144
    go_wp2_with (first | (go_at_call 143; refine (l5Name_any _ _).mono ?_; rintro e w' ⟨rfl, rfl⟩) | (go_at_call 120; refine (l1Letter_any _ _).mono ?_; rintro e w' ⟨rfl, rfl⟩))
    refine bodyPost_ret (v := .agg #[.int .i64 3, .string tag, .string ⟨#[]⟩, .bool false]) (by simp [results, Try.results144, go_sem]) rfl ⟨by simp [stV, St.bad, ba_eta], ?_⟩
    repeat (first | exact Below.refl _ _ | refine Below.setCell ?_ (by first | omega | (simp; done) | (simp; omega)) _ | refine Below.alloc ?_ (by first | omega | (simp; done) | (simp; omega)) _ | refine Below.drew ?_)
  have e62 : ((b.toNat : Int) == 62) = false := u8_ne (c := 62) h62
  have e32 : ((b.toNat : Int) == 32) = false := u8_ne (c := 32) h32
  cases hn : nameN b.toNat with
  | true =>
    have ER : tagSt 2 tag.data.toList attr.data.toList b = moreSt 2 tag.data.toList [] [b] := by simp [tagSt, h62, h32, hn]
    rw [ER]; clear ER
    go_enter Try.func144, Try.ntmps144
    go_wp2_with (first | (go_at_call 143; refine (l5Name_any _ _).mono ?_; rintro e w' ⟨rfl, rfl⟩) | (go_at_call 120; refine (l1Letter_any _ _).mono ?_; rintro e w' ⟨rfl, rfl⟩))
    refine (l5More_any _ tag ⟨#[]⟩ _ HT.out (by show 0 ≤ 1000; omega) (by show 1 ≤ 1000; omega) _).mono ?_
    rintro e w1 ⟨rfl, hb⟩
    have HB := Lib.hid (below_call ((((Below.refl w.heap.size w).alloc (Nat.le_refl _) _).alloc (by first | omega | (simp; done) | (simp; omega)) _).alloc (by first | omega | (simp; done) | (simp; omega)) _) hb (by first | omega | (simp; done) | (simp; omega)))
    have hbs := hb.size
    have C0 := (((Blk.new (w.alloc _) 43 #[.int .i64 0, .string ⟨#[]⟩, .string ⟨#[]⟩, .bool false] (g := w.heap.size + 1) (by simp)).alloc _).below hb (by first | omega | (simp; done) | (simp; omega))).c4
    clear hb
    simp at hbs
    generalize hR : moreSt 2 tag.data.toList [] [b] = R
    obtain ⟨r0, r1, r2, r3⟩ := R
    simp only [stV] at *
    have HR := Lib.hid hR
    clear hR
    go_wp2_with fail
    refine bodyPost_ret (v := .agg #[.int .i64 r0, .string ⟨r1.toArray⟩, .string ⟨r2.toArray⟩, .bool r3]) (by simp [results, Try.results144, go_sem, C0]) rfl ⟨by rw [HR.out]; rfl, ?_⟩
    repeat (first | exact HB.out | refine Below.setCell ?_ (by first | omega | (simp; done) | (simp; omega)) _ | refine Below.alloc ?_ (by first | omega | (simp; done) | (simp; omega)) _ | refine Below.drew ?_)
  | false =>
    have ER : tagSt 2 tag.data.toList attr.data.toList b = St.bad := by simp [tagSt, h62, h32, hn]
    rw [ER]; clear ER
    go_enter Try.func144, Try.ntmps144
    go_wp2_with (first | (go_at_call 143; refine (l5Name_any _ _).mono ?_; rintro e w' ⟨rfl, rfl⟩) | (go_at_call 120; refine (l1Letter_any _ _).mono ?_; rintro e w' ⟨rfl, rfl⟩))
    refine bodyPost_ret (v := .agg #[.int .i64 15, .string ⟨#[]⟩, .string ⟨#[]⟩, .bool false]) (by simp [results, Try.results144, go_sem]) rfl ⟨by simp [stV, St.bad, ba_eta], ?_⟩
    repeat (first | exact Below.refl _ _ | refine Below.setCell ?_ (by first | omega | (simp; done) | (simp; omega)) _ | refine Below.alloc ?_ (by first | omega | (simp; done) | (simp; omega)) _ | refine Below.drew ?_)

set_option maxHeartbeats 4000000 in
theorem l5Tag_3 (tag attr : ByteArray) (seen : Bool) (b : UInt8) (ht : tag.size ≤ 1000) (ha : attr.size ≤ 1000) (w : World) :
    Calls Try.prog 144 #[.agg #[.int .i64 3, .string tag, .string attr, .bool seen], .int .u8 (b.toNat : Int)] w fun e w' => e = .returned (stV (tagSt 3 tag.data.toList attr.data.toList b)) ∧ Below w.heap.size w w' := by
  have HT := Lib.hid ht
  have HA := Lib.hid ha
  clear ht ha
  have hcv := conv1 (P := Try.prog) Try.underlying55 Try.underlying5 Try.underlying9 b _ rfl
  by_cases h62 : b = 62
  · subst h62
    have q1 : nameN 62 = false := rfl
    have q2 : letN 62 = false := rfl
    have ER : tagSt 3 tag.data.toList attr.data.toList (62 : UInt8) = contentSt tag.data.toList := by simp [tagSt, q1, q2]
    rw [ER]; clear ER
    go_enter Try.func144, Try.ntmps144
    go_wp2_with (first | (go_at_call 143; refine (l5Name_any _ _).mono ?_; rintro e w' ⟨rfl, rfl⟩) | (go_at_call 120; refine (l1Letter_any _ _).mono ?_; rintro e w' ⟨rfl, rfl⟩))
    refine (l5Content_any tag _).mono ?_
    rintro e w1 ⟨rfl, hb⟩
    have HB := Lib.hid (below_call (((Below.refl w.heap.size w).alloc (Nat.le_refl _) _).alloc (by first | omega | (simp; done) | (simp; omega)) _) hb (by first | omega | (simp; done) | (simp; omega)))
    have hbs := hb.size
    have C0 := ((Blk.new (w.alloc _) 43 #[.int .i64 0, .string ⟨#[]⟩, .string ⟨#[]⟩, .bool false] (g := w.heap.size + 1) (by simp)).below hb (by first | omega | (simp; done) | (simp; omega))).c4
    clear hb
    simp at hbs
    generalize hR : contentSt tag.data.toList = R
    obtain ⟨r0, r1, r2, r3⟩ := R
    simp only [stV] at *
    have HR := Lib.hid hR
    clear hR
    go_wp2_with fail
    refine bodyPost_ret (v := .agg #[.int .i64 r0, .string ⟨r1.toArray⟩, .string ⟨r2.toArray⟩, .bool r3]) (by simp [results, Try.results144, go_sem, C0]) rfl ⟨by rw [HR.out]; rfl, ?_⟩
    repeat (first | exact HB.out | refine Below.setCell ?_ (by first | omega | (simp; done) | (simp; omega)) _ | refine Below.alloc ?_ (by first | omega | (simp; done) | (simp; omega)) _ | refine Below.drew ?_)
  by_cases h32 : b = 32
  · subst h32
    have q1 : nameN 32 = false := rfl
    have q2 : letN 32 = false := rfl
    have ER : tagSt 3 tag.data.toList attr.data.toList (32 : UInt8) = St.mk 3 tag.data.toList [] false := by simp [tagSt, q1, q2]
    rw [ER]; clear ER
    go_enter Try.func144, Try.ntmps144
    go_wp2_with (first | (go_at_call 143; refine (l5Name_any _ _).mono ?_; rintro e w' ⟨rfl, rfl⟩) | (go_at_call 120; refine (l1Letter_any _ _).mono ?_; rintro e w' ⟨rfl, rfl⟩))
    refine bodyPost_ret (v := .agg #[.int .i64 3, .string tag, .string ⟨#[]⟩, .bool false]) (by simp [results, Try.results144, go_sem]) rfl ⟨by simp [stV, St.bad, ba_eta], ?_⟩
    repeat (first | exact Below.refl _ _ | refine Below.setCell ?_ (by first | omega | (simp; done) | (simp; omega)) _ | refine Below.alloc ?_ (by first | omega | (simp; done) | (simp; omega)) _ | refine Below.drew ?_)
  have e62 : ((b.toNat : Int) == 62) = false := u8_ne (c := 62) h62
  have e32 : ((b.toNat : Int) == 32) = false := u8_ne (c := 32) h32
  cases hn : letN b.toNat with
  | true =>
    have ER : tagSt 3 tag.data.toList attr.data.toList b = moreSt 4 tag.data.toList [] [b] := by simp [tagSt, h62, h32, hn]
    rw [ER]; clear ER
    go_enter Try.func144, Try.ntmps144
    go_wp2_with (first | (go_at_call 143; refine (l5Name_any _ _).mono ?_; rintro e w' ⟨rfl, rfl⟩) | (go_at_call 120; refine (l1Letter_any _ _).mono ?_; rintro e w' ⟨rfl, rfl⟩))
    refine (l5More_any _ tag ⟨#[]⟩ _ HT.out (by show 0 ≤ 1000; omega) (by show 1 ≤ 1000; omega) _).mono ?_
    rintro e w1 ⟨rfl, hb⟩
    have HB := Lib.hid (below_call ((((Below.refl w.heap.size w).alloc (Nat.le_refl _) _).alloc (by first | omega | (simp; done) | (simp; omega)) _).alloc (by first | omega | (simp; done) | (simp; omega)) _) hb (by first | omega | (simp; done) | (simp; omega)))
    have hbs := hb.size
    have C0 := (((Blk.new (w.alloc _) 43 #[.int .i64 0, .string ⟨#[]⟩, .string ⟨#[]⟩, .bool false] (g := w.heap.size + 1) (by simp)).alloc _).below hb (by first | omega | (simp; done) | (simp; omega))).c4
    clear hb
    simp at hbs
    generalize hR : moreSt 4 tag.data.toList [] [b] = R
    obtain ⟨r0, r1, r2, r3⟩ := R
    simp only [stV] at *
    have HR := Lib.hid hR
    clear hR
    go_wp2_with fail
    refine bodyPost_ret (v := .agg #[.int .i64 r0, .string ⟨r1.toArray⟩, .string ⟨r2.toArray⟩, .bool r3]) (by simp [results, Try.results144, go_sem, C0]) rfl ⟨by rw [HR.out]; rfl, ?_⟩
    repeat (first | exact HB.out | refine Below.setCell ?_ (by first | omega | (simp; done) | (simp; omega)) _ | refine Below.alloc ?_ (by first | omega | (simp; done) | (simp; omega)) _ | refine Below.drew ?_)
  | false =>
    have ER : tagSt 3 tag.data.toList attr.data.toList b = St.bad := by simp [tagSt, h62, h32, hn]
    rw [ER]; clear ER
    go_enter Try.func144, Try.ntmps144
    go_wp2_with (first | (go_at_call 143; refine (l5Name_any _ _).mono ?_; rintro e w' ⟨rfl, rfl⟩) | (go_at_call 120; refine (l1Letter_any _ _).mono ?_; rintro e w' ⟨rfl, rfl⟩))
    refine bodyPost_ret (v := .agg #[.int .i64 15, .string ⟨#[]⟩, .string ⟨#[]⟩, .bool false]) (by simp [results, Try.results144, go_sem]) rfl ⟨by simp [stV, St.bad, ba_eta], ?_⟩
    repeat (first | exact Below.refl _ _ | refine Below.setCell ?_ (by first | omega | (simp; done) | (simp; omega)) _ | refine Below.alloc ?_ (by first | omega | (simp; done) | (simp; omega)) _ | refine Below.drew ?_)

set_option maxHeartbeats 4000000 in
theorem l5Tag_4 (tag attr : ByteArray) (seen : Bool) (b : UInt8) (ht : tag.size ≤ 1000) (ha : attr.size ≤ 1000) (w : World) :
    Calls Try.prog 144 #[.agg #[.int .i64 4, .string tag, .string attr, .bool seen], .int .u8 (b.toNat : Int)] w fun e w' => e = .returned (stV (tagSt 4 tag.data.toList attr.data.toList b)) ∧ Below w.heap.size w w' := by
  have HT := Lib.hid ht
  have HA := Lib.hid ha
  clear ht ha
  have hcv := conv1 (P := Try.prog) Try.underlying55 Try.underlying5 Try.underlying9 b _ rfl
  by_cases h62 : b = 62
  · subst h62
    have q1 : nameN 62 = false := rfl
    have q2 : letN 62 = false := rfl
    have ER : tagSt 4 tag.data.toList attr.data.toList (62 : UInt8) = contentSt tag.data.toList := by simp [tagSt, q1, q2]
    rw [ER]; clear ER
    go_enter Try.func144, Try.ntmps144
    go_wp2_with (first | (go_at_call 143; refine (l5Name_any _ _).mono ?_; rintro e w' ⟨rfl, rfl⟩) | (go_at_call 120; refine (l1Letter_any _ _).mono ?_; rintro e w' ⟨rfl, rfl⟩))
    refine (l5Content_any tag _).mono ?_
    rintro e w1 ⟨rfl, hb⟩
    have HB := Lib.hid (below_call (((Below.refl w.heap.size w).alloc (Nat.le_refl _) _).alloc (by first | omega | (simp; done) | (simp; omega)) _) hb (by first | omega | (simp; done) | (simp; omega)))
    have hbs := hb.size
    have C0 := ((Blk.new (w.alloc _) 43 #[.int .i64 0, .string ⟨#[]⟩, .string ⟨#[]⟩, .bool false] (g := w.heap.size + 1) (by simp)).below hb (by first | omega | (simp; done) | (simp; omega))).c4
    clear hb
    simp at hbs
    generalize hR : contentSt tag.data.toList = R
    obtain ⟨r0, r1, r2, r3⟩ := R
    simp only [stV] at *
    have HR := Lib.hid hR
    clear hR
    go_wp2_with fail
    refine bodyPost_ret (v := .agg #[.int .i64 r0, .string ⟨r1.toArray⟩, .string ⟨r2.toArray⟩, .bool r3]) (by simp [results, Try.results144, go_sem, C0]) rfl ⟨by rw [HR.out]; rfl, ?_⟩
    repeat (first | exact HB.out | refine Below.setCell ?_ (by first | omega | (simp; done) | (simp; omega)) _ | refine Below.alloc ?_ (by first | omega | (simp; done) | (simp; omega)) _ | refine Below.drew ?_)
  by_cases h32 : b = 32
  · subst h32
    have q1 : nameN 32 = false := rfl
    have q2 : letN 32 = false := rfl
    have ER : tagSt 4 tag.data.toList attr.data.toList (32 : UInt8) = St.mk 3 tag.data.toList [] false := by simp [tagSt, q1, q2]
    rw [ER]; clear ER
    go_enter Try.func144, Try.ntmps144
    go_wp2_with (first | (go_at_call 143; refine (l5Name_any _ _).mono ?_; rintro e w' ⟨rfl, rfl⟩) | (go_at_call 120; refine (l1Letter_any _ _).mono ?_; rintro e w' ⟨rfl, rfl⟩))
    refine bodyPost_ret (v := .agg #[.int .i64 3, .string tag, .string ⟨#[]⟩, .bool false]) (by simp [results, Try.results144, go_sem]) rfl ⟨by simp [stV, St.bad, ba_eta], ?_⟩
    repeat (first | exact Below.refl _ _ | refine Below.setCell ?_ (by first | omega | (simp; done) | (simp; omega)) _ | refine Below.alloc ?_ (by first | omega | (simp; done) | (simp; omega)) _ | refine Below.drew ?_)
  by_cases h61 : b = 61
  · subst h61
    have q1 : nameN 61 = false := rfl
    have q2 : letN 61 = false := rfl
    have ER : tagSt 4 tag.data.toList attr.data.toList (61 : UInt8) = St.mk 5 tag.data.toList attr.data.toList false := by simp [tagSt, q1, q2]
    rw [ER]; clear ER
    go_enter Try.func144, Try.ntmps144
    go_wp2_with (first | (go_at_call 143; refine (l5Name_any _ _).mono ?_; rintro e w' ⟨rfl, rfl⟩) | (go_at_call 120; refine (l1Letter_any _ _).mono ?_; rintro e w' ⟨rfl, rfl⟩))
    refine bodyPost_ret (v := .agg #[.int .i64 5, .string tag, .string attr, .bool false]) (by simp [results, Try.results144, go_sem]) rfl ⟨by simp [stV, St.bad, ba_eta], ?_⟩
    repeat (first | exact Below.refl _ _ | refine Below.setCell ?_ (by first | omega | (simp; done) | (simp; omega)) _ | refine Below.alloc ?_ (by first | omega | (simp; done) | (simp; omega)) _ | refine Below.drew ?_)
  have e62 : ((b.toNat : Int) == 62) = false := u8_ne (c := 62) h62
  have e32 : ((b.toNat : Int) == 32) = false := u8_ne (c := 32) h32
  have e61 : ((b.toNat : Int) == 61) = false := u8_ne (c := 61) h61
  cases hn : nameN b.toNat with
  | true =>
    have ER : tagSt 4 tag.data.toList attr.data.toList b = moreSt 4 tag.data.toList attr.data.toList [b] := by simp [tagSt, h62, h32, h61, hn]
    rw [ER]; clear ER
    go_enter Try.func144, Try.ntmps144
    go_wp2_with (first | (go_at_call 143; refine (l5Name_any _ _).mono ?_; rintro e w' ⟨rfl, rfl⟩) | (go_at_call 120; refine (l1Letter_any _ _).mono ?_; rintro e w' ⟨rfl, rfl⟩))
    refine (l5More_any _ tag attr _ HT.out HA.out (by show 1 ≤ 1000; omega) _).mono ?_
    rintro e w1 ⟨rfl, hb⟩
    have HB := Lib.hid (below_call ((((Below.refl w.heap.size w).alloc (Nat.le_refl _) _).alloc (by first | omega | (simp; done) | (simp; omega)) _).alloc (by first | omega | (simp; done) | (simp; omega)) _) hb (by first | omega | (simp; done) | (simp; omega)))
    have hbs := hb.size
    have C0 := (((Blk.new (w.alloc _) 43 #[.int .i64 0, .string ⟨#[]⟩, .string ⟨#[]⟩, .bool false] (g := w.heap.size + 1) (by simp)).alloc _).below hb (by first | omega | (simp; done) | (simp; omega))).c4
    clear hb
    simp at hbs
    generalize hR : moreSt 4 tag.data.toList attr.data.toList [b] = R
    obtain ⟨r0, r1, r2, r3⟩ := R
    simp only [stV] at *
    have HR := Lib.hid hR
    clear hR
    go_wp2_with fail
    refine bodyPost_ret (v := .agg #[.int .i64 r0, .string ⟨r1.toArray⟩, .string ⟨r2.toArray⟩, .bool r3]) (by simp [results, Try.results144, go_sem, C0]) rfl ⟨by rw [HR.out]; rfl, ?_⟩
    repeat (first | exact HB.out | refine Below.setCell ?_ (by first | omega | (simp; done) | (simp; omega)) _ | refine Below.alloc ?_ (by first | omega | (simp; done) | (simp; omega)) _ | refine Below.drew ?_)
  | false =>
    have ER : tagSt 4 tag.data.toList attr.data.toList b = St.bad := by simp [tagSt, h62, h32, h61, hn]
    rw [ER]; clear ER
    go_enter Try.func144, Try.ntmps144
    go_wp2_with (first | (go_at_call 143; refine (l5Name_any _ _).mono ?_; rintro e w' ⟨rfl, rfl⟩) | (go_at_call 120; refine (l1Letter_any _ _).mono ?_; rintro e w' ⟨rfl, rfl⟩))
    refine bodyPost_ret (v := .agg #[.int .i64 15, .string ⟨#[]⟩, .string ⟨#[]⟩, .bool false]) (by simp [results, Try.results144, go_sem]) rfl ⟨by simp [stV, St.bad, ba_eta], ?_⟩
    repeat (first | exact Below.refl _ _ | refine Below.setCell ?_ (by first | omega | (simp; done) | (simp; omega)) _ | refine Below.alloc ?_ (by first | omega | (simp; done) | (simp; omega)) _ | refine Below.drew ?_)

set_option maxHeartbeats 4000000 in
theorem l5Tag_5 (tag attr : ByteArray) (seen : Bool) (b : UInt8) (ht : tag.size ≤ 1000) (ha : attr.size ≤ 1000) (w : World) :
    Calls Try.prog 144 #[.agg #[.int .i64 5, .string tag, .string attr, .bool seen], .int .u8 (b.toNat : Int)] w fun e w' => e = .returned (stV (tagSt 5 tag.data.toList attr.data.toList b)) ∧ Below w.heap.size w w' := by
  have HT := Lib.hid ht
  have HA := Lib.hid ha
  clear ht ha
  have hcv := conv1 (P := Try.prog) Try.underlying55 Try.underlying5 Try.underlying9 b _ rfl
  by_cases h62 : b = 62
  · subst h62
    have q1 : nameN 62 = false := rfl
    have q2 : letN 62 = false := rfl
    have ER : tagSt 5 tag.data.toList attr.data.toList (62 : UInt8) = St.bad := by simp [tagSt, q1, q2]
    rw [ER]; clear ER
    go_enter Try.func144, Try.ntmps144
    go_wp2_with (first | (go_at_call 143; refine (l5Name_any _ _).mono ?_; rintro e w' ⟨rfl, rfl⟩) | (go_at_call 120; refine (l1Letter_any _ _).mono ?_; rintro e w' ⟨rfl, rfl⟩))
    refine bodyPost_ret (v := .agg #[.int .i64 15, .string ⟨#[]⟩, .string ⟨#[]⟩, .bool false]) (by simp [results, Try.results144, go_sem]) rfl ⟨by simp [stV, St.bad, ba_eta], ?_⟩
    repeat (first | exact Below.refl _ _ | refine Below.setCell ?_ (by first | omega | (simp; done) | (simp; omega)) _ | refine Below.alloc ?_ (by first | omega | (simp; done) | (simp; omega)) _ | refine Below.drew ?_)
  by_cases h32 : b = 32
  · subst h32
    have q1 : nameN 32 = false := rfl
    have q2 : letN 32 = false := rfl
    have ER : tagSt 5 tag.data.toList attr.data.toList (32 : UInt8) = St.bad := by simp [tagSt, q1, q2]
    rw [ER]; clear ER
    go_enter Try.func144, Try.ntmps144
    go_wp2_with (first | (go_at_call 143; refine (l5Name_any _ _).mono ?_; rintro e w' ⟨rfl, rfl⟩) | (go_at_call 120; refine (l1Letter_any _ _).mono ?_; rintro e w' ⟨rfl, rfl⟩))
    refine bodyPost_ret (v := .agg #[.int .i64 15, .string ⟨#[]⟩, .string ⟨#[]⟩, .bool false]) (by simp [results, Try.results144, go_sem]) rfl ⟨by simp [stV, St.bad, ba_eta], ?_⟩
    repeat (first | exact Below.refl _ _ | refine Below.setCell ?_ (by first | omega | (simp; done) | (simp; omega)) _ | refine Below.alloc ?_ (by first | omega | (simp; done) | (simp; omega)) _ | refine Below.drew ?_)
  by_cases h34 : b = 34
  · subst h34
    have q1 : nameN 34 = false := rfl
    have q2 : letN 34 = false := rfl
    have ER : tagSt 5 tag.data.toList attr.data.toList (34 : UInt8) = St.mk 6 tag.data.toList attr.data.toList false := by simp [tagSt, q1, q2]
    rw [ER]; clear ER
    go_enter Try.func144, Try.ntmps144
    go_wp2_with (first | (go_at_call 143; refine (l5Name_any _ _).mono ?_; rintro e w' ⟨rfl, rfl⟩) | (go_at_call 120; refine (l1Letter_any _ _).mono ?_; rintro e w' ⟨rfl, rfl⟩))
    refine bodyPost_ret (v := .agg #[.int .i64 6, .string tag, .string attr, .bool false]) (by simp [results, Try.results144, go_sem]) rfl ⟨by simp [stV, St.bad, ba_eta], ?_⟩
    repeat (first | exact Below.refl _ _ | refine Below.setCell ?_ (by first | omega | (simp; done) | (simp; omega)) _ | refine Below.alloc ?_ (by first | omega | (simp; done) | (simp; omega)) _ | refine Below.drew ?_)
  by_cases h39 : b = 39
  · subst h39
    have q1 : nameN 39 = false := rfl
    have q2 : letN 39 = false := rfl
    have ER : tagSt 5 tag.data.toList attr.data.toList (39 : UInt8) = St.mk 7 tag.data.toList attr.data.toList false := by simp [tagSt, q1, q2]
    rw [ER]; clear ER
    go_enter Try.func144, Try.ntmps144
    go_wp2_with (first | (go_at_call 143; refine (l5Name_any _ _).mono ?_; rintro e w' ⟨rfl, rfl⟩) | (go_at_call 120; refine (l1Letter_any _ _).mono ?_; rintro e w' ⟨rfl, rfl⟩))
    refine bodyPost_ret (v := .agg #[.int .i64 7, .string tag, .string attr, .bool false]) (by simp [results, Try.results144, go_sem]) rfl ⟨by simp [stV, St.bad, ba_eta], ?_⟩
    repeat (first | exact Below.refl _ _ | refine Below.setCell ?_ (by first | omega | (simp; done) | (simp; omega)) _ | refine Below.alloc ?_ (by first | omega | (simp; done) | (simp; omega)) _ | refine Below.drew ?_)
  by_cases h95 : b = 95
  · subst h95
    have q1 : nameN 95 = false := rfl
    have q2 : letN 95 = false := rfl
    have ER : tagSt 5 tag.data.toList attr.data.toList (95 : UInt8) = St.mk 8 tag.data.toList attr.data.toList true := by simp [tagSt, q1, q2]
    rw [ER]; clear ER
    go_enter Try.func144, Try.ntmps144
    go_wp2_with (first | (go_at_call 143; refine (l5Name_any _ _).mono ?_; rintro e w' ⟨rfl, rfl⟩) | (go_at_call 120; refine (l1Letter_any _ _).mono ?_; rintro e w' ⟨rfl, rfl⟩))
    refine bodyPost_ret (v := .agg #[.int .i64 8, .string tag, .string attr, .bool true]) (by simp [results, Try.results144, go_sem]) rfl ⟨by simp [stV, St.bad, ba_eta], ?_⟩
    repeat (first | exact Below.refl _ _ | refine Below.setCell ?_ (by first | omega | (simp; done) | (simp; omega)) _ | refine Below.alloc ?_ (by first | omega | (simp; done) | (simp; omega)) _ | refine Below.drew ?_)
  by_cases h46 : b = 46
  · subst h46
    have q1 : nameN 46 = false := rfl
    have q2 : letN 46 = false := rfl
    have ER : tagSt 5 tag.data.toList attr.data.toList (46 : UInt8) = St.mk 8 tag.data.toList attr.data.toList true := by simp [tagSt, q1, q2]
    rw [ER]; clear ER
    go_enter Try.func144, Try.ntmps144
    go_wp2_with (first | (go_at_call 143; refine (l5Name_any _ _).mono ?_; rintro e w' ⟨rfl, rfl⟩) | (go_at_call 120; refine (l1Letter_any _ _).mono ?_; rintro e w' ⟨rfl, rfl⟩))
    refine bodyPost_ret (v := .agg #[.int .i64 8, .string tag, .string attr, .bool true]) (by simp [results, Try.results144, go_sem]) rfl ⟨by simp [stV, St.bad, ba_eta], ?_⟩
    repeat (first | exact Below.refl _ _ | refine Below.setCell ?_ (by first | omega | (simp; done) | (simp; omega)) _ | refine Below.alloc ?_ (by first | omega | (simp; done) | (simp; omega)) _ | refine Below.drew ?_)
  by_cases h47 : b = 47
  · subst h47
    have q1 : nameN 47 = false := rfl
    have q2 : letN 47 = false := rfl
    have ER : tagSt 5 tag.data.toList attr.data.toList (47 : UInt8) = St.mk 8 tag.data.toList attr.data.toList true := by simp [tagSt, q1, q2]
    rw [ER]; clear ER
    go_enter Try.func144, Try.ntmps144
    go_wp2_with (first | (go_at_call 143; refine (l5Name_any _ _).mono ?_; rintro e w' ⟨rfl, rfl⟩) | (go_at_call 120; refine (l1Letter_any _ _).mono ?_; rintro e w' ⟨rfl, rfl⟩))
    refine bodyPost_ret (v := .agg #[.int .i64 8, .string tag, .string attr, .bool true]) (by simp [results, Try.results144, go_sem]) rfl ⟨by simp [stV, St.bad, ba_eta], ?_⟩
    repeat (first | exact Below.refl _ _ | refine Below.setCell ?_ (by first | omega | (simp; done) | (simp; omega)) _ | refine Below.alloc ?_ (by first | omega | (simp; done) | (simp; omega)) _ | refine Below.drew ?_)
  by_cases h58 : b = 58
  · subst h58
    have q1 : nameN 58 = false := rfl
    have q2 : letN 58 = false := rfl
    have ER : tagSt 5 tag.data.toList attr.data.toList (58 : UInt8) = St.mk 8 tag.data.toList attr.data.toList true := by simp [tagSt, q1, q2]
    rw [ER]; clear ER
    go_enter Try.func144, Try.ntmps144
    go_wp2_with (first | (go_at_call 143; refine (l5Name_any _ _).mono ?_; rintro e w' ⟨rfl, rfl⟩) | (go_at_call 120; refine (l1Letter_any _ _).mono ?_; rintro e w' ⟨rfl, rfl⟩))
    refine bodyPost_ret (v := .agg #[.int .i64 8, .string tag, .string attr, .bool true]) (by simp [results, Try.results144, go_sem]) rfl ⟨by simp [stV, St.bad, ba_eta], ?_⟩
    repeat (first | exact Below.refl _ _ | refine Below.setCell ?_ (by first | omega | (simp; done) | (simp; omega)) _ | refine Below.alloc ?_ (by first | omega | (simp; done) | (simp; omega)) _ | refine Below.drew ?_)
  have e62 : ((b.toNat : Int) == 62) = false := u8_ne (c := 62) h62
  have e32 : ((b.toNat : Int) == 32) = false := u8_ne (c := 32) h32
  have e34 : ((b.toNat : Int) == 34) = false := u8_ne (c := 34) h34
  have e39 : ((b.toNat : Int) == 39) = false := u8_ne (c := 39) h39
  have e95 : ((b.toNat : Int) == 95) = false := u8_ne (c := 95) h95
  have e46 : ((b.toNat : Int) == 46) = false := u8_ne (c := 46) h46
  have e47 : ((b.toNat : Int) == 47) = false := u8_ne (c := 47) h47
  have e58 : ((b.toNat : Int) == 58) = false := u8_ne (c := 58) h58
  cases hn : nameN b.toNat with
  | true =>
    have ER : tagSt 5 tag.data.toList attr.data.toList b = St.mk 8 tag.data.toList attr.data.toList true := by simp [tagSt, h62, h32, h34, h39, h95, h46, h47, h58, hn]
    rw [ER]; clear ER
    go_enter Try.func144, Try.ntmps144
    go_wp2_with (first | (go_at_call 143; refine (l5Name_any _ _).mono ?_; rintro e w' ⟨rfl, rfl⟩) | (go_at_call 120; refine (l1Letter_any _ _).mono ?_; rintro e w' ⟨rfl, rfl⟩))
    refine bodyPost_ret (v := .agg #[.int .i64 8, .string tag, .string attr, .bool true]) (by simp [results, Try.results144, go_sem]) rfl ⟨by simp [stV, St.bad, ba_eta], ?_⟩
    repeat (first | exact Below.refl _ _ | refine Below.setCell ?_ (by first | omega | (simp; done) | (simp; omega)) _ | refine Below.alloc ?_ (by first | omega | (simp; done) | (simp; omega)) _ | refine Below.drew ?_)
  | false =>
    have ER : tagSt 5 tag.data.toList attr.data.toList b = St.bad := by simp [tagSt, h62, h32, h34, h39, h95, h46, h47, h58, hn]
    rw [ER]; clear ER
    go_enter Try.func144, Try.ntmps144
    go_wp2_with (first | (go_at_call 143; refine (l5Name_any _ _).mono ?_; rintro e w' ⟨rfl, rfl⟩) | (go_at_call 120; refine (l1Letter_any _ _).mono ?_; rintro e w' ⟨rfl, rfl⟩))
    refine bodyPost_ret (v := .agg #[.int .i64 15, .string ⟨#[]⟩, .string ⟨#[]⟩, .bool false]) (by simp [results, Try.results144, go_sem]) rfl ⟨by simp [stV, St.bad, ba_eta], ?_⟩
    repeat (first | exact Below.refl _ _ | refine Below.setCell ?_ (by first | omega | (simp; done) | (simp; omega)) _ | refine Below.alloc ?_ (by first | omega | (simp; done) | (simp; omega)) _ | refine Below.drew ?_)

set_option maxHeartbeats 4000000 in
theorem l5Tag_8 (tag attr : ByteArray) (seen : Bool) (b : UInt8) (ht : tag.size ≤ 1000) (ha : attr.size ≤ 1000) (w : World) :
    Calls Try.prog 144 #[.agg #[.int .i64 8, .string tag, .string attr, .bool seen], .int .u8 (b.toNat : Int)] w fun e w' => e = .returned (stV (tagSt 8 tag.data.toList attr.data.toList b)) ∧ Below w.heap.size w w' := by
  have HT := Lib.hid ht
  have HA := Lib.hid ha
  clear ht ha
  have hcv := conv1 (P := Try.prog) Try.underlying55 Try.underlying5 Try.underlying9 b _ rfl
  by_cases h62 : b = 62
  · subst h62
    have q1 : nameN 62 = false := rfl
    have q2 : letN 62 = false := rfl
    have ER : tagSt 8 tag.data.toList attr.data.toList (62 : UInt8) = contentSt tag.data.toList := by simp [tagSt, q1, q2]
    rw [ER]; clear ER
    go_enter Try.func144, Try.ntmps144
    go_wp2_with (first | (go_at_call 143; refine (l5Name_any _ _).mono ?_; rintro e w' ⟨rfl, rfl⟩) | (go_at_call 120; refine (l1Letter_any _ _).mono ?_; rintro e w' ⟨rfl, rfl⟩))
    refine (l5Content_any tag _).mono ?_
    rintro e w1 ⟨rfl, hb⟩
    have HB := Lib.hid (below_call (((Below.refl w.heap.size w).alloc (Nat.le_refl _) _).alloc (by first | omega | (simp; done) | (simp; omega)) _) hb (by first | omega | (simp; done) | (simp; omega)))
    have hbs := hb.size
    have C0 := ((Blk.new (w.alloc _) 43 #[.int .i64 0, .string ⟨#[]⟩, .string ⟨#[]⟩, .bool false] (g := w.heap.size + 1) (by simp)).below hb (by first | omega | (simp; done) | (simp; omega))).c4
    clear hb
    simp at hbs
    generalize hR : contentSt tag.data.toList = R
    obtain ⟨r0, r1, r2, r3⟩ := R
    simp only [stV] at *
    have HR := Lib.hid hR
    clear hR
    go_wp2_with fail
    refine bodyPost_ret (v := .agg #[.int .i64 r0, .string ⟨r1.toArray⟩, .string ⟨r2.toArray⟩, .bool r3]) (by simp [results, Try.results144, go_sem, C0]) rfl ⟨by rw [HR.out]; rfl, ?_⟩
    repeat (first | exact HB.out | refine Below.setCell ?_ (by first | omega | (simp; done) | (simp; omega)) _ | refine Below.alloc ?_ (by first | omega | (simp; done) | (simp; omega)) _ | refine Below.drew ?_)
  by_cases h32 : b = 32
  · subst h32
    have q1 : nameN 32 = false := rfl
    have q2 : letN 32 = false := rfl
    have ER : tagSt 8 tag.data.toList attr.data.toList (32 : UInt8) = St.mk 3 tag.data.toList [] false := by simp [tagSt, q1, q2]
    rw [ER]; clear ER
    go_enter Try.func144, Try.ntmps144
    go_wp2_with (first | (go_at_call 143; refine (l5Name_any _ _).mono ?_; rintro e w' ⟨rfl, rfl⟩) | (go_at_call 120; refine (l1Letter_any _ _).mono ?_; rintro e w' ⟨rfl, rfl⟩))
    refine bodyPost_ret (v := .agg #[.int .i64 3, .string tag, .string ⟨#[]⟩, .bool false]) (by simp [results, Try.results144, go_sem]) rfl ⟨by simp [stV, St.bad, ba_eta], ?_⟩
    repeat (first | exact Below.refl _ _ | refine Below.setCell ?_ (by first | omega | (simp; done) | (simp; omega)) _ | refine Below.alloc ?_ (by first | omega | (simp; done) | (simp; omega)) _ | refine Below.drew ?_)
  by_cases h95 : b = 95
  · subst h95
    have q1 : nameN 95 = false := rfl
    have q2 : letN 95 = false := rfl
    have ER : tagSt 8 tag.data.toList attr.data.toList (95 : UInt8) = St.mk 8 tag.data.toList attr.data.toList true := by simp [tagSt, q1, q2]
    rw [ER]; clear ER
    go_enter Try.func144, Try.ntmps144
    go_wp2_with (first | (go_at_call 143; refine (l5Name_any _ _).mono ?_; rintro e w' ⟨rfl, rfl⟩) | (go_at_call 120; refine (l1Letter_any _ _).mono ?_; rintro e w' ⟨rfl, rfl⟩))
    refine bodyPost_ret (v := .agg #[.int .i64 8, .string tag, .string attr, .bool true]) (by simp [results, Try.results144, go_sem]) rfl ⟨by simp [stV, St.bad, ba_eta], ?_⟩
    repeat (first | exact Below.refl _ _ | refine Below.setCell ?_ (by first | omega | (simp; done) | (simp; omega)) _ | refine Below.alloc ?_ (by first | omega | (simp; done) | (simp; omega)) _ | refine Below.drew ?_)
  by_cases h46 : b = 46
  · subst h46
    have q1 : nameN 46 = false := rfl
    have q2 : letN 46 = false := rfl
    have ER : tagSt 8 tag.data.toList attr.data.toList (46 : UInt8) = St.mk 8 tag.data.toList attr.data.toList true := by simp [tagSt, q1, q2]
    rw [ER]; clear ER
    go_enter Try.func144, Try.ntmps144
    go_wp2_with (first | (go_at_call 143; refine (l5Name_any _ _).mono ?_; rintro e w' ⟨rfl, rfl⟩) | (go_at_call 120; refine (l1Letter_any _ _).mono ?_; rintro e w' ⟨rfl, rfl⟩))
    refine bodyPost_ret (v := .agg #[.int .i64 8, .string tag, .string attr, .bool true]) (by simp [results, Try.results144, go_sem]) rfl ⟨by simp [stV, St.bad, ba_eta], ?_⟩
    repeat (first | exact Below.refl _ _ | refine Below.setCell ?_ (by first | omega | (simp; done) | (simp; omega)) _ | refine Below.alloc ?_ (by first | omega | (simp; done) | (simp; omega)) _ | refine Below.drew ?_)
  by_cases h47 : b = 47
  · subst h47
    have q1 : nameN 47 = false := rfl
    have q2 : letN 47 = false := rfl
    have ER : tagSt 8 tag.data.toList attr.data.toList (47 : UInt8) = St.mk 8 tag.data.toList attr.data.toList true := by simp [tagSt, q1, q2]
    rw [ER]; clear ER
    go_enter Try.func144, Try.ntmps144
    go_wp2_with (first | (go_at_call 143; refine (l5Name_any _ _).mono ?_; rintro e w' ⟨rfl, rfl⟩) | (go_at_call 120; refine (l1Letter_any _ _).mono ?_; rintro e w' ⟨rfl, rfl⟩))
    refine bodyPost_ret (v := .agg #[.int .i64 8, .string tag, .string attr, .bool true]) (by simp [results, Try.results144, go_sem]) rfl ⟨by simp [stV, St.bad, ba_eta], ?_⟩
    repeat (first | exact Below.refl _ _ | refine Below.setCell ?_ (by first | omega | (simp; done) | (simp; omega)) _ | refine Below.alloc ?_ (by first | omega | (simp; done) | (simp; omega)) _ | refine Below.drew ?_)
  by_cases h58 : b = 58
  · subst h58
    have q1 : nameN 58 = false := rfl
    have q2 : letN 58 = false := rfl
    have ER : tagSt 8 tag.data.toList attr.data.toList (58 : UInt8) = St.mk 8 tag.data.toList attr.data.toList true := by simp [tagSt, q1, q2]
    rw [ER]; clear ER
    go_enter Try.func144, Try.ntmps144
    go_wp2_with (first | (go_at_call 143; refine (l5Name_any _ _).mono ?_; rintro e w' ⟨rfl, rfl⟩) | (go_at_call 120; refine (l1Letter_any _ _).mono ?_; rintro e w' ⟨rfl, rfl⟩))
    refine bodyPost_ret (v := .agg #[.int .i64 8, .string tag, .string attr, .bool true]) (by simp [results, Try.results144, go_sem]) rfl ⟨by simp [stV, St.bad, ba_eta], ?_⟩
    repeat (first | exact Below.refl _ _ | refine Below.setCell ?_ (by first | omega | (simp; done) | (simp; omega)) _ | refine Below.alloc ?_ (by first | omega | (simp; done) | (simp; omega)) _ | refine Below.drew ?_)
  have e62 : ((b.toNat : Int) == 62) = false := u8_ne (c := 62) h62
  have e32 : ((b.toNat : Int) == 32) = false := u8_ne (c := 32) h32
  have e95 : ((b.toNat : Int) == 95) = false := u8_ne (c := 95) h95
  have e46 : ((b.toNat : Int) == 46) = false := u8_ne (c := 46) h46
  have e47 : ((b.toNat : Int) == 47) = false := u8_ne (c := 47) h47
  have e58 : ((b.toNat : Int) == 58) = false := u8_ne (c := 58) h58
  cases hn : nameN b.toNat with
  | true =>
    have ER : tagSt 8 tag.data.toList attr.data.toList b = St.mk 8 tag.data.toList attr.data.toList true := by simp [tagSt, h62, h32, h95, h46, h47, h58, hn]
    rw [ER]; clear ER
    go_enter Try.func144, Try.ntmps144
    go_wp2_with (first | (go_at_call 143; refine (l5Name_any _ _).mono ?_; rintro e w' ⟨rfl, rfl⟩) | (go_at_call 120; refine (l1Letter_any _ _).mono ?_; rintro e w' ⟨rfl, rfl⟩))
    refine bodyPost_ret (v := .agg #[.int .i64 8, .string tag, .string attr, .bool true]) (by simp [results, Try.results144, go_sem]) rfl ⟨by simp [stV, St.bad, ba_eta], ?_⟩
    repeat (first | exact Below.refl _ _ | refine Below.setCell ?_ (by first | omega | (simp; done) | (simp; omega)) _ | refine Below.alloc ?_ (by first | omega | (simp; done) | (simp; omega)) _ | refine Below.drew ?_)
  | false =>
    have ER : tagSt 8 tag.data.toList attr.data.toList b = St.bad := by simp [tagSt, h62, h32, h95, h46, h47, h58, hn]
    rw [ER]; clear ER
    go_enter Try.func144, Try.ntmps144
    go_wp2_with (first | (go_at_call 143; refine (l5Name_any _ _).mono ?_; rintro e w' ⟨rfl, rfl⟩) | (go_at_call 120; refine (l1Letter_any _ _).mono ?_; rintro e w' ⟨rfl, rfl⟩))
    refine bodyPost_ret (v := .agg #[.int .i64 15, .string ⟨#[]⟩, .string ⟨#[]⟩, .bool false]) (by simp [results, Try.results144, go_sem]) rfl ⟨by simp [stV, St.bad, ba_eta], ?_⟩
    repeat (first | exact Below.refl _ _ | refine Below.setCell ?_ (by first | omega | (simp; done) | (simp; omega)) _ | refine Below.alloc ?_ (by first | omega | (simp; done) | (simp; omega)) _ | refine Below.drew ?_)
end Go.Proofs.Ytdehpafflbhadaa
