/- The reference's step. Printed by gen_step.py. -/
import Derived.Test.YtdehpafflbhadaaWT2
namespace Go.Proofs.Ytdehpafflbhadaa
set_option maxRecDepth 100000
set_option linter.unusedVariables false
set_option linter.unusedSimpArgs false
open Go.RowKit

def scriptSt (m : Int) (b : UInt8) : St :=
  if m = 14 ∧ b = 47 then ⟨9, [], [], false⟩
  else if m = 13 ∧ ¬ b = 60 then ⟨12, [], [], false⟩
  else if m = 12 ∧ b = 34 then ⟨11, [], [], false⟩
  else if m = 12 ∧ b = 92 then ⟨13, [], [], false⟩
  else if m = 12 ∧ ¬ b = 60 then ⟨12, [], [], false⟩
  else if m = 12 ∨ m = 13 then St.bad
  else if b = 60 then ⟨14, [], [], false⟩
  else if b = 34 then ⟨12, [], [], false⟩
  else ⟨11, [], [], false⟩

def step (m : Int) (tag attr : List UInt8) (seen : Bool) (b : UInt8) : St :=
  if stOk m tag attr seen = false then St.bad
  else if m = 0 ∧ b = 60 then ⟨1, [], [], false⟩
  else if m = 0 ∨ (m = 10 ∧ b = 62) then ⟨0, [], [], false⟩
  else if m = 10 then ⟨10, tag, attr, seen⟩
  else if m = 1 ∧ letN b.toNat = true then moreSt 2 [] [] [b]
  else if m = 1 ∧ b = 47 then ⟨9, [], [], false⟩
  else if m = 1 ∧ b = 33 then ⟨10, [], [], false⟩
  else if (m = 6 ∧ b = 34) ∨ (m = 7 ∧ b = 39) then ⟨3, tag, [], false⟩
  else if m = 6 ∨ m = 7 then ⟨m, tag, attr, true⟩
  else if m = 9 ∧ (letN b.toNat = true ∨ (¬ tag = [] ∧ nameN b.toNat = true)) then moreSt 9 tag [] [b]
  else if m = 9 ∧ b = 62 ∧ ¬ tag = [] then ⟨0, [], [], false⟩
  else if 2 ≤ m ∧ m ≤ 8 then tagSt m tag attr b
  else if 11 ≤ m ∧ m ≤ 14 then scriptSt m b
  else St.bad

theorem u8_neq {b c : UInt8} (h : ¬ b = c) : ((b.toNat : Int) != (c.toNat : Int)) = true := by
  have := u8_ne h
  simp only [bne, this, Bool.not_false]


set_option maxHeartbeats 4000000 in
theorem l5Script_11 (tag attr : ByteArray) (seen : Bool) (b : UInt8) (w : World) :
    Calls Try.prog 145 #[.agg #[.int .i64 11, .string tag, .string attr, .bool seen], .int .u8 (b.toNat : Int)] w fun e w' => e = .returned (stV (scriptSt 11 b)) ∧ Below w.heap.size w w' := by
  by_cases h60 : b = 60
  · subst h60
    have ER : scriptSt 11 (60 : UInt8) = ⟨14, [], [], false⟩ := by simp [scriptSt]
    rw [ER]; clear ER
    go_enter Try.func145, Try.ntmps145
    go_wp2
    refine bodyPost_ret (v := .agg #[.int .i64 14, .string ⟨#[]⟩, .string ⟨#[]⟩, .bool false]) (by simp [results, Try.results145, go_sem]) rfl ⟨by simp [stV, St.bad], ?_⟩
    repeat (first | exact Below.refl _ _ | refine Below.setCell ?_ (by first | omega | (simp; done) | (simp; omega)) _ | refine Below.alloc ?_ (by first | omega | (simp; done) | (simp; omega)) _ | refine Below.drew ?_)
  by_cases h34 : b = 34
  · subst h34
    have ER : scriptSt 11 (34 : UInt8) = ⟨12, [], [], false⟩ := by simp [scriptSt, h60]
    rw [ER]; clear ER
    go_enter Try.func145, Try.ntmps145
    go_wp2
    refine bodyPost_ret (v := .agg #[.int .i64 12, .string ⟨#[]⟩, .string ⟨#[]⟩, .bool false]) (by simp [results, Try.results145, go_sem]) rfl ⟨by simp [stV, St.bad], ?_⟩
    repeat (first | exact Below.refl _ _ | refine Below.setCell ?_ (by first | omega | (simp; done) | (simp; omega)) _ | refine Below.alloc ?_ (by first | omega | (simp; done) | (simp; omega)) _ | refine Below.drew ?_)
  have e60 : ((b.toNat : Int) == 60) = false := u8_ne (c := 60) h60
  have g60 : ((b.toNat : Int) != 60) = true := u8_neq (c := 60) h60
  have e34 : ((b.toNat : Int) == 34) = false := u8_ne (c := 34) h34
  have g34 : ((b.toNat : Int) != 34) = true := u8_neq (c := 34) h34
  have ER : scriptSt 11 b = ⟨11, [], [], false⟩ := by simp [scriptSt, h60, h34]
  rw [ER]; clear ER
  go_enter Try.func145, Try.ntmps145
  go_wp2
  refine bodyPost_ret (v := .agg #[.int .i64 11, .string ⟨#[]⟩, .string ⟨#[]⟩, .bool false]) (by simp [results, Try.results145, go_sem]) rfl ⟨by simp [stV, St.bad], ?_⟩
  repeat (first | exact Below.refl _ _ | refine Below.setCell ?_ (by first | omega | (simp; done) | (simp; omega)) _ | refine Below.alloc ?_ (by first | omega | (simp; done) | (simp; omega)) _ | refine Below.drew ?_)

set_option maxHeartbeats 4000000 in
theorem l5Script_14 (tag attr : ByteArray) (seen : Bool) (b : UInt8) (w : World) :
    Calls Try.prog 145 #[.agg #[.int .i64 14, .string tag, .string attr, .bool seen], .int .u8 (b.toNat : Int)] w fun e w' => e = .returned (stV (scriptSt 14 b)) ∧ Below w.heap.size w w' := by
  by_cases h47 : b = 47
  · subst h47
    have ER : scriptSt 14 (47 : UInt8) = ⟨9, [], [], false⟩ := by simp [scriptSt]
    rw [ER]; clear ER
    go_enter Try.func145, Try.ntmps145
    go_wp2
    refine bodyPost_ret (v := .agg #[.int .i64 9, .string ⟨#[]⟩, .string ⟨#[]⟩, .bool false]) (by simp [results, Try.results145, go_sem]) rfl ⟨by simp [stV, St.bad], ?_⟩
    repeat (first | exact Below.refl _ _ | refine Below.setCell ?_ (by first | omega | (simp; done) | (simp; omega)) _ | refine Below.alloc ?_ (by first | omega | (simp; done) | (simp; omega)) _ | refine Below.drew ?_)
  by_cases h60 : b = 60
  · subst h60
    have ER : scriptSt 14 (60 : UInt8) = ⟨14, [], [], false⟩ := by simp [scriptSt, h47]
    rw [ER]; clear ER
    go_enter Try.func145, Try.ntmps145
    go_wp2
    refine bodyPost_ret (v := .agg #[.int .i64 14, .string ⟨#[]⟩, .string ⟨#[]⟩, .bool false]) (by simp [results, Try.results145, go_sem]) rfl ⟨by simp [stV, St.bad], ?_⟩
    repeat (first | exact Below.refl _ _ | refine Below.setCell ?_ (by first | omega | (simp; done) | (simp; omega)) _ | refine Below.alloc ?_ (by first | omega | (simp; done) | (simp; omega)) _ | refine Below.drew ?_)
  by_cases h34 : b = 34
  · subst h34
    have ER : scriptSt 14 (34 : UInt8) = ⟨12, [], [], false⟩ := by simp [scriptSt, h47, h60]
    rw [ER]; clear ER
    go_enter Try.func145, Try.ntmps145
    go_wp2
    refine bodyPost_ret (v := .agg #[.int .i64 12, .string ⟨#[]⟩, .string ⟨#[]⟩, .bool false]) (by simp [results, Try.results145, go_sem]) rfl ⟨by simp [stV, St.bad], ?_⟩
    repeat (first | exact Below.refl _ _ | refine Below.setCell ?_ (by first | omega | (simp; done) | (simp; omega)) _ | refine Below.alloc ?_ (by first | omega | (simp; done) | (simp; omega)) _ | refine Below.drew ?_)
  have e47 : ((b.toNat : Int) == 47) = false := u8_ne (c := 47) h47
  have g47 : ((b.toNat : Int) != 47) = true := u8_neq (c := 47) h47
  have e60 : ((b.toNat : Int) == 60) = false := u8_ne (c := 60) h60
  have g60 : ((b.toNat : Int) != 60) = true := u8_neq (c := 60) h60
  have e34 : ((b.toNat : Int) == 34) = false := u8_ne (c := 34) h34
  have g34 : ((b.toNat : Int) != 34) = true := u8_neq (c := 34) h34
  have ER : scriptSt 14 b = ⟨11, [], [], false⟩ := by simp [scriptSt, h47, h60, h34]
  rw [ER]; clear ER
  go_enter Try.func145, Try.ntmps145
  go_wp2
  refine bodyPost_ret (v := .agg #[.int .i64 11, .string ⟨#[]⟩, .string ⟨#[]⟩, .bool false]) (by simp [results, Try.results145, go_sem]) rfl ⟨by simp [stV, St.bad], ?_⟩
  repeat (first | exact Below.refl _ _ | refine Below.setCell ?_ (by first | omega | (simp; done) | (simp; omega)) _ | refine Below.alloc ?_ (by first | omega | (simp; done) | (simp; omega)) _ | refine Below.drew ?_)

set_option maxHeartbeats 4000000 in
theorem l5Script_12 (tag attr : ByteArray) (seen : Bool) (b : UInt8) (w : World) :
    Calls Try.prog 145 #[.agg #[.int .i64 12, .string tag, .string attr, .bool seen], .int .u8 (b.toNat : Int)] w fun e w' => e = .returned (stV (scriptSt 12 b)) ∧ Below w.heap.size w w' := by
  by_cases h34 : b = 34
  · subst h34
    have ER : scriptSt 12 (34 : UInt8) = ⟨11, [], [], false⟩ := by simp [scriptSt]
    rw [ER]; clear ER
    go_enter Try.func145, Try.ntmps145
    go_wp2
    refine bodyPost_ret (v := .agg #[.int .i64 11, .string ⟨#[]⟩, .string ⟨#[]⟩, .bool false]) (by simp [results, Try.results145, go_sem]) rfl ⟨by simp [stV, St.bad], ?_⟩
    repeat (first | exact Below.refl _ _ | refine Below.setCell ?_ (by first | omega | (simp; done) | (simp; omega)) _ | refine Below.alloc ?_ (by first | omega | (simp; done) | (simp; omega)) _ | refine Below.drew ?_)
  by_cases h92 : b = 92
  · subst h92
    have ER : scriptSt 12 (92 : UInt8) = ⟨13, [], [], false⟩ := by simp [scriptSt, h34]
    rw [ER]; clear ER
    go_enter Try.func145, Try.ntmps145
    go_wp2
    refine bodyPost_ret (v := .agg #[.int .i64 13, .string ⟨#[]⟩, .string ⟨#[]⟩, .bool false]) (by simp [results, Try.results145, go_sem]) rfl ⟨by simp [stV, St.bad], ?_⟩
    repeat (first | exact Below.refl _ _ | refine Below.setCell ?_ (by first | omega | (simp; done) | (simp; omega)) _ | refine Below.alloc ?_ (by first | omega | (simp; done) | (simp; omega)) _ | refine Below.drew ?_)
  by_cases h60 : b = 60
  · subst h60
    have ER : scriptSt 12 (60 : UInt8) = St.bad := by simp [scriptSt, h34, h92]
    rw [ER]; clear ER
    go_enter Try.func145, Try.ntmps145
    go_wp2
    refine bodyPost_ret (v := .agg #[.int .i64 15, .string ⟨#[]⟩, .string ⟨#[]⟩, .bool false]) (by simp [results, Try.results145, go_sem]) rfl ⟨by simp [stV, St.bad], ?_⟩
    repeat (first | exact Below.refl _ _ | refine Below.setCell ?_ (by first | omega | (simp; done) | (simp; omega)) _ | refine Below.alloc ?_ (by first | omega | (simp; done) | (simp; omega)) _ | refine Below.drew ?_)
  have e34 : ((b.toNat : Int) == 34) = false := u8_ne (c := 34) h34
  have g34 : ((b.toNat : Int) != 34) = true := u8_neq (c := 34) h34
  have e92 : ((b.toNat : Int) == 92) = false := u8_ne (c := 92) h92
  have g92 : ((b.toNat : Int) != 92) = true := u8_neq (c := 92) h92
  have e60 : ((b.toNat : Int) == 60) = false := u8_ne (c := 60) h60
  have g60 : ((b.toNat : Int) != 60) = true := u8_neq (c := 60) h60
  have ER : scriptSt 12 b = ⟨12, [], [], false⟩ := by simp [scriptSt, h34, h92, h60]
  rw [ER]; clear ER
  go_enter Try.func145, Try.ntmps145
  go_wp2
  refine bodyPost_ret (v := .agg #[.int .i64 12, .string ⟨#[]⟩, .string ⟨#[]⟩, .bool false]) (by simp [results, Try.results145, go_sem]) rfl ⟨by simp [stV, St.bad], ?_⟩
  repeat (first | exact Below.refl _ _ | refine Below.setCell ?_ (by first | omega | (simp; done) | (simp; omega)) _ | refine Below.alloc ?_ (by first | omega | (simp; done) | (simp; omega)) _ | refine Below.drew ?_)

set_option maxHeartbeats 4000000 in
theorem l5Script_13 (tag attr : ByteArray) (seen : Bool) (b : UInt8) (w : World) :
    Calls Try.prog 145 #[.agg #[.int .i64 13, .string tag, .string attr, .bool seen], .int .u8 (b.toNat : Int)] w fun e w' => e = .returned (stV (scriptSt 13 b)) ∧ Below w.heap.size w w' := by
  by_cases h60 : b = 60
  · subst h60
    have ER : scriptSt 13 (60 : UInt8) = St.bad := by simp [scriptSt]
    rw [ER]; clear ER
    go_enter Try.func145, Try.ntmps145
    go_wp2
    refine bodyPost_ret (v := .agg #[.int .i64 15, .string ⟨#[]⟩, .string ⟨#[]⟩, .bool false]) (by simp [results, Try.results145, go_sem]) rfl ⟨by simp [stV, St.bad], ?_⟩
    repeat (first | exact Below.refl _ _ | refine Below.setCell ?_ (by first | omega | (simp; done) | (simp; omega)) _ | refine Below.alloc ?_ (by first | omega | (simp; done) | (simp; omega)) _ | refine Below.drew ?_)
  have e60 : ((b.toNat : Int) == 60) = false := u8_ne (c := 60) h60
  have g60 : ((b.toNat : Int) != 60) = true := u8_neq (c := 60) h60
  have ER : scriptSt 13 b = ⟨12, [], [], false⟩ := by simp [scriptSt, h60]
  rw [ER]; clear ER
  go_enter Try.func145, Try.ntmps145
  go_wp2
  refine bodyPost_ret (v := .agg #[.int .i64 12, .string ⟨#[]⟩, .string ⟨#[]⟩, .bool false]) (by simp [results, Try.results145, go_sem]) rfl ⟨by simp [stV, St.bad], ?_⟩
  repeat (first | exact Below.refl _ _ | refine Below.setCell ?_ (by first | omega | (simp; done) | (simp; omega)) _ | refine Below.alloc ?_ (by first | omega | (simp; done) | (simp; omega)) _ | refine Below.drew ?_)

theorem nameB_len {l : List UInt8} (h : nameB l = true) : l.length ≤ 10 := by
  unfold nameB at h
  simp at h
  omega
/-- The names of a valid state are short. -/
theorem stOk_short {m : Int} {tag attr : List UInt8} {seen : Bool} (h : stOk m tag attr seen = true) : tag.length ≤ 10 ∧ attr.length ≤ 10 := by
  unfold stOk at h
  simp only [Bool.and_eq_true] at h
  obtain ⟨⟨⟨_, h1⟩, h2⟩, _⟩ := h
  refine ⟨?_, ?_⟩
  · split at h1
    · exact nameB_len h1
    · split at h1
      · simp only [Bool.or_eq_true] at h1
        rcases h1 with h1 | h1
        · simp at h1; simp [h1]
        · exact nameB_len h1
      · simp at h1; simp [h1]
  · split at h2
    · exact nameB_len h2
    · simp at h2; simp [h2]
theorem stOk_sizes {m : Int} {tag attr : ByteArray} {seen : Bool} (h : stOk m tag.data.toList attr.data.toList seen = true) : tag.size ≤ 10 ∧ attr.size ≤ 10 := by
  have := stOk_short h
  simpa using this

end Go.Proofs.Ytdehpafflbhadaa
