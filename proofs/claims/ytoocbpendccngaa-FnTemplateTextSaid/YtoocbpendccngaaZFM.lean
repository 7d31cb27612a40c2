/- The machine of modes, as data: states, one step, many steps. No program. -/
import Derived.Test.YtoocbpendccngaaZLU
import Derived.Test.YtoocbpendccngaaZD1

namespace Go.Proofs.Ytoocbpendccngaa
set_option maxRecDepth 100000
set_option linter.unusedVariables false
set_option linter.unusedSimpArgs false
open Go.RowKit
structure St where
  mode : Int
  tag : Bs
  attr : Bs
  seen : Bool
  deriving DecidableEq
def encS (s : St) : List PV := [.int .i64 s.mode, .str s.tag, .str s.attr, .bool s.seen]
@[go_sem] theorem encS_mk (m : Int) (t a : Bs) (b : Bool) : encS ⟨m, t, a, b⟩ = [.int .i64 m, .str t, .str a, .bool b] := rfl
@[go_sem] theorem encS_iff {s t : St} : encS s = encS t ↔ s = t := by
  constructor
  · intro h
    cases s; cases t
    simp only [encS, List.cons.injEq, PV.int.injEq, PV.str.injEq, PV.bool.injEq, true_and, and_true] at h
    obtain ⟨rfl, rfl, rfl, rfl⟩ := h
    rfl
  · rintro rfl; rfl
def bad : St := ⟨15, [], [], false⟩
def st0 : St := ⟨0, [], [], false⟩
def tagOk (s : St) : Bool := if 2 ≤ s.mode ∧ s.mode ≤ 8 then nameB s.tag else if s.mode = 9 then decide (s.tag = []) || nameB s.tag else decide (s.tag = [])
def attrOk (s : St) : Bool := if 4 ≤ s.mode ∧ s.mode ≤ 8 then nameB s.attr else decide (s.attr = [])
def seenOk (s : St) : Bool := if s.mode = 6 ∨ s.mode = 7 then true else if s.mode = 8 then s.seen else !s.seen
def stV (s : St) : Bool := decide (0 ≤ s.mode ∧ s.mode ≤ 15) && tagOk s && attrOk s && seenOk s
def nmByte (b : UInt8) : Bool := isLet b || isDig b || decide (b.toNat = 45)
def bareB (b : UInt8) : Bool := isLet b || isDig b || hasB [45, 95, 46, 47, 58] b
def script : Bs := [115, 99, 114, 105, 112, 116]
def longT (s : St) (b : UInt8) : St := if s.tag.length + 1 > 10 then bad else ⟨s.mode, s.tag ++ [low1 b], s.attr, s.seen⟩
def longA (s : St) (b : UInt8) : St := if s.attr.length + 1 > 10 then bad else ⟨s.mode, s.tag, s.attr ++ [low1 b], s.seen⟩
def stepTagM (s : St) (b : UInt8) : St :=
  if b.toNat = 62 then (if s.tag = script then ⟨11, [], [], false⟩ else st0)
  else if b.toNat = 32 then ⟨3, s.tag, [], false⟩
  else if s.mode = 2 ∧ nmByte b = true then longT s b
  else if s.mode = 3 ∧ isLet b = true then longA ⟨4, s.tag, s.attr, s.seen⟩ b
  else if s.mode = 4 ∧ nmByte b = true then longA s b
  else if s.mode = 4 ∧ b.toNat = 61 then ⟨5, s.tag, s.attr, s.seen⟩
  else if s.mode = 8 ∧ bareB b = true then s
  else bad
def stepV (s : St) (b : UInt8) : St :=
  if s.mode = 0 then (if b.toNat = 60 then ⟨1, [], [], false⟩ else st0)
  else if s.mode = 1 then (if isLet b = true then ⟨2, [low1 b], [], false⟩ else if b.toNat = 47 then ⟨9, [], [], false⟩ else if b.toNat = 33 then ⟨10, [], [], false⟩ else bad)
  else if s.mode = 2 ∨ s.mode = 3 ∨ s.mode = 4 ∨ s.mode = 8 then stepTagM s b
  else if s.mode = 5 then (if b.toNat = 34 then ⟨6, s.tag, s.attr, false⟩ else if b.toNat = 39 then ⟨7, s.tag, s.attr, false⟩ else if bareB b = true then ⟨8, s.tag, s.attr, true⟩ else bad)
  else if s.mode = 6 then (if b.toNat = 34 then ⟨3, s.tag, [], false⟩ else ⟨6, s.tag, s.attr, true⟩)
  else if s.mode = 7 then (if b.toNat = 39 then ⟨3, s.tag, [], false⟩ else ⟨7, s.tag, s.attr, true⟩)
  else if s.mode = 9 then (if b.toNat = 62 ∧ s.tag ≠ [] then st0 else if isLet b = true ∨ s.tag ≠ [] ∧ (isDig b = true ∨ b.toNat = 45) then longT s b else bad)
  else if s.mode = 10 then (if b.toNat = 62 then st0 else s)
  else if s.mode = 11 then (if b.toNat = 60 then ⟨14, [], [], false⟩ else if b.toNat = 34 then ⟨12, [], [], false⟩ else ⟨11, [], [], false⟩)
  else if s.mode = 14 then (if b.toNat = 60 then ⟨14, [], [], false⟩ else if b.toNat = 34 then ⟨12, [], [], false⟩ else if b.toNat = 47 then ⟨9, [], [], false⟩ else ⟨11, [], [], false⟩)
  else if s.mode = 12 then (if b.toNat = 34 then ⟨11, [], [], false⟩ else if b.toNat = 92 then ⟨13, [], [], false⟩ else if b.toNat = 60 then bad else ⟨12, [], [], false⟩)
  else if s.mode = 13 then (if b.toNat = 60 then bad else ⟨12, [], [], false⟩)
  else bad
def step (s : St) (b : UInt8) : St := if stV s = true then stepV s b else bad
def run (s : St) (t : Bs) : St := t.foldl step s
theorem nameB_len {s : Bs} (h : nameB s = true) : 1 ≤ s.length ∧ s.length ≤ 10 := by
  unfold nameB at h
  simp only [Bool.and_eq_true, decide_eq_true_eq] at h
  exact ⟨h.1.1, h.1.2.1⟩
section
variable {s : St} {b : UInt8}
end
end Go.Proofs.Ytoocbpendccngaa
