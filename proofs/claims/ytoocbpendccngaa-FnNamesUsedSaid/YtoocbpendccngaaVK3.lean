/- Data; what comes when parts are filled in: as data. No program. -/
import Derived.Test.YtoocbpendccngaaVTY
import Derived.Test.YtoocbpendccngaaVFP
import Derived.Lib.Bytealg

namespace Go.Proofs.Ytoocbpendccngaa
set_option maxRecDepth 100000
set_option linter.unusedVariables false
set_option linter.unusedSimpArgs false
open Go.RowKit
structure FieldD where
  name : Bs
  text : Bs
  holds : Bool
  items : List Bs
  deriving DecidableEq
def strs (l : List Bs) : List (List PV) := l.map fun t => [.str t]
end Go.Proofs.Ytoocbpendccngaa

/- Data: places of fields. Plain. -/
namespace Go.Proofs.Ytoocbpendccngaa
set_option maxRecDepth 100000
set_option linter.unusedVariables false
set_option linter.unusedSimpArgs false
open Go.RowKit
theorem strK_get (l : List Bs) (k : Nat) : (strs l)[k]? = (l[k]?).map fun t => [.str t] := by unfold strs; rw [List.getElem?_map]
theorem strs_length (l : List Bs) : (strs l).length = l.length := by unfold strs; simp
theorem strs_all (l : List Bs) : (∀ e ∈ strs l, e.length = 1) = True := eq_true (by
  intro e he; unfold strs at he
  obtain ⟨f, _, rfl⟩ := List.mem_map.1 he; rfl)
theorem strs_nil : strs [] = [] := rfl
theorem strK_inj {a b : List Bs} (h : strs a = strs b) : a = b := by
  induction a generalizing b with
  | nil => cases b with
    | nil => rfl
    | cons y ys => simp [strs] at h
  | cons x xs ih => cases b with
    | nil => simp [strs] at h
    | cons y ys =>
      unfold strs at h
      rw [List.map_cons, List.map_cons] at h
      simp only [List.cons.injEq, PV.str.injEq, and_true] at h
      rw [h.1, ih h.2]
theorem strs_iff {a b : List Bs} : strs a = strs b ↔ a = b := ⟨strK_inj, fun h => h ▸ rfl⟩
/-- Lengths that are numbers. -/
def okF (l : List FieldD) : Prop := l.length ≤ 9223372036854775807 ∧ ∀ f ∈ l, f.name.length ≤ 9223372036854775807 ∧ f.text.length ≤ 9223372036854775807 ∧ f.items.length ≤ 9223372036854775807 ∧ ∀ t ∈ f.items, t.length ≤ 9223372036854775807
end Go.Proofs.Ytoocbpendccngaa
