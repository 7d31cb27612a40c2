/- Data; what comes when parts are filled in: as data. No program. -/
import Derived.Test.YtoocbpendccngaaUTY
import Derived.Test.YtoocbpendccngaaUFP
import Derived.Lib.Bytealg

namespace Go.Proofs.Ytoocbpendccngaa
set_option maxRecDepth 100000
set_option linter.unusedVariables false
set_option linter.unusedSimpArgs false
open Go.RowKit
structure FieldD where
  name : Bs
  text : Bs
  holds : Bool
  items : List Bs
  deriving DecidableEq
def strs (l : List Bs) : List (List PV) := l.map fun t => [.str t]
def encF (f : FieldD) : List PV := [.str f.name, .str f.text, .bool f.holds, .seq (strs f.items)]
def encFs (l : List FieldD) : List (List PV) := l.map encF
def noF : FieldD := ⟨[], [], false, []⟩
def findF : List FieldD → Bs → FieldD
  | [], _ => noF
  | f :: r, n => if f.name = n then f else findF r n
def hasF (l : List FieldD) (n : Bs) : Bool := l.any fun f => decide (f.name = n)
def itemN : Bs := [105, 116, 101, 109]
def valB (s : Bs) : Bool := decide (s.length ≤ 40) && textB s
def fldB (f : FieldD) : Bool := nameB f.name && valB f.text && decide (f.items.length ≤ 5) && f.items.all valB
/-- Fields behind others: each valid, its name a new one. -/
def datL : List FieldD → List FieldD → Bool
  | _, [] => true
  | pre, f :: r => fldB f && !hasF pre f.name && datL (pre ++ [f]) r
def dataB (l : List FieldD) : Bool := decide (l.length ≤ 8) && datL [] l
theorem datL_append : ∀ (xs ys pre : List FieldD), datL pre (xs ++ ys) = (datL pre xs && datL (pre ++ xs) ys)
  | [], ys, pre => by simp [datL]
  | x :: xs, ys, pre => by
    rw [List.cons_append, datL, datL, datL_append xs ys, List.append_assoc, List.singleton_append]
    simp only [Bool.and_assoc]
theorem datL_take {l : List FieldD} {k : Nat} {f : FieldD} (h : l[k]? = some f) : datL [] (l.take (k + 1)) = (datL [] (l.take k) && (fldB f && !hasF (l.take k) f.name)) := by
  have e : l.take (k + 1) = l.take k ++ [f] := by
    obtain ⟨h1, rfl⟩ := List.getElem?_eq_some_iff.1 h
    exact List.take_succ_eq_append_getElem h1
  rw [e, datL_append, datL, datL, List.nil_append, Bool.and_true]
theorem datL_fail {l : List FieldD} {k : Nat} {f : FieldD} (h : l[k]? = some f) (hb : (fldB f && !hasF (l.take k) f.name) = false) : datL [] l = false := by
  have e : l = l.take (k + 1) ++ l.drop (k + 1) := (List.take_append_drop _ _).symm
  rw [e, datL_append, datL_take h, hb]; simp
/-- Bounds on data: texts are short, lists too. -/
def dBd (l : List FieldD) : Prop := ∀ f ∈ l, f.name.length ≤ 1000 ∧ f.text.length ≤ 40 ∧ f.items.length ≤ 5 ∧ ∀ t ∈ f.items, t.length ≤ 40
theorem datL_mem : ∀ {l pre : List FieldD}, datL pre l = true → ∀ f ∈ l, fldB f = true
  | [], _, _, f, hf => by simp at hf
  | x :: xs, pre, h, f, hf => by
    rw [datL] at h
    simp only [Bool.and_eq_true] at h
    rcases List.mem_cons.1 hf with rfl | hf
    · exact h.1.1
    · exact datL_mem h.2 f hf
theorem valB_len {s : Bs} (h : valB s = true) : s.length ≤ 40 := by
  unfold valB at h
  simp only [Bool.and_eq_true, decide_eq_true_eq] at h
  exact h.1
theorem dataB_bd {l : List FieldD} (h : dataB l = true) : dBd l := by
  unfold dataB at h
  simp only [Bool.and_eq_true] at h
  intro f hf
  have := datL_mem h.2 f hf
  unfold fldB at this
  simp only [Bool.and_eq_true, decide_eq_true_eq, List.all_eq_true] at this
  obtain ⟨⟨⟨h1, h2⟩, h3⟩, h4⟩ := this
  exact ⟨by have := (nameB_len h1).2; omega, valB_len h2, h3, fun t ht => valB_len (h4 t ht)⟩
end Go.Proofs.Ytoocbpendccngaa

/- Data: places of fields. Plain. -/
namespace Go.Proofs.Ytoocbpendccngaa
set_option maxRecDepth 100000
set_option linter.unusedVariables false
set_option linter.unusedSimpArgs false
open Go.RowKit
theorem encFs_get (l : List FieldD) (k : Nat) : (encFs l)[k]? = (l[k]?).map encF := by unfold encFs; rw [List.getElem?_map]
theorem strK_get (l : List Bs) (k : Nat) : (strs l)[k]? = (l[k]?).map fun t => [.str t] := by unfold strs; rw [List.getElem?_map]
theorem encFs_length (l : List FieldD) : (encFs l).length = l.length := by unfold encFs; simp
theorem strs_length (l : List Bs) : (strs l).length = l.length := by unfold strs; simp
theorem encFs_all (l : List FieldD) : (∀ e ∈ encFs l, e.length = 4) = True := eq_true (by
  intro e he; unfold encFs at he
  obtain ⟨f, _, rfl⟩ := List.mem_map.1 he; rfl)
theorem strs_all (l : List Bs) : (∀ e ∈ strs l, e.length = 1) = True := eq_true (by
  intro e he; unfold strs at he
  obtain ⟨f, _, rfl⟩ := List.mem_map.1 he; rfl)
theorem encF_mk (n t : Bs) (h : Bool) (i : List Bs) : encF ⟨n, t, h, i⟩ = [.str n, .str t, .bool h, .seq (strs i)] := rfl
theorem encFs_append (a b : List FieldD) : encFs (a ++ b) = encFs a ++ encFs b := by unfold encFs; rw [List.map_append]
theorem strs_nil : strs [] = [] := rfl
theorem strK_inj {a b : List Bs} (h : strs a = strs b) : a = b := by
  induction a generalizing b with
  | nil => cases b with
    | nil => rfl
    | cons y ys => simp [strs] at h
  | cons x xs ih => cases b with
    | nil => simp [strs] at h
    | cons y ys =>
      unfold strs at h
      rw [List.map_cons, List.map_cons] at h
      simp only [List.cons.injEq, PV.str.injEq, and_true] at h
      rw [h.1, ih h.2]
theorem encF_inj {f g : FieldD} (h : encF f = encF g) : f = g := by
  obtain ⟨n, t, b, i⟩ := f
  obtain ⟨n', t', b', i'⟩ := g
  rw [encF_mk, encF_mk] at h
  simp only [List.cons.injEq, PV.str.injEq, PV.bool.injEq, PV.seq.injEq, and_true] at h
  obtain ⟨rfl, rfl, rfl, h⟩ := h
  rw [strK_inj h]
theorem encFs_inj {a b : List FieldD} (h : encFs a = encFs b) : a = b := by
  induction a generalizing b with
  | nil => cases b with
    | nil => rfl
    | cons y ys => simp [encFs] at h
  | cons x xs ih => cases b with
    | nil => simp [encFs] at h
    | cons y ys =>
      unfold encFs at h
      rw [List.map_cons, List.map_cons, List.cons.injEq] at h
      rw [encF_inj h.1, ih h.2]
theorem encFs_iff {a b : List FieldD} : encFs a = encFs b ↔ a = b := ⟨encFs_inj, fun h => h ▸ rfl⟩
theorem strs_iff {a b : List Bs} : strs a = strs b ↔ a = b := ⟨strK_inj, fun h => h ▸ rfl⟩
/-- Lengths that are numbers. -/
def okF (l : List FieldD) : Prop := l.length ≤ 9223372036854775807 ∧ ∀ f ∈ l, f.name.length ≤ 9223372036854775807 ∧ f.text.length ≤ 9223372036854775807 ∧ f.items.length ≤ 9223372036854775807 ∧ ∀ t ∈ f.items, t.length ≤ 9223372036854775807
theorem okF_get {l : List FieldD} (h : okF l) {k : Nat} {f : FieldD} (hx : l[k]? = some f) : f.name.length ≤ 9223372036854775807 ∧ f.text.length ≤ 9223372036854775807 ∧ f.items.length ≤ 9223372036854775807 ∧ ∀ t ∈ f.items, t.length ≤ 9223372036854775807 := h.2 f (List.mem_of_getElem? hx)
theorem drop_at {α : Type} {l : List α} {k : Nat} {f : α} (hx : l[k]? = some f) : l.drop k = f :: l.drop (k + 1) := by
  obtain ⟨h1, rfl⟩ := List.getElem?_eq_some_iff.1 hx
  exact List.drop_eq_getElem_cons h1
theorem hasF_take {l : List FieldD} {k : Nat} {f : FieldD} (hx : l[k]? = some f) (n : Bs) : hasF (l.take (k + 1)) n = (hasF (l.take k) n || decide (f.name = n)) := by
  rw [take_snoc' hx]; unfold hasF; rw [List.any_append]; simp
theorem hasF_some {l : List FieldD} {k j : Nat} {f : FieldD} (hx : l[j]? = some f) (hj : j < k) : hasF (l.take k) f.name = true := by
  unfold hasF
  rw [List.any_eq_true]
  refine ⟨f, ?_, by simp⟩
  obtain ⟨h1, rfl⟩ := List.getElem?_eq_some_iff.1 hx
  rw [List.mem_take_iff_getElem]; exact ⟨j, by omega, rfl⟩
theorem items_all {l : List Bs} {k : Nat} {t : Bs} (hx : l[k]? = some t) : (l.take (k + 1)).all valB = ((l.take k).all valB && valB t) := by
  rw [take_snoc' hx, List.all_append]; simp
theorem items_bad {l : List Bs} {k : Nat} {t : Bs} (hx : l[k]? = some t) (h : valB t = false) : l.all valB = false := by
  rw [List.all_eq_false]
  exact ⟨t, List.mem_of_getElem? hx, by rw [h]; decide⟩
end Go.Proofs.Ytoocbpendccngaa
