/- Parts of templates, as data: their number, depth, validity. No program. -/
import Derived.Test.YtdedddmnacomfaaWFL
import Derived.Test.YtdedddmnacomfaaWTY
import Derived.Lib.IndexMore

namespace Go.Proofs.Ytdedddmnacomfaa
set_option maxRecDepth 100000
set_option linter.unusedVariables false
set_option linter.unusedSimpArgs false
open Go.RowKit
mutual
def cntP : PartD → Nat
  | .mk _ _ _ ps os => cntL ps + cntL os
def cntL : List PartD → Nat
  | [] => 0
  | x :: xs => 1 + cntP x + cntL xs
end
mutual
theorem cntP_le : ∀ x : PartD, cntP x ≤ wtP x
  | .mk _ _ _ ps os => by
    have h1 := cntL_le ps
    have h2 := cntL_le os
    simp only [cntP, wtP]
    omega
theorem cntL_le : ∀ xs : List PartD, cntL xs ≤ wtL xs
  | [] => by simp [cntL]
  | x :: xs => by
    have h1 := cntP_le x
    have h2 := cntL_le xs
    simp only [cntL, wtL]
    omega
end
theorem cntL_append : ∀ xs ys : List PartD, cntL (xs ++ ys) = cntL xs + cntL ys
  | [], ys => by simp [cntL]
  | x :: r, ys => by simp only [List.cons_append, cntL, cntL_append r ys]; omega
theorem cntL_nil : cntL [] = 0 := by simp [cntL]
theorem cntL_one (x : PartD) : cntL [x] = 1 + cntP x := by simp [cntL]
theorem cntP_mk (k : Int) (t n : Bs) (ps os : List PartD) : cntP (.mk k t n ps os) = cntL ps + cntL os := by simp [cntP]
def PartD.kind : PartD → Int
  | .mk k _ _ _ _ => k
/-- Two bytes of a kind, one behind the other. -/
def dbl (c : UInt8) : Bs → Bool
  | a :: b :: r => (decide (a = c) && decide (b = c)) || dbl c (b :: r)
  | _ => false
def brace (b : UInt8) : Bool := hasB [123, 125] b
theorem brace_iff (b : UInt8) : brace b = true ↔ b.toNat = 123 ∨ b.toNat = 125 := by
  simp [brace, hasB]
  omega
def edgeT (t : Bs) : Bool := brace (t.getD 0 0) || brace (t.getD (t.length - 1) 0)
def wordB (n : Bs) : Bool := decide (n = [105, 102]) || decide (n = [101, 97, 99, 104]) || decide (n = [101, 108, 115, 101]) || decide (n = [101, 110, 100])
/-- The text of a PartText. -/
def txtB (t : Bs) : Bool := textB t && !decide (t = []) && !dbl 123 t && !dbl 125 t && !edgeT t
mutual
/-- A valid part, but for its neighbour; within it, at most d within each other. -/
def gdP : Nat → PartD → Bool
  | d, .mk k t n ps os =>
    if k = 1 then txtB t && decide (n = []) && decide (ps = []) && decide (os = [])
    else if k = 2 then nameB n && !wordB n && decide (t = []) && decide (ps = []) && decide (os = [])
    else if k = 3 ∨ k = 4 then nameB n && decide (t = []) && !(decide (k = 4) && !decide (os = [])) && !decide (d = 0) && gdL (d - 1) false ps && gdL (d - 1) false os
    else false
/-- Valid parts; b: a PartText stands before them. -/
def gdL : Nat → Bool → List PartD → Bool
  | _, _, [] => true
  | d, b, x :: xs => gdP d x && !(b && decide (x.kind = 1)) && gdL d (decide (x.kind = 1)) xs
end
def partsB (xs : List PartD) : Bool := decide (cntL xs ≤ 30) && gdL 3 false xs
theorem dbl_contains (c : UInt8) : ∀ s : Bs, Lib.contains s [c, c] = dbl c s
  | [] => by simp [Lib.contains, Lib.index, dbl]
  | [a] => by simp [Lib.contains, Lib.index, dbl]
  | a :: b :: r => by
    have ih := dbl_contains c (b :: r)
    unfold Lib.contains at *
    have hge := Lib.index_ge (b :: r) [c, c]
    rw [Lib.index, dbl, ← ih]
    by_cases h : [c, c].isPrefixOf (a :: b :: r) = true
    · rw [if_pos h]
      simp only [List.isPrefixOf, Bool.and_eq_true, beq_iff_eq] at h
      simp [h.1.symm, h.2.1.symm]
    · rw [if_neg h]
      have h2 : (decide (a = c) && decide (b = c)) = false := by
        simp only [List.isPrefixOf, Bool.and_eq_true, beq_iff_eq] at h
        simp only [Bool.and_eq_false_iff, decide_eq_false_iff_not]
        by_cases e : a = c
        · right; intro e2; exact h ⟨e.symm, e2.symm, trivial⟩
        · exact .inl e
      rw [h2, Bool.false_or]
      split
      · rename_i h3; simp only [beq_iff_eq] at h3; simp [h3]
      · rename_i h3; simp only [beq_iff_eq] at h3; rw [decide_eq_decide]; omega
theorem dbl_drop {c : UInt8} {s : Bs} {k : Nat} (h : k + 1 < s.length) : dbl c (s.drop k) = ((decide (s.getD k 0 = c) && decide (s.getD (k + 1) 0 = c)) || dbl c (s.drop (k + 1))) := by
  rw [drop_getD (show k < s.length by omega), drop_getD (k := k + 1) (by omega)]
  generalize s.getD k 0 = x
  generalize s.getD (k + 1) 0 = y
  rw [dbl]
theorem dbl_end {c : UInt8} {s : Bs} {k : Nat} (h : ¬ k + 1 < s.length) : dbl c (s.drop k) = false := by
  have hl : (s.drop k).length ≤ 1 := by simp; omega
  match h1 : s.drop k with
  | [] => rfl
  | [a] => rfl
  | a :: b :: r => rw [h1] at hl; simp at hl
/-- Whether a PartText stands at the end. -/
def lastT (b : Bool) : List PartD → Bool
  | [] => b
  | [x] => decide (x.kind = 1)
  | _ :: y :: r => lastT b (y :: r)
theorem lastT_cons (b : Bool) (x : PartD) (xs : List PartD) : lastT b (x :: xs) = lastT (decide (x.kind = 1)) xs := by
  induction xs generalizing x b with
  | nil => rfl
  | cons y r ih => rw [lastT, ih, ih]
theorem gdL_append (d : Nat) : ∀ (xs ys : List PartD) (b : Bool), gdL d b (xs ++ ys) = (gdL d b xs && gdL d (lastT b xs) ys)
  | [], ys, b => by simp [gdL, lastT]
  | x :: xs, ys, b => by
    rw [List.cons_append, gdL, gdL, gdL_append d xs ys, lastT_cons]
    simp only [Bool.and_assoc]
theorem gdL_one (d : Nat) (b : Bool) (x : PartD) : gdL d b [x] = (gdP d x && !(b && decide (x.kind = 1))) := by simp [gdL]
theorem gdL_nil (d : Nat) (b : Bool) : gdL d b [] = true := by simp [gdL]
theorem lastT_snoc (b : Bool) (xs : List PartD) (x : PartD) : lastT b (xs ++ [x]) = decide (x.kind = 1) := by
  induction xs generalizing b with
  | nil => rfl
  | cons y r ih => rw [List.cons_append, lastT_cons, ih]
theorem lastT_take {xs : List PartD} {k : Nat} {x : PartD} (h : xs[k]? = some x) : lastT false (xs.take (k + 1)) = decide (x.kind = 1) := by
  rw [take_snoc' h, lastT_snoc]
theorem lastT_zero {xs : List PartD} : lastT false (xs.take 0) = false := rfl
theorem gdL_step {d : Nat} {xs : List PartD} {k : Nat} {x : PartD} (h : xs[k]? = some x) (h0 : gdL d false (xs.take k) = true) (h1 : gdP d x = true) (h2 : (lastT false (xs.take k) && decide (x.kind = 1)) = false) : gdL d false (xs.take (k + 1)) = true := by
  rw [take_snoc' h, gdL_append, gdL_one, h0, h1, h2]; rfl
theorem gdL_fail {d : Nat} {xs : List PartD} {k : Nat} {x : PartD} (h : xs[k]? = some x) (h1 : gdP d x = false ∨ (lastT false (xs.take k) && decide (x.kind = 1)) = true) : gdL d false xs = false := by
  have e : xs = xs.take (k + 1) ++ xs.drop (k + 1) := (List.take_append_drop _ _).symm
  rw [e, gdL_append, take_snoc' h, gdL_append, gdL_one]
  rcases h1 with h1 | h1 <;> simp [h1]
theorem gdP_mk (d : Nat) (k : Int) (t n : Bs) (ps os : List PartD) : gdP d (.mk k t n ps os) =
    if k = 1 then txtB t && decide (n = []) && decide (ps = []) && decide (os = [])
    else if k = 2 then nameB n && !wordB n && decide (t = []) && decide (ps = []) && decide (os = [])
    else if k = 3 ∨ k = 4 then nameB n && decide (t = []) && !(decide (k = 4) && !decide (os = [])) && !decide (d = 0) && gdL (d - 1) false ps && gdL (d - 1) false os
    else false := by rw [gdP]
theorem kind_mk (k : Int) (t n : Bs) (ps os : List PartD) : (PartD.mk k t n ps os).kind = k := rfl
end Go.Proofs.Ytdedddmnacomfaa
