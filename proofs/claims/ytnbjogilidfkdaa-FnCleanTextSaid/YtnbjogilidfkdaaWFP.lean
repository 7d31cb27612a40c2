/- Parts of templates, as data: their number, depth, validity. No program. -/
import Derived.Test.YtnbjogilidfkdaaWD1
import Derived.Test.YtnbjogilidfkdaaWFM
import Derived.Lib.IndexMore

namespace Go.Proofs.Ytnbjogilidfkdaa
set_option maxRecDepth 100000
set_option linter.unusedVariables false
set_option linter.unusedSimpArgs false
open Go.RowKit
def PartD.kind : PartD → Int
  | .mk k _ _ _ _ => k
/-- Two bytes of a kind, one behind the other. -/
def dbl (c : UInt8) : Bs → Bool
  | a :: b :: r => (decide (a = c) && decide (b = c)) || dbl c (b :: r)
  | _ => false
def brace (b : UInt8) : Bool := hasB [123, 125] b
def edgeT (t : Bs) : Bool := brace (t.getD 0 0) || brace (t.getD (t.length - 1) 0)
def wordB (n : Bs) : Bool := decide (n = [105, 102]) || decide (n = [101, 97, 99, 104]) || decide (n = [101, 108, 115, 101]) || decide (n = [101, 110, 100])
/-- The text of a PartText. -/
def txtB (t : Bs) : Bool := textB t && !decide (t = []) && !dbl 123 t && !dbl 125 t && !edgeT t
mutual
/-- A valid part, but for its neighbour; within it, at most d within each other. -/
def gdP : Nat → PartD → Bool
  | d, .mk k t n ps os =>
    if k = 1 then txtB t && decide (n = []) && decide (ps = []) && decide (os = [])
    else if k = 2 then nameB n && !wordB n && decide (t = []) && decide (ps = []) && decide (os = [])
    else if k = 3 ∨ k = 4 then nameB n && decide (t = []) && !(decide (k = 4) && !decide (os = [])) && !decide (d = 0) && gdL (d - 1) false ps && gdL (d - 1) false os
    else false
/-- Valid parts; b: a PartText stands before them. -/
def gdL : Nat → Bool → List PartD → Bool
  | _, _, [] => true
  | d, b, x :: xs => gdP d x && !(b && decide (x.kind = 1)) && gdL d (decide (x.kind = 1)) xs
end
theorem gdP_mk (d : Nat) (k : Int) (t n : Bs) (ps os : List PartD) : gdP d (.mk k t n ps os) =
    if k = 1 then txtB t && decide (n = []) && decide (ps = []) && decide (os = [])
    else if k = 2 then nameB n && !wordB n && decide (t = []) && decide (ps = []) && decide (os = [])
    else if k = 3 ∨ k = 4 then nameB n && decide (t = []) && !(decide (k = 4) && !decide (os = [])) && !decide (d = 0) && gdL (d - 1) false ps && gdL (d - 1) false os
    else false := by rw [gdP]
end Go.Proofs.Ytnbjogilidfkdaa
