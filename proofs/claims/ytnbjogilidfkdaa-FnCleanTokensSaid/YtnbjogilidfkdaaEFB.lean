/- strings.Builder: its methods' contracts over a builder of one's own. -/
import Derived.Test.YtnbjogilidfkdaaETY
import Derived.Test.YtnbjogilidfkdaaRows
import Derived.Lib.Builder
import Derived.Lib.AppendStr
import Derived.Lib.MakeNoZero
import Derived.Shelf.RegionOpenPlain
import Derived.Shelf.Strings.BuilderK

namespace Go.Proofs.Ytnbjogilidfkdaa
set_option maxRecDepth 100000
set_option linter.unusedVariables false
set_option linter.unusedSimpArgs false
open Go.RowKit
/-- All but these blocks is as it was. -/
structure Kp (w w':World) (S:Nat→Prop):Prop where
 os:w'.os=w.os
 tape:w'.tape=w.tape
 output:w'.output=w.output
 size:w.heap.size≤w'.heap.size
 block: ∀ k,k<w.heap.size→ ¬ S k→w'.heap[k]?=w.heap[k]?
theorem Kp.refl (w:World) (S:Nat→Prop):Kp w w S:=⟨rfl,rfl,rfl,Nat.le_refl _,fun _ _ _=>rfl⟩
theorem Kp.trans {a b c:World} {S T:Nat→Prop} (h:Kp a b S) (k:Kp b c T) (hT: ∀ x,x<a.heap.size→T x→S x):Kp a c S :=
 ⟨k.os.trans h.os,k.tape.trans h.tape,k.output.trans h.output,Nat.le_trans h.size k.size,fun x hx hs=>(k.block x (Nat.lt_of_lt_of_le hx h.size) (fun ht=>hs (hT x hx ht))).trans (h.block x hx hs)⟩
theorem Kp.setCell (a:World) (b o:Nat) (v:Value):Kp a (a.setCell ⟨b,o,none⟩ v) (· =b) :=
 ⟨rfl,rfl,rfl,by simp [World.setCell],fun k _ hs=>Below.heap_setCell _ _ _ _ hs⟩
theorem Kp.alloc (a:World) (o:Obj) (S:Nat→Prop):Kp a (a.alloc o) S:=⟨rfl,rfl,rfl,by simp,fun k hk _=>heap_alloc_lt _ _ hk⟩
theorem Kp.drew (a:World) (S:Nat→Prop):Kp a a.drew S:=⟨rfl,rfl,rfl,Nat.le_refl _,fun k hk _=>rfl⟩
theorem Kp.freeze (a:World) (g n:Nat):Kp a (a.freeze ⟨g,0,none⟩ n) (· =g):=by
 unfold World.freeze
 split
 · exact .refl _ _
 · exact ⟨rfl,rfl,rfl,by simp,fun k hk hs=>by simp [Array.getElem?_modify,Ne.symm hs]⟩
/-- A builder at a block, in a world. -/
def BAt (w:World) (b:Nat) (p buf:Value) (l:List UInt8):Prop :=
 w.heap[b]?=some (.cells #[p,buf] 67 (0,0))∧(p= .pointer none∨p= .pointer (some ⟨b,0,none⟩))∧w.ownsRow 0 5 1 buf l.length (Lib.byteCells l)∧buf.ownBlock≠some b
def BAtF (w:World) (b:Nat) (p buf:Value) (l:List UInt8):Prop :=
 w.heap[b]?=some (.cells #[p,buf] 67 (0,0))∧(p= .pointer none∨p= .pointer (some ⟨b,0,none⟩))∧w.ownsRowF 0 5 1 buf l.length (Lib.byteCells l)∧buf.ownBlock≠some b
theorem BAtF.of {w:World} {b:Nat} {p buf:Value} {l:List UInt8} (h:BAt w b p buf l):BAtF w b p buf l:=⟨h.1,h.2.1,World.ownsRowF_of h.2.2.1,h.2.2.2⟩
end Go.Proofs.Ytnbjogilidfkdaa
