/- Memory: rows of bytes, cells of a call's own, small laws on worlds. No program. -/
import Derived.WalkKit
import Derived.WalkSpells
import Derived.WalkLawsBesides
import Derived.Laws.OwnMore
import Derived.Laws.IdiomStrings
import Derived.Lib.ConvBytes
import Derived.Lib.Strings

namespace Go.Proofs.YtnbjogilidfkdaaGreat
set_option maxRecDepth 100000
set_option linter.unusedVariables false
set_option linter.unusedSimpArgs false
open Go.RowKit
theorem toList_data (s:ByteArray):s.toList=s.data.toList:=Lib.toList_data s
/-- Block b holds the bytes l from its beginning on, and may be written there. -/
def OwnBytes (w:World) (b:Nat) (l:List UInt8):Prop :=
 ∀ j,j<l.length→w.cell? ⟨b,j,none⟩=some (.int .u8 (l.getD j 0).toNat)∧w.frozen? ⟨b,j,none⟩=false
theorem OwnBytes.set {w:World} {b:Nat} {l:List UInt8} (h:OwnBytes w b l) (k:Nat) (c:UInt8) :
 OwnBytes (w.setCell ⟨b,k,none⟩ (.int .u8 c.toNat)) b (l.set k c):=by
 intro j hj
 have hj':j<l.length:=by simpa using hj
 obtain ⟨h1,h2⟩:=h j hj'
 refine ⟨?_,?_⟩
 · by_cases e:k=j
   · subst e
     rw [World.cell?_setCell_same _ _ _ h1]
     simp [List.getD,hj']
   · rw [World.cell?_setCell_other _ _ _ _ (by simp only [ne_eq,Addr.mk.injEq];omega),h1]
     simp [List.getD,e]
 · simpa using h2
theorem OwnBytes.drew {w:World} {b:Nat} {l:List UInt8} (h:OwnBytes w b l):OwnBytes w.drew b l:=h
theorem OwnBytes.str {w:World} {b:Nat} {l:List UInt8} (h:OwnBytes w b l): ∀ j (hj:j<l.length),w.cell? ((⟨b,0,none⟩:Addr).add j)=some (.int .u8 (l[j].toNat:Int)):=by
 intro j hj
 have:=(h j hj).1
 simp only [List.getD_eq_getElem?_getD,List.getElem?_eq_getElem hj,Option.getD_some] at this
 have e:(⟨b,0,none⟩:Addr).add j=⟨b,j,none⟩:=by unfold Addr.add;split<;>simp_all
 rw [e];exact this
/-- What '[]byte(s)' lays. -/
theorem OwnBytes.conv (w:World) (e:TypeId) (s:ByteArray) (c:Nat) (hc:s.size≤c) :
 OwnBytes (w.alloc (.cells (bytesRow s c) e ((bytesRow s c).size,(bytesRow s c).size+1))) w.heap.size s.data.toList:=by
 intro j hj
 have hj':j<s.size:=by simpa using hj
 have hsz:(bytesRow s c).size=c:=by simp [bytesRow];omega
 refine ⟨?_,?_⟩
 · rw [World.cell?_alloc_mark]
   simp [bytesRow,Array.getElem?_append,List.getD,hj']
 · have:(w.alloc (.cells (bytesRow s c) e ((bytesRow s c).size,(bytesRow s c).size+1))).heap[w.heap.size]?=some (.cells (bytesRow s c) e ((bytesRow s c).size,(bytesRow s c).size+1)):=by
    show (w.heap.push _)[w.heap.size]?=_
    simp
   have hz:(bytesRow s c).size=c:=hsz
   unfold World.frozen?
   rw [this]
   simp only [hz]
   simp
   omega
/-- Block g is just the cells cs of element type t, none frozen. -/
def Blk (w:World) (g:Nat) (t:TypeId) (cs:Array Value):Prop:=w.heap[g]?=some (.cells cs t (0,0))
section
variable {w w':World} {g:Nat} {t:TypeId} {cs:Array Value}
theorem Blk.lt (h:Blk w g t cs):g<w.heap.size:=by
 rcases Nat.lt_or_ge g w.heap.size with hlt|hge
 · exact hlt
 · unfold Blk at h;rw [Array.getElem?_eq_none hge] at h;cases h
theorem Blk.cell (h:Blk w g t cs) (i:Nat):w.cell? ⟨g,i,none⟩=cs[i]?:=cell_of_row w g i cs t (0,0) h
theorem Blk.frozen (h:Blk w g t cs) (i:Nat):w.frozen? ⟨g,i,none⟩=false:=by
 unfold Blk at h
 simp [World.frozen?,h]
theorem Blk.new (w:World) (t:TypeId) (cs:Array Value) (hg:g=w.heap.size):Blk (w.alloc (.cells cs t)) g t cs:=by
 subst hg;exact heap_alloc_new w _
theorem Blk.drew (h:Blk w g t cs):Blk w.drew g t cs:=h
theorem Blk.alloc (h:Blk w g t cs) (o:Obj):Blk (w.alloc o) g t cs:=(Below.heap_alloc w o g h.lt).trans h
theorem Blk.c1 {a:Value} (h:Blk w g t #[a]):w.cell? ⟨g,0,none⟩=some a∧w.frozen? ⟨g,0,none⟩=false :=
 ⟨h.cell 0,h.frozen 0⟩
theorem Blk.c2 {a b:Value} (h:Blk w g t #[a,b]):w.cell? ⟨g,0,none⟩=some a∧w.cell? ⟨g,1,none⟩=some b∧w.frozen? ⟨g,0,none⟩=false∧w.frozen? ⟨g,1,none⟩=false :=
 ⟨h.cell 0,h.cell 1,h.frozen 0,h.frozen 1⟩
end
end Go.Proofs.YtnbjogilidfkdaaGreat
