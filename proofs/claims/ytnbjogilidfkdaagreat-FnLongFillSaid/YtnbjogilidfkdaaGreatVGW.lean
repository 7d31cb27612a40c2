/- The library's variables at a law's first world; a walk of a law out of its contract. -/
import Derived.Test.YtnbjogilidfkdaaGreatVF12
import Derived.Test.YtnbjogilidfkdaaGreatVTY
import Derived.Shelf.Vars

namespace Go.Proofs.YtnbjogilidfkdaaGreat
set_option maxRecDepth 100000
set_option linter.unusedVariables false
set_option linter.unusedSimpArgs false
open Go.RowKit
theorem globW {W:World} (h:W.ShapedOpen Tryz.prog):GlobW W:=by
 intro g hg
 unfold globs at hg
 simp only [List.mem_cons,List.not_mem_nil,or_false] at hg
 first
  | exact hg.elim
  | (subst hg
     obtain ⟨m,hm⟩:=Go.Proofs.cell_of_shapedOpen_int (zero:= #[.int .i64 0]) (t:=3) h (of_decide_eq_true (by kernel_rfl)) (by kernel_rfl) rfl (by kernel_rfl) (by kernel_rfl) Tryz.underlying3
     refine ⟨?_,m,hm⟩
     unfold World.cell? at hm
     refine Nat.lt_of_not_le fun hle=>?_
     rw [Array.getElem?_eq_none (by simpa using hle)] at hm
     cases hm)
/-- A function that comes back to itself is among those that are reached. -/
theorem rec_of {P:Program} {f g h:FuncId} {fn:Func} (h1:(P.closure f).contains g=true) (h2:P.funcs[g]?=some fn) (h3:(P.leadsTo fn).contains h=true) (h4:(P.closure h).contains g=true):P.recurses f=true:=by
 unfold Program.recurses
 rw [Bool.or_eq_true,List.any_eq_true]
 refine .inr ⟨g,List.contains_iff_mem.1 h1,?_⟩
 rw [h2,List.any_eq_true]
 exact ⟨h,List.contains_iff_mem.1 h3,h4⟩
theorem true_of_pure {W:World} {f:FuncId} {vs:Array Value} (h:Calls Tryz.prog f vs W fun e W'=> ∃ v,e= .returned v∧Rep (.bool true) ⟨W',fun b=>b<W'.heap.size,fun _=>none⟩ v∧Below W.heap.size W W') :
 Calls Tryz.prog f vs W fun e W'=>e= .returned (.bool true)∧Below W.heap.size W W':=by
 refine h.mono ?_
 rintro e w' ⟨v,rfl,hr,hb⟩
 unfold Rep at hr
 subst hr
 exact ⟨rfl,hb⟩
end Go.Proofs.YtnbjogilidfkdaaGreat
