/- Contracts: the reference's NamesUsed. -/
import Derived.Test.YtoocbpendccngaaGreatWX26
import Derived.Test.YtoocbpendccngaaGreatWX9

namespace Go.Proofs.YtoocbpendccngaaGreat
set_option maxRecDepth 100000
set_option linter.unusedVariables false
set_option linter.unusedSimpArgs false
open Go.RowKit
--LV=X28
@[go_sem] def nuC : PC := rel (α := List PartD × Int) (fun x => [.seq (encPs x.1), .int .i64 x.2]) (fun x => wtL x.1 ≤ 1073741824) (fun x => .seq (strs (usedM x.1 x.2)))
theorem kindOk_iff (q : Int) : kindOk q = true ↔ q = 0 ∨ q = 2 ∨ q = 3 ∨ q = 4 := by
  unfold kindOk
  simp only [Bool.or_eq_true, decide_eq_true_eq, or_assoc]
end Go.Proofs.YtoocbpendccngaaGreat
