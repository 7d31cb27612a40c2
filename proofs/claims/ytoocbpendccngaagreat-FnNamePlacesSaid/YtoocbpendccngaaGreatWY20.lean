/- The law's walk over drawn parts: NamesUsed. -/
import Derived.Test.YtoocbpendccngaaGreatWX29
import Derived.Test.YtoocbpendccngaaGreatWR3
import Derived.Test.YtoocbpendccngaaGreatWY9

namespace Go.Proofs.YtoocbpendccngaaGreat
set_option maxRecDepth 100000
set_option linter.unusedVariables false
set_option linter.unusedSimpArgs false
open Go.RowKit
--LV=Y20
theorem usedM_len (xs : List PartD) (q : Int) : (usedM xs q).length ≤ wtL xs := by
  unfold usedM
  split
  · exact Nat.le_trans (usedL_len _) (nmL_len q xs)
  · simp
end Go.Proofs.YtoocbpendccngaaGreat
