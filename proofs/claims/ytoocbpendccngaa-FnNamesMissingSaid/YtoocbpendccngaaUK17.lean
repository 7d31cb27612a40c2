/- Rows of numbers; holes with their states, by places; their weights. Plain. -/
import Derived.Test.YtoocbpendccngaaUK3
import Derived.Test.YtoocbpendccngaaUFL

namespace Go.Proofs.Ytoocbpendccngaa
set_option maxRecDepth 100000
set_option linter.unusedVariables false
set_option linter.unusedSimpArgs false
open Go.RowKit
theorem wtL_take (xs : List PartD) (k : Nat) : wtL (xs.take k) ≤ wtL xs := by
  have := wtL_append (xs.take k) (xs.drop k)
  rw [List.take_append_drop] at this; omega
end Go.Proofs.Ytoocbpendccngaa
