/- Schemes of addresses, escapers of places, places that are kept: as data. No program. -/
import Derived.Test.YtdedddmnacomfaaVFM
import Derived.Lib.Bytealg

namespace Go.Proofs.Ytdedddmnacomfaa
set_option maxRecDepth 100000
set_option linter.unusedVariables false
set_option linter.unusedSimpArgs false
open Go.RowKit
theorem step_val {s : St} (h : stV s = true) (b : UInt8) : step s b = stepV s b := by unfold step; rw [if_pos h]
end Go.Proofs.Ytdedddmnacomfaa
