/- Schemes of addresses, escapers of places, places that are kept: as data. No program. -/
import Derived.Test.YtoocbpendccngaaZFM
import Derived.Lib.Bytealg

namespace Go.Proofs.Ytoocbpendccngaa
set_option maxRecDepth 100000
set_option linter.unusedVariables false
set_option linter.unusedSimpArgs false
open Go.RowKit
theorem step_val {s : St} (h : stV s = true) (b : UInt8) : step s b = stepV s b := by unfold step; rw [if_pos h]
theorem st_mode0 {s : St} (h : stV s = true) (hm : s.mode = 0) : s = st0 := by
  have h1 := stV_tag0 h (by omega)
  have h2 := stV_attr0 h (by omega)
  have h3 := stV_seen0 h (by omega)
  cases s
  simp only at hm h1 h2 h3
  subst hm h1 h2 h3
  rfl
end Go.Proofs.Ytoocbpendccngaa
