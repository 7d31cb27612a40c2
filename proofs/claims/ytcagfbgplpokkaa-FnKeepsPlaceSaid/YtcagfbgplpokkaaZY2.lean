/- The laws' own functions on parts, of any weight; the law's walk: DeepestPart. -/
import Derived.Test.YtcagfbgplpokkaaZX9
import Derived.Test.YtcagfbgplpokkaaZX2
import Derived.Test.YtcagfbgplpokkaaZLQ

namespace Go.Proofs.Ytcagfbgplpokkaa
set_option maxRecDepth 100000
set_option linter.unusedVariables false
set_option linter.unusedSimpArgs false
open Go.RowKit
@[go_sem] theorem eqB_rfl {α : Type} (a : α) : eqB a a = true := eqB_t.2 rfl
end Go.Proofs.Ytcagfbgplpokkaa
