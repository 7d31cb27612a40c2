/- Parts of templates, as data: their number, depth, validity. No program. -/
import Derived.Test.YtnbjogilidfkdaaEF12
import Derived.Test.YtnbjogilidfkdaaETY
import Derived.Lib.IndexMore

namespace Go.Proofs.Ytnbjogilidfkdaa
set_option maxRecDepth 100000
set_option linter.unusedVariables false
set_option linter.unusedSimpArgs false
open Go.RowKit
def PartD.kind:PartD→Int
 | .mk k _ _ _ _=>k
end Go.Proofs.Ytnbjogilidfkdaa
