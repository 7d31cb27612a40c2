/- Two filled templates and their tokens: a hole's value comes back; an address stays safe. Plain. -/
import Derived.Test.YtnbjogilidfkdaaWK22
import Derived.Test.YtnbjogilidfkdaaWK3
import Derived.Test.YtnbjogilidfkdaaWX9

namespace Go.Proofs.Ytnbjogilidfkdaa
set_option maxRecDepth 100000
set_option linter.unusedVariables false
set_option linter.unusedSimpArgs false
open Go.RowKit
def hv1 : Bs := [60, 112, 32, 116, 105, 116, 108, 101, 61, 34]
def hv2 : Bs := [34, 62]
end Go.Proofs.Ytnbjogilidfkdaa
