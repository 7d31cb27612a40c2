/- The law's walk over drawn parts and data: FillPlain. -/
import Derived.Test.YtnbjogilidfkdaaGreatVF12
import Derived.Test.YtnbjogilidfkdaaGreatVK3
import Derived.Test.YtnbjogilidfkdaaGreatVX16
import Derived.Test.YtnbjogilidfkdaaGreatVS7
import Derived.Test.YtnbjogilidfkdaaGreatVR11
import Derived.Test.YtnbjogilidfkdaaGreatVXC

namespace Go.Proofs.YtnbjogilidfkdaaGreat
set_option maxRecDepth 100000
set_option linter.unusedVariables false
set_option linter.unusedSimpArgs false
open Go.RowKit
--LV=Y18
theorem bdFs_ok {d:List FieldD} (h:bdFs d):okF d:=⟨by have:=h.1;omega,fun f hf=>by
 obtain ⟨h1,h2,h3,h4⟩:=h.2 f hf
 exact ⟨by omega,by omega,by omega,fun t ht=>by have:=h4 t ht;omega⟩⟩
end Go.Proofs.YtnbjogilidfkdaaGreat
