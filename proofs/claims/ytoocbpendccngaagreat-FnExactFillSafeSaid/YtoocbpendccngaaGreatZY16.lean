/- The law's walk: FillPlain, exactly. -/
import Derived.Test.YtoocbpendccngaaGreatZX9
import Derived.Test.YtoocbpendccngaaGreatZD1
import Derived.Test.YtoocbpendccngaaGreatZK3
import Derived.Test.YtoocbpendccngaaGreatZX16
import Derived.Test.YtoocbpendccngaaGreatZS7
import Derived.Test.YtoocbpendccngaaGreatZT2

namespace Go.Proofs.YtoocbpendccngaaGreat
set_option maxRecDepth 100000
set_option linter.unusedVariables false
set_option linter.unusedSimpArgs false
open Go.RowKit
--LV=Y16
theorem wtF_mem : ∀ {l : List FieldD} {f : FieldD}, f ∈ l → wtF f ≤ wtFs l
  | g :: r, f, hf => by
    have e : wtFs (g :: r) = wtF g + wtFs r := by simp [wtFs]
    rcases List.mem_cons.1 hf with rfl | hf
    · omega
    · have := wtF_mem hf; omega
theorem ok_items {l : List FieldD} (hw : l.length + wtFs l ≤ 1048576) : l.length ≤ 1048576 ∧ ∀ f ∈ l, f.items.length ≤ 1048576 := by
  refine ⟨by omega, fun f hf => ?_⟩
  have := wtF_mem hf
  unfold wtF at this
  omega
end Go.Proofs.YtoocbpendccngaaGreat
