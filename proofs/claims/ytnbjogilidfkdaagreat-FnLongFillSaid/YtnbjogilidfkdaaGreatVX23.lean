/- Contracts: the reference's l15Places, HolePlaces. -/
import Derived.Test.YtnbjogilidfkdaaGreatVK3
import Derived.Test.YtnbjogilidfkdaaGreatVS10

namespace Go.Proofs.YtnbjogilidfkdaaGreat
set_option maxRecDepth 100000
set_option linter.unusedVariables false
set_option linter.unusedSimpArgs false
open Go.RowKit
--LV=X23
theorem sl_one {xs:List PartD} {k:Nat} {x:PartD} (h:xs[k]?=some x):List.drop k (List.take (k+1) (encPs xs))=encPs [x]:=by
 obtain ⟨hk,rfl⟩:=List.getElem?_eq_some_iff.1 h
 rw [encPs_map,encPs_map,← List.map_take,← List.map_drop,List.take_succ_eq_append_getElem hk,List.drop_append_of_le_length (by rw [List.length_take];omega),List.drop_of_length_le (by rw [List.length_take];omega),List.nil_append]
end Go.Proofs.YtnbjogilidfkdaaGreat
