/- The laws' own functions on parts, of any weight; the law's walk: DeepestPart. -/
import Derived.Test.YtnbjogilidfkdaaGreatQX9
import Derived.Test.YtnbjogilidfkdaaGreatQLQ

namespace Go.Proofs.YtnbjogilidfkdaaGreat
set_option maxRecDepth 100000
set_option linter.unusedVariables false
set_option linter.unusedSimpArgs false
open Go.RowKit
@[go_sem] def szQ:PC:=rel (α:=List PartD×Int) (fun x=>[.seq (encPs x.1),.int .i64 x.2]) (fun x=>okL x.1∧x.1.length≤9223372036854775807∧0≤x.2∧x.2≤1048576) (fun x=> .int .i64 (leftI x.2 (wtL x.1)))
@[go_sem] def toQ:PC:=rel (α:=List PartD) (fun x=>[.seq (encPs x)]) (fun x=>okL x∧wtL x≤1048576) (fun x=> .seq (encPs x))
@[go_sem] noncomputable def eqQ:PC:=rel (α:=List PartD×List PartD) (fun x=>[.seq (encPs x.1),.seq (encPs x.2)]) (fun x=>okL x.1∧okL x.2∧x.1.length≤9223372036854775807∧x.2.length≤9223372036854775807) (fun x=> .bool (eqB x.1 x.2))
theorem sz_c:PureOk Tryz.prog 12 szQ:=rel_all (fun x:List PartD×Int=>wtL x.1) fun n=>(sz_all n).1
theorem to_c:PureOk Tryz.prog 15 toQ:=rel_all (fun x:List PartD=>wtL x) fun n=>(to_all n).1
theorem eq_c:PureOk Tryz.prog 18 eqQ:=rel_all (fun x:List PartD×List PartD=>wtL x.1) fun n=>(eq_all n).1
@[go_sem] theorem eqB_rfl {α:Type} (a:α):eqB a a=true:=eqB_t.2 rfl
end Go.Proofs.YtnbjogilidfkdaaGreat
