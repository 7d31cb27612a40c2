/- Contracts: strings.Index, strings.Contains. -/
import Derived.Test.YtnbjogilidfkdaaGreatVX1
import Derived.Test.YtnbjogilidfkdaaGreatVSh
import Derived.Lib.IndexMore

namespace Go.Proofs.YtnbjogilidfkdaaGreat
set_option maxRecDepth 100000
set_option linter.unusedVariables false
set_option linter.unusedSimpArgs false
open Go.RowKit
@[go_sem] def conC:PC:=rel (α:=Bs×Bs) (fun x=>[.str x.1,.str x.2]) (fun x=>x.1.length<4294967281) (fun x=> .bool (Lib.contains x.1 x.2))
theorem cont_any:PureOk Tryz.prog 124 conC:=by
 refine rel_of_calls ⟨_,Tryz.func124,by kernel_rfl,by kernel_rfl⟩ ?_
 rintro c ⟨s,x⟩ vs hc hl hr
 simp only [RepL.cons_iff,RepL.nil_iff] at hr
 obtain ⟨v,_,rfl,hv,u,_,rfl,hu,rfl⟩:=hr
 unfold Rep at hv hu
 subst hv hu
 obtain ⟨_,m,hm⟩:=hc.glob _ (show _ ∈ globs by unfold globs;exact List.mem_singleton.2 rfl)
 refine (Tryz.strings_Contains ⟨s.toArray⟩ ⟨x.toArray⟩ m c.w hl hm).mono ?_
 rintro e w' ⟨rfl,rfl⟩
 refine ⟨_,rfl,?_,Below.refl _ _⟩
 unfold Rep
 rfl
end Go.Proofs.YtnbjogilidfkdaaGreat
