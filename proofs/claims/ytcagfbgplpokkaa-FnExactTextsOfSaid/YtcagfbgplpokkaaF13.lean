/- Contracts bounded by a weight, for every weight. -/
import Derived.Test.YtcagfbgplpokkaaF12
namespace Go.Proofs.Ytcagfbgplpokkaa
set_option maxRecDepth 100000
set_option linter.unusedVariables false
set_option linter.unusedSimpArgs false
open Go.RowKit

theorem rel_all {P : Program} {f : FuncId} {α : Type} {enc : α → List PV} (wt : α → Nat) {pre : α → Prop} {out : α → PV} (h : ∀ n, PureOk P f (rel enc (fun x => wt x < n ∧ pre x) out)) : PureOk P f (rel enc pre out) := by
  refine ⟨(h 0).fn, ?_, ?_⟩
  · rintro args K ⟨x, h1, h2, h3⟩; exact ⟨_, h3, fun K' hk => ⟨x, h1, h2, hk⟩⟩
  · rintro c args vs K hf hr ⟨x, h1, h2, h3⟩
    exact (h (wt x + 1)).run c args vs K hf hr ⟨x, h1, ⟨Nat.lt_succ_self _, h2⟩, h3⟩
end Go.Proofs.Ytcagfbgplpokkaa
