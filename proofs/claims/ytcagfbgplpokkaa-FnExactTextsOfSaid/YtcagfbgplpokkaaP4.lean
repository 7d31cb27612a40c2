/- Arguments of a law: filled holes, opened. -/
import Derived.Test.YtcagfbgplpokkaaP3
import Derived.Test.YtcagfbgplpokkaaT2
namespace Go.Proofs.Ytcagfbgplpokkaa
set_option maxRecDepth 100000
set_option linter.unusedVariables false
set_option linter.unusedSimpArgs false
open Go.RowKit

theorem map_of' {α : Type} {enc : α → List PV} {ok : List PV → Prop} {q : α → Prop} {es : List (List PV)} (h : ∀ e ∈ es, ok e) (h1 : ∀ e, ok e → ∃ x, e = enc x ∧ q x) : ∃ xs : List α, es = xs.map enc ∧ ∀ x ∈ xs, q x := by
  induction es with
  | nil => exact ⟨[], rfl, fun _ h => by simp at h⟩
  | cons e es ih =>
    obtain ⟨xs, rfl, hq⟩ := ih fun x hx => h x (by simp [hx])
    obtain ⟨x, rfl, hx⟩ := h1 e (h e (by simp))
    exact ⟨x :: xs, rfl, fun y hy => by
      rcases List.mem_cons.1 hy with rfl | hy
      · exact hx
      · exact hq y hy⟩
def Arg_filleds (w : World) (v : Value) : Prop := ∃ xs : List (Int × Bs), okH xs ∧ Rep (.seq (encHs xs)) ⟨w, fun b => b < w.heap.size, fun _ => none⟩ v
theorem setH_plain : plainB Try.prog (setU 22) = true := by kernel_rfl
theorem okU_filled {n : Nat} {us : List PV} (h : okT Try.prog n 86 us) : ∃ x : Int × Bs, us = encH x ∧ x.2.length ≤ 9223372036854775807 := by
  cases n with
  | zero => exact h.elim
  | succ n =>
    unfold okT at h
    rw [Try.underlying86] at h
    simp only [okT.okF] at h
    obtain ⟨a0, r0, rfl, h0, a1, r1, rfl, h1, rfl⟩ := h
    obtain ⟨k, rfl, _⟩ := okU_int Try.underlying3 h0
    obtain ⟨t, rfl, l1⟩ := okU_str Try.underlying9 h1
    exact ⟨(k, t), rfl, l1⟩
theorem open_filleds {H : Type} {enc : TypeId × Value → H} {w : World} {spare : Nat → Bool} {held : Bool} {n : Nat} {a : Option Addr} {l c : Nat} {x : DataW H × List MemPlace}
    (h : DataW.trod enc Try.prog w 0 spare held n 22 (Value.slice a l c).cells.toList = some x) : Arg_filleds w (.slice a l c) := by
  obtain ⟨us, h1, _, h3⟩ := open_plain setH_plain n _ (List.contains_iff_mem.1 (show (setU 22).contains 22 = true by kernel_rfl)) _ _ h
  obtain ⟨es, m, rfl, hl, hall⟩ := okU_slice Try.underlying22 h1
  obtain ⟨xs, rfl, hq⟩ := map_of' (enc := encH) hall fun e he => okU_filled he
  exact ⟨xs, ⟨by simpa using hl, hq⟩, repU_one h3 rfl⟩
end Go.Proofs.Ytcagfbgplpokkaa
