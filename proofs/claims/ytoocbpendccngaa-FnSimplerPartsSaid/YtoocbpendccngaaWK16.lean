/- Simpler parts, by places. Plain. -/
import Derived.Test.YtoocbpendccngaaWK3

namespace Go.Proofs.Ytoocbpendccngaa
set_option maxRecDepth 100000
set_option linter.unusedVariables false
set_option linter.unusedSimpArgs false
open Go.RowKit
theorem last_form {o : List PartD} {k2 : Int} {t2 n2 : Bs} {a2 b2 : List PartD} (hx : o[o.length - 1]? = some (.mk k2 t2 n2 a2 b2)) : ∃ ys, o = ys ++ [.mk k2 t2 n2 a2 b2] ∧ ys.length = o.length - 1 := by
  obtain ⟨h1, h2⟩ := List.getElem?_eq_some_iff.1 hx
  refine ⟨o.take (o.length - 1), ?_, by rw [List.length_take]; omega⟩
  have := take_snoc' hx
  rw [show o.length - 1 + 1 = o.length by omega, List.take_length] at this
  exact this
theorem endT_at {o : List PartD} {k2 : Int} {t2 n2 : Bs} {a2 b2 : List PartD} (hx : o[o.length - 1]? = some (.mk k2 t2 n2 a2 b2)) : endT o = if k2 = 1 then some t2 else none := by
  obtain ⟨ys, e, _⟩ := last_form hx
  rw [e, endT_snoc]
theorem joinT_at {o : List PartD} {k2 : Int} {t2 n2 : Bs} {a2 b2 : List PartD} (hx : o[o.length - 1]? = some (.mk k2 t2 n2 a2 b2)) (u : Bs) : joinT o u = o.set (o.length - 1) (.mk k2 (t2 ++ u) n2 a2 b2) := by
  obtain ⟨ys, e, hl⟩ := last_form hx
  rw [← hl]
  rw [e, joinT_snoc, List.set_append_right _ _ (Nat.le_refl _), Nat.sub_self, List.set_cons_zero]
theorem put_hit {o : List PartD} {k2 : Int} {t2 n2 t nm : Bs} {a2 b2 a b : List PartD} (hx : o[o.length - 1]? = some (.mk k2 t2 n2 a2 b2)) (h : k2 = 1) : putS o (.mk 1 t nm a b) = if (t2 ++ t).length ≤ 600 then some (o.set (o.length - 1) (.mk k2 (t2 ++ t) n2 a2 b2)) else none := by
  subst h
  unfold putS
  rw [if_neg (by simp [emptyK]), kind_mk, if_pos rfl, endT_at hx, if_pos rfl]
  dsimp only [PartD.txt]
  rw [joinT_at hx]
  first | rfl | (split <;> rfl)
theorem put_new {o : List PartD} {kd : Int} {t nm : Bs} {a b : List PartD} (he : emptyK (.mk kd t nm a b) = false) (h : kd ≠ 1 ∨ endT o = none) : putS o (.mk kd t nm a b) = some (o ++ [.mk kd t nm a b]) := by
  unfold putS
  rw [if_neg (by rw [he]; decide), kind_mk]
  rcases h with h | h
  · rw [if_neg h]
  · split
    · rw [h]
    · rfl
theorem put_skip {o : List PartD} {p : PartD} (he : emptyK p = true) : putS o p = some o := by
  unfold putS; rw [if_pos he]
theorem putR_hit {o : List PartD} {k2 : Int} {t2 n2 t nm : Bs} {a2 b2 a b : List PartD} (hx : o[o.length - 1]? = some (.mk k2 t2 n2 a2 b2)) (h : k2 = 1) : putR o (.mk 1 t nm a b) = if (t2 ++ t).length ≤ 600 then o.set (o.length - 1) (.mk k2 (t2 ++ t) n2 a2 b2) else o ++ [.mk 1 t nm a b] := by
  subst h
  unfold putR
  rw [if_neg (by simp [emptyK]), kind_mk, if_pos rfl, endT_at hx, if_pos rfl]
  dsimp only [PartD.txt]
  rw [joinT_at hx]
  first | rfl | (split <;> rfl)
theorem putR_new {o : List PartD} {kd : Int} {t nm : Bs} {a b : List PartD} (he : emptyK (.mk kd t nm a b) = false) (h : kd ≠ 1 ∨ endT o = none) : putR o (.mk kd t nm a b) = o ++ [.mk kd t nm a b] := by
  unfold putR
  rw [if_neg (by rw [he]; decide), kind_mk]
  rcases h with h | h
  · rw [if_neg h]
  · split
    · rw [h]
    · rfl
theorem putR_skip {o : List PartD} {p : PartD} (he : emptyK p = true) : putR o p = o := by
  unfold putR; rw [if_pos he]
theorem emptyK_mk (kd : Int) (t nm : Bs) (a b : List PartD) : emptyK (.mk kd t nm a b) = true ↔ (kd = 3 ∨ kd = 4) ∧ a = [] ∧ b = [] := by
  simp [emptyK, and_assoc]
theorem wt_join : ∀ (o : List PartD) (u : Bs), wtL (joinT o u) ≤ wtL o + u.length := by
  intro o u
  by_cases h0 : o = []
  · subst h0; simp [joinT]
  · obtain ⟨⟨k2, t2, n2, a2, b2⟩, hx⟩ := get_some (xs := o) (k := o.length - 1) (by have := List.length_pos_iff.2 h0; omega)
    obtain ⟨ys, e, _⟩ := last_form hx
    rw [e, joinT_snoc, wtL_append, wtL_append, wtL_one, wtL_one, wtP_mk, wtP_mk, List.length_append]
    omega
theorem wt_putR (o : List PartD) (p : PartD) : wtL (putR o p) ≤ wtL o + (1 + wtP p) := by
  obtain ⟨kd, t, nm, a, b⟩ := p
  have hj := wt_join o t
  have hs : wtL (o ++ [.mk kd t nm a b]) = wtL o + (1 + wtP (.mk kd t nm a b)) := by rw [wtL_append, wtL_one]
  have hw := wtP_mk kd t nm a b
  unfold putR
  split
  · omega
  split
  · split
    · split
      · show wtL (joinT o t) ≤ _
        omega
      · omega
    · omega
  · omega
mutual
theorem wt_srP : ∀ x : PartD, wtP (srP x) ≤ wtP x
  | .mk k t n ps os => by
    have h1 := wt_srG ps []
    have h2 := wt_srG os []
    rw [wtL_nil] at h1 h2
    rw [srP_mk, wtP_mk, wtP_mk]
    omega
theorem wt_srG : ∀ xs out : List PartD, wtL (srG out xs) ≤ wtL out + wtL xs
  | [], out => by rw [srG_nil, wtL_nil]; omega
  | x :: xs, out => by
    have h1 := wt_srP x
    have h2 := wt_srG xs (putR out (srP x))
    have h3 := wt_putR out (srP x)
    rw [srG_cons, show x :: xs = [x] ++ xs from rfl, wtL_append, wtL_one]
    omega
end
theorem wt_smG {xs r : List PartD} (h : smG [] xs = some r) : wtL r ≤ wtL xs := by
  have := wt_srG xs []
  rw [smG_srG _ _ _ h, wtL_nil] at this
  omega
end Go.Proofs.Ytoocbpendccngaa
