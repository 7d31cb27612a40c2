/- The head words of the program, read once: what a large seat's cells ask. -/
import Derived.Test.YtoocbpendccngaaGreatWGW
import Derived.ProofKit

namespace Go.Proofs.YtoocbpendccngaaGreat
set_option maxRecDepth 100000
set_option linter.unusedVariables false
set_option linter.unusedSimpArgs false
theorem initIs : Tryz.prog.initOrder = String.ofList ['h', 'a', 'r', 'n', 'e', 's', 's', ' ', '5', '2', '2', '7', '0', '4', '9', 'f', '4', '5', 'd', 'b', '5', 'a', 'd', '2', '9', '6', 'd', 'e', '9', 'f', 'e', '9', '2', 'c', '8', '4', 'e', '9', '6', '6', '6', 'a', '9', 'd', 'b', 'f', '8', 'a', '3', 'e', '6', 'a', '7', 'e', 'b', '9', '3', '3', '4', '1', 'd', 'f', 'c', '4', '6', '0', '9', '4', 'b', '3', 'a', 'a', ' ', 'c', 'u', 't', ' ', 'a', 't', ' ', 'l', 'o', 'o', 'p', '.', 'e', 'x', 'a', 'm', 'p', 'l', 'e', '/', 't', 'e', 'm', 'p', 'l', 'a', 't', 'e', 'e', 's', 'c', 'a', 'p', 'e', 'r', '/', 'l', 'a', 'w', 's', '.', 'F', 'n', 'N', 'a', 'm', 'e', 'P', 'l', 'a', 'c', 'e', 's', ' ', 'l', 'o', 'o', 'p', '.', 'e', 'x', 'a', 'm', 'p', 'l', 'e', '/', 't', 'e', 'm', 'p', 'l', 'a', 't', 'e', 'e', 's', 'c', 'a', 'p', 'e', 'r', '/', 'l', 'a', 'w', 's', '.', 'F', 'n', 'H', 'o', 'l', 'e', 's', 'O', 'f', ' ', 'l', 'o', 'o', 'p', '.', 'e', 'x', 'a', 'm', 'p', 'l', 'e', '/', 't', 'e', 'm', 'p', 'l', 'a', 't', 'e', 'e', 's', 'c', 'a', 'p', 'e', 'r', '/', 'l', 'a', 'w', 's', '.', 'F', 'n', 'F', 'i', 'l', 'l', 'S', 'a', 'f', 'e', ' ', 'l', 'o', 'o', 'p', '.', 'e', 'x', 'a', 'm', 'p', 'l', 'e', '/', 't', 'e', 'm', 'p', 'l', 'a', 't', 'e', 'e', 's', 'c', 'a', 'p', 'e', 'r', '/', 'l', 'a', 'w', 's', '.', 'F', 'n', 'E', 'x', 'a', 'c', 't', 'F', 'i', 'l', 'l', 'S', 'a', 'f', 'e'] := by kernel_rfl
theorem ws_app (w r : List Char) (h : w.all (fun c => c != ' ') = true) : wordsSigns (w ++ ' ' :: r) = w :: wordsSigns r := by
  induction w with
  | nil => rfl
  | cons c w ih =>
    simp only [List.all_cons, Bool.and_eq_true] at h
    have hc : c ≠ ' ' := by simpa using h.1
    rw [List.cons_append, wordsSigns, ih h.2]
    exact hc
theorem bm (s : List Char) (h : isSumSigns s = true) (ws : List (List Char)) : behindMainWord (['h', 'a', 'r', 'n', 'e', 's', 's'] :: s :: ws) = ws := by
  unfold behindMainWord
  dsimp only
  rw [if_pos]
  rw [h, show ((['h', 'a', 'r', 'n', 'e', 's', 's'] : List Char) == "harness".toList) = true by decide +kernel]
  rfl
theorem headWords : ∃ ws, behindMainWord (wordsSigns Tryz.prog.initOrder.toList) = ['c', 'u', 't'] :: ws := by
  rw [initIs, String.toList_ofList]
  refine ⟨wordsSigns ['a', 't', ' ', 'l', 'o', 'o', 'p', '.', 'e', 'x', 'a', 'm', 'p', 'l', 'e', '/', 't', 'e', 'm', 'p', 'l', 'a', 't', 'e', 'e', 's', 'c', 'a', 'p', 'e', 'r', '/', 'l', 'a', 'w', 's', '.', 'F', 'n', 'N', 'a', 'm', 'e', 'P', 'l', 'a', 'c', 'e', 's', ' ', 'l', 'o', 'o', 'p', '.', 'e', 'x', 'a', 'm', 'p', 'l', 'e', '/', 't', 'e', 'm', 'p', 'l', 'a', 't', 'e', 'e', 's', 'c', 'a', 'p', 'e', 'r', '/', 'l', 'a', 'w', 's', '.', 'F', 'n', 'H', 'o', 'l', 'e', 's', 'O', 'f', ' ', 'l', 'o', 'o', 'p', '.', 'e', 'x', 'a', 'm', 'p', 'l', 'e', '/', 't', 'e', 'm', 'p', 'l', 'a', 't', 'e', 'e', 's', 'c', 'a', 'p', 'e', 'r', '/', 'l', 'a', 'w', 's', '.', 'F', 'n', 'F', 'i', 'l', 'l', 'S', 'a', 'f', 'e', ' ', 'l', 'o', 'o', 'p', '.', 'e', 'x', 'a', 'm', 'p', 'l', 'e', '/', 't', 'e', 'm', 'p', 'l', 'a', 't', 'e', 'e', 's', 'c', 'a', 'p', 'e', 'r', '/', 'l', 'a', 'w', 's', '.', 'F', 'n', 'E', 'x', 'a', 'c', 't', 'F', 'i', 'l', 'l', 'S', 'a', 'f', 'e'], ?_⟩
  have e : (['h', 'a', 'r', 'n', 'e', 's', 's', ' ', '5', '2', '2', '7', '0', '4', '9', 'f', '4', '5', 'd', 'b', '5', 'a', 'd', '2', '9', '6', 'd', 'e', '9', 'f', 'e', '9', '2', 'c', '8', '4', 'e', '9', '6', '6', '6', 'a', '9', 'd', 'b', 'f', '8', 'a', '3', 'e', '6', 'a', '7', 'e', 'b', '9', '3', '3', '4', '1', 'd', 'f', 'c', '4', '6', '0', '9', '4', 'b', '3', 'a', 'a', ' ', 'c', 'u', 't', ' ', 'a', 't', ' ', 'l', 'o', 'o', 'p', '.', 'e', 'x', 'a', 'm', 'p', 'l', 'e', '/', 't', 'e', 'm', 'p', 'l', 'a', 't', 'e', 'e', 's', 'c', 'a', 'p', 'e', 'r', '/', 'l', 'a', 'w', 's', '.', 'F', 'n', 'N', 'a', 'm', 'e', 'P', 'l', 'a', 'c', 'e', 's', ' ', 'l', 'o', 'o', 'p', '.', 'e', 'x', 'a', 'm', 'p', 'l', 'e', '/', 't', 'e', 'm', 'p', 'l', 'a', 't', 'e', 'e', 's', 'c', 'a', 'p', 'e', 'r', '/', 'l', 'a', 'w', 's', '.', 'F', 'n', 'H', 'o', 'l', 'e', 's', 'O', 'f', ' ', 'l', 'o', 'o', 'p', '.', 'e', 'x', 'a', 'm', 'p', 'l', 'e', '/', 't', 'e', 'm', 'p', 'l', 'a', 't', 'e', 'e', 's', 'c', 'a', 'p', 'e', 'r', '/', 'l', 'a', 'w', 's', '.', 'F', 'n', 'F', 'i', 'l', 'l', 'S', 'a', 'f', 'e', ' ', 'l', 'o', 'o', 'p', '.', 'e', 'x', 'a', 'm', 'p', 'l', 'e', '/', 't', 'e', 'm', 'p', 'l', 'a', 't', 'e', 'e', 's', 'c', 'a', 'p', 'e', 'r', '/', 'l', 'a', 'w', 's', '.', 'F', 'n', 'E', 'x', 'a', 'c', 't', 'F', 'i', 'l', 'l', 'S', 'a', 'f', 'e'] : List Char) = ['h', 'a', 'r', 'n', 'e', 's', 's'] ++ ' ' :: (['5', '2', '2', '7', '0', '4', '9', 'f', '4', '5', 'd', 'b', '5', 'a', 'd', '2', '9', '6', 'd', 'e', '9', 'f', 'e', '9', '2', 'c', '8', '4', 'e', '9', '6', '6', '6', 'a', '9', 'd', 'b', 'f', '8', 'a', '3', 'e', '6', 'a', '7', 'e', 'b', '9', '3', '3', '4', '1', 'd', 'f', 'c', '4', '6', '0', '9', '4', 'b', '3', 'a', 'a'] ++ ' ' :: (['c', 'u', 't'] ++ ' ' :: ['a', 't', ' ', 'l', 'o', 'o', 'p', '.', 'e', 'x', 'a', 'm', 'p', 'l', 'e', '/', 't', 'e', 'm', 'p', 'l', 'a', 't', 'e', 'e', 's', 'c', 'a', 'p', 'e', 'r', '/', 'l', 'a', 'w', 's', '.', 'F', 'n', 'N', 'a', 'm', 'e', 'P', 'l', 'a', 'c', 'e', 's', ' ', 'l', 'o', 'o', 'p', '.', 'e', 'x', 'a', 'm', 'p', 'l', 'e', '/', 't', 'e', 'm', 'p', 'l', 'a', 't', 'e', 'e', 's', 'c', 'a', 'p', 'e', 'r', '/', 'l', 'a', 'w', 's', '.', 'F', 'n', 'H', 'o', 'l', 'e', 's', 'O', 'f', ' ', 'l', 'o', 'o', 'p', '.', 'e', 'x', 'a', 'm', 'p', 'l', 'e', '/', 't', 'e', 'm', 'p', 'l', 'a', 't', 'e', 'e', 's', 'c', 'a', 'p', 'e', 'r', '/', 'l', 'a', 'w', 's', '.', 'F', 'n', 'F', 'i', 'l', 'l', 'S', 'a', 'f', 'e', ' ', 'l', 'o', 'o', 'p', '.', 'e', 'x', 'a', 'm', 'p', 'l', 'e', '/', 't', 'e', 'm', 'p', 'l', 'a', 't', 'e', 'e', 's', 'c', 'a', 'p', 'e', 'r', '/', 'l', 'a', 'w', 's', '.', 'F', 'n', 'E', 'x', 'a', 'c', 't', 'F', 'i', 'l', 'l', 'S', 'a', 'f', 'e'])) := rfl
  rw [e, ws_app _ _ (by decide +kernel), ws_app _ _ (by decide +kernel), ws_app _ _ (by decide +kernel)]
  exact bm _ (by decide +kernel) _
theorem strip_cut (ws : List (List Char)) : stripLifts liftWords (['c', 'u', 't'] :: ws) = ([], ['c', 'u', 't'] :: ws) := by kernel_rfl
section
variable {P : Program} {ws : List (List Char)} (h : behindMainWord (wordsSigns P.initOrder.toList) = ['c', 'u', 't'] :: ws)
include h
theorem make_cut : P.make = some .cut := by
  unfold Program.make
  rw [h]
  dsimp only
  rw [if_neg (by decide +kernel), if_pos (by rw [show ((['c', 'u', 't'] : List Char) == "cut".toList) = true by decide +kernel]; rfl)]
theorem mayEnter_cut (h1 : P.laysLater = false) (h2 : P.bearsReflect = false) (h3 : P.doorFits [] = true) : P.mayEnter = true := by
  unfold Program.mayEnter
  rw [h]
  dsimp only
  rw [strip_cut]
  dsimp only
  rw [h1, h2, h3, show (List.head? ((['c', 'u', 't'] : List Char) :: ws) == some "cut".toList) = true by simp only [List.head?_cons]; decide +kernel]
  simp
theorem lifts_cut : P.liftsFinal = false := by
  unfold Program.liftsFinal Program.headLifts
  rw [h]
  dsimp only
  rw [strip_cut]
  dsimp only
  rw [show (List.head? ((['c', 'u', 't'] : List Char) :: ws) == some "carried".toList) = false by simp only [List.head?_cons]; decide +kernel]
  split <;> rfl
end
theorem makeIs : Tryz.prog.make = some .cut := by obtain ⟨ws, h⟩ := headWords; exact make_cut h
theorem mayEnterIs : Tryz.prog.mayEnter = true := by obtain ⟨ws, h⟩ := headWords; exact mayEnter_cut h (by kernel_rfl) (by kernel_rfl) (by kernel_rfl)
theorem liftsIs : Tryz.prog.liftsFinal = false := by obtain ⟨ws, h⟩ := headWords; exact lifts_cut h
end Go.Proofs.YtoocbpendccngaaGreat
