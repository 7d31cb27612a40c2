/- The head words of the program, read once: what a large seat's cells ask. -/
import Derived.Test.YtnbjogilidfkdaaGGW
import Derived.ProofKit

namespace Go.Proofs.Ytnbjogilidfkdaa
set_option maxRecDepth 100000
set_option linter.unusedVariables false
set_option linter.unusedSimpArgs false
def hdCs (l : List Nat) : List Char := l.map Char.ofNat
theorem ws_app (w r : List Char) (h : w.all (fun c => c != Char.ofNat 32) = true) : wordsSigns (w ++ Char.ofNat 32 :: r) = w :: wordsSigns r := by
  induction w with
  | nil => rfl
  | cons c w ih =>
    rw [List.all_cons, Bool.and_eq_true] at h
    have hc : c ≠ Char.ofNat 32 := bne_iff_ne.mp h.1
    rw [List.cons_append, wordsSigns, ih h.2]
    exact hc
theorem initIs : Try.prog.initOrder = String.ofList (hdCs [104, 97, 114, 110, 101, 115, 115] ++ Char.ofNat 32 :: (hdCs [57,98,100,48,48,53,54,57,55,98,49,97,56,52,54,48,48,98,56,102,50,51,100,49,99,51,98,52,48,56,56,98,55,55,55,57,98,54,97,98,55,53,55,56,57,102,99,101,101,52,55,56,57,100,100,49,53,55,98,100,51,49,101,48] ++ Char.ofNat 32 :: (hdCs [99, 117, 116] ++ Char.ofNat 32 :: hdCs [97,116,32,108,111,111,112,46,101,120,97,109,112,108,101,47,116,101,109,112,108,97,116,101,101,115,99,97,112,101,114,47,108,97,119,115,46,70,110,67,108,101,97,110,84,111,107,101,110,115,32,108,111,111,112,46,101,120,97,109,112,108,101,47,116,101,109,112,108,97,116,101,101,115,99,97,112,101,114,47,108,97,119,115,46,70,110,67,108,101,97,110,84,101,120,116,32,108,111,111,112,46,101,120,97,109,112,108,101,47,116,101,109,112,108,97,116,101,101,115,99,97,112,101,114,47,108,97,119,115,46,70,110,69,120,97,99,116,77,97,114,107,117,112,83,97,102,101,32,108,111,111,112,46,101,120,97,109,112,108,101,47,116,101,109,112,108,97,116,101,101,115,99,97,112,101,114,47,108,97,119,115,46,70,110,72,111,108,101,86,97,108,117,101,32,108,111,111,112,46,101,120,97,109,112,108,101,47,116,101,109,112,108,97,116,101,101,115,99,97,112,101,114,47,108,97,119,115,46,70,110,65,100,100,114,101,115,115,72,111,108,101,32,108,111,111,112,46,101,120,97,109,112,108,101,47,116,101,109,112,108,97,116,101,101,115,99,97,112,101,114,47,108,97,119,115,46,70,110,77,97,114,107,117,112,83,97,102,101,32,108,111,111,112,46,101,120,97,109,112,108,101,47,116,101,109,112,108,97,116,101,101,115,99,97,112,101,114,47,108,97,119,115,46,70,110,69,120,97,99,116,67,108,101,97,110,77,97,114,107,117,112,32,108,111,111,112,46,101,120,97,109,112,108,101,47,116,101,109,112,108,97,116,101,101,115,99,97,112,101,114,47,108,97,119,115,46,70,110,83,107,101,108,101,116,111,110,70,105,108,108,32,108,111,111,112,46,101,120,97,109,112,108,101,47,116,101,109,112,108,97,116,101,101,115,99,97,112,101,114,47,108,97,119,115,46,70,110,67,108,101,97,110,77,97,114,107,117,112]))) := by kernel_rfl
theorem bm (s : List Char) (h : isSumSigns s = true) (ws : List (List Char)) : behindMainWord (hdCs [104, 97, 114, 110, 101, 115, 115] :: s :: ws) = ws := by
  unfold behindMainWord
  dsimp only
  rw [if_pos]
  rw [h, show (hdCs [104, 97, 114, 110, 101, 115, 115] == "harness".toList) = true by decide +kernel]
  rfl
theorem headWords : ∃ ws, behindMainWord (wordsSigns Try.prog.initOrder.toList) = hdCs [99, 117, 116] :: ws := by
  rw [initIs, String.toList_ofList, ws_app _ _ (by decide +kernel), ws_app _ _ (by decide +kernel), ws_app _ _ (by decide +kernel)]
  exact ⟨_, bm _ (by decide +kernel) _⟩
theorem strip_cut (ws : List (List Char)) : stripLifts liftWords (hdCs [99, 117, 116] :: ws) = ([], hdCs [99, 117, 116] :: ws) := by kernel_rfl
section
variable {P : Program} {ws : List (List Char)} (h : behindMainWord (wordsSigns P.initOrder.toList) = hdCs [99, 117, 116] :: ws)
include h
theorem make_cut : P.make = some .cut := by
  unfold Program.make
  rw [h]
  dsimp only
  rw [if_neg (by decide +kernel), if_pos (by rw [show (hdCs [99, 117, 116] == "cut".toList) = true by decide +kernel]; rfl)]
theorem mayEnter_cut (h1 : P.laysLater = false) (h2 : P.bearsReflect = false) (h3 : P.doorFits [] = true) : P.mayEnter = true := by
  unfold Program.mayEnter
  rw [h]
  dsimp only
  rw [strip_cut]
  dsimp only
  rw [h1, h2, h3, show (List.head? (hdCs [99, 117, 116] :: ws) == some "cut".toList) = true by simp only [List.head?_cons]; decide +kernel]
  simp
theorem lifts_cut : P.liftsFinal = false := by
  unfold Program.liftsFinal Program.headLifts
  rw [h]
  dsimp only
  rw [strip_cut]
  dsimp only
  rw [show (List.head? (hdCs [99, 117, 116] :: ws) == some "carried".toList) = false by simp only [List.head?_cons]; decide +kernel]
  split <;> rfl
end
theorem makeIs : Try.prog.make = some .cut := by obtain ⟨ws, h⟩ := headWords; exact make_cut h
theorem mayEnterIs : Try.prog.mayEnter = true := by obtain ⟨ws, h⟩ := headWords; exact mayEnter_cut h (by kernel_rfl) (by kernel_rfl) (by kernel_rfl)
theorem liftsIs : Try.prog.liftsFinal = false := by obtain ⟨ws, h⟩ := headWords; exact lifts_cut h
end Go.Proofs.Ytnbjogilidfkdaa
