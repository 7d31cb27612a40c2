/- The statement FnSameParts: the given law returns true for all arguments that its row speaks of. No conditions of ours. -/
import Derived.Test.YtdehpafflbhadaaR6
import Derived.Test.YtdehpafflbhadaaGW
import Derived.Test.YtdehpafflbhadaaP3
import Derived.ProofKit
import Derived.OpenShut
import Derived.ShutString
import Derived.ChangeOld
import Derived.HandedShaped
import Derived.Below
import Derived.Lib.SmallJoins
namespace Go.Proofs.Ytdehpafflbhadaa.fnSameParts
set_option maxRecDepth 100000
set_option linter.unusedVariables false
set_option linter.unusedSimpArgs false
open Go.ChangeShapes Go.WideShapes Go.ChangeAt Go.RowKit Go.Joins
open Go.ChangeMaps (open_string shut_string)

theorem own : ownKnob Try.prog.godebug = none := by kernel_rfl
theorem laidOut : laidOutB Try.prog = true := by kernel_rfl

set_option maxRecDepth 100000 in
theorem lifted (os : Os) (started : os.Started) (H : Type) (enc : TypeId × Value → H) :
    ReturnsInHanded {} Try.checked os 13 .any (Rows.fnSamePartsSpec.pre6 enc Try.prog Try.f13 Rows.fnSamePartsRow.domain false) (Rows.fnSamePartsSpec.post enc Try.prog Try.f13 false true false false) := by
  refine returnsInHanded_of_change_shaped (C := Try.checked) own started (by kernel_rfl) Try.func13
    (ChangeSpec.witness6 (enc := enc) (C := Try.checked) false ⟨#[], #[.slice none 0 0], []⟩ 8 (by kernel_rfl) (by kernel_rfl) (by kernel_rfl) (by kernel_rfl)) ?_
  intro W base args ds gs before hval0 hW hcnd hrch hsh _
  have hval : ∀ (j : Nat) t v, Try.f13.params[j]? = some t → args[j]? = some v → Value.okWide Try.prog W .any base t v := hval0
  have hW' := hW
  obtain ⟨p, q, hA0, hV, rfl, hfz, hnd⟩ := hW
  have hA : DataW.TrodAll enc Try.prog W 0 (fun _ => true) true Try.f13.params.toList args.toList ds p := hA0
  rw [Try.params13] at hA hval
  obtain ⟨v0, vs0, d0, ds0, p0, q0, hargs, rfl, rfl, h0, r0⟩ := trodAll_cons hA
  obtain ⟨rfl, rfl, rfl⟩ := trodAll_nil r0
  obtain rfl : args = #[v0] := by cases args; simp_all
  obtain ⟨rfl, rfl⟩ := trodVars_none hV
  have k0 := h0
  have lt0 : ∀ x ∈ p0, x.block < W.heap.size := by obtain ⟨m, hm⟩ := k0; exact DataW.trod_lt m _ _ _ hm
  obtain ⟨a0, len0, cap0, e0⟩ := okWide_slice Try.underlying55 (hval 0 55 v0 rfl rfl)
  obtain ⟨x0, c0, g0⟩ := (by subst e0; obtain ⟨fuel, hf⟩ := k0; exact open_bytes hf : Arg_bytes W v0)
  clear hA0 hval0
  simp only [List.append_nil] at hW'
  refine (true_of_pure (rel_calls FnSameParts_pure (x0) c0 W (globW hsh) (vs := [v0]) (by simp only [RepL.cons_iff, RepL.nil_iff]; exact ⟨_, _, rfl, g0,  rfl⟩))).mono fun e W' ⟨he, bel⟩ => ?_
  subst he
  exact ⟨_, rfl, _, _, _, [], _, [], hW', trodAll_mk1 (shut_bool Try.underlying4 _), (trodAll_cons_mk (Below.trod laidOut (by kernel_rfl) (of_decide_eq_true (by kernel_rfl)) k0 bel lt0) trodAll_mk0), rfl, bel.frame _, fun h => by cases h⟩

def hdCs (l : List Nat) : List Char := l.map Char.ofNat
theorem ws_app (w r : List Char) (h : w.all (fun c => c != Char.ofNat 32) = true) : wordsSigns (w ++ Char.ofNat 32 :: r) = w :: wordsSigns r := by
  induction w with
  | nil => rfl
  | cons c w ih =>
    rw [List.all_cons, Bool.and_eq_true] at h
    have hc : c ≠ Char.ofNat 32 := bne_iff_ne.mp h.1
    rw [List.cons_append, wordsSigns, ih h.2]
    exact hc
theorem initIs : Try.prog.initOrder = String.ofList (hdCs [104, 97, 114, 110, 101, 115, 115] ++ Char.ofNat 32 :: (hdCs [57, 48, 56, 49, 54, 97, 56, 97, 101, 52, 57, 53, 56, 48, 48, 98, 53, 101, 51, 52, 49, 49, 49, 97, 57, 52, 97, 50, 49, 55, 101, 98, 51, 53, 51, 55, 101, 97, 99, 100, 98, 98, 55, 56, 97, 50, 51, 51, 54, 55, 50, 55, 102, 53, 52, 100, 48, 100, 48, 57, 97, 52, 100, 52] ++ Char.ofNat 32 :: (hdCs [99, 117, 116] ++ Char.ofNat 32 :: hdCs [97, 116, 32, 108, 111, 111, 112, 46, 101, 120, 97, 109, 112, 108, 101, 47, 116, 101, 109, 112, 108, 97, 116, 101, 101, 115, 99, 97, 112, 101, 114, 47, 108, 97, 119, 115, 46, 70, 110, 69, 120, 97, 99, 116, 83, 97, 109, 101, 80, 97, 114, 116, 115, 32, 108, 111, 111, 112, 46, 101, 120, 97, 109, 112, 108, 101, 47, 116, 101, 109, 112, 108, 97, 116, 101, 101, 115, 99, 97, 112, 101, 114, 47, 108, 97, 119, 115, 46, 70, 110, 69, 120, 97, 99, 116, 84, 101, 120, 116, 115, 79, 102, 32, 108, 111, 111, 112, 46, 101, 120, 97, 109, 112, 108, 101, 47, 116, 101, 109, 112, 108, 97, 116, 101, 101, 115, 99, 97, 112, 101, 114, 47, 108, 97, 119, 115, 46, 70, 110, 69, 120, 97, 99, 116, 80, 108, 97, 99, 101, 79, 102, 32, 108, 111, 111, 112, 46, 101, 120, 97, 109, 112, 108, 101, 47, 116, 101, 109, 112, 108, 97, 116, 101, 101, 115, 99, 97, 112, 101, 114, 47, 108, 97, 119, 115, 46, 70, 110, 69, 120, 97, 99, 116, 83, 116, 97, 116, 101, 66, 101, 104, 105, 110, 100, 32, 108, 111, 111, 112, 46, 101, 120, 97, 109, 112, 108, 101, 47, 116, 101, 109, 112, 108, 97, 116, 101, 101, 115, 99, 97, 112, 101, 114, 47, 108, 97, 119, 115, 46, 70, 110, 69, 120, 97, 99, 116, 80, 97, 105, 114, 65, 108, 108, 111, 119, 101, 100, 32, 108, 111, 111, 112, 46, 101, 120, 97, 109, 112, 108, 101, 47, 116, 101, 109, 112, 108, 97, 116, 101, 101, 115, 99, 97, 112, 101, 114, 47, 108, 97, 119, 115, 46, 70, 110, 80, 97, 105, 114, 65, 108, 108, 111, 119, 101, 100, 32, 108, 111, 111, 112, 46, 101, 120, 97, 109, 112, 108, 101, 47, 116, 101, 109, 112, 108, 97, 116, 101, 101, 115, 99, 97, 112, 101, 114, 47, 108, 97, 119, 115, 46, 70, 110, 80, 108, 97, 99, 101, 79, 102, 32, 108, 111, 111, 112, 46, 101, 120, 97, 109, 112, 108, 101, 47, 116, 101, 109, 112, 108, 97, 116, 101, 101, 115, 99, 97, 112, 101, 114, 47, 108, 97, 119, 115, 46, 70, 110, 69, 120, 97, 99, 116, 85, 110, 101, 115, 99, 97, 112, 101, 70, 111, 114, 32, 108, 111, 111, 112, 46, 101, 120, 97, 109, 112, 108, 101, 47, 116, 101, 109, 112, 108, 97, 116, 101, 101, 115, 99, 97, 112, 101, 114, 47, 108, 97, 119, 115, 46, 70, 110, 83, 116, 97, 116, 101, 66, 101, 104, 105, 110, 100, 32, 108, 111, 111, 112, 46, 101, 120, 97, 109, 112, 108, 101, 47, 116, 101, 109, 112, 108, 97, 116, 101, 101, 115, 99, 97, 112, 101, 114, 47, 108, 97, 119, 115, 46, 70, 110, 69, 120, 97, 99, 116, 68, 101, 101, 112, 101, 115, 116, 80, 97, 114, 116, 32, 108, 111, 111, 112, 46, 101, 120, 97, 109, 112, 108, 101, 47, 116, 101, 109, 112, 108, 97, 116, 101, 101, 115, 99, 97, 112, 101, 114, 47, 108, 97, 119, 115, 46, 70, 110, 83, 97, 109, 101, 80, 97, 114, 116, 115, 32, 108, 111, 111, 112, 46, 101, 120, 97, 109, 112, 108, 101, 47, 116, 101, 109, 112, 108, 97, 116, 101, 101, 115, 99, 97, 112, 101, 114, 47, 108, 97, 119, 115, 46, 70, 110, 68, 101, 101, 112, 101, 115, 116, 80, 97, 114, 116]))) := by kernel_rfl
theorem bm (s : List Char) (h : isSumSigns s = true) (ws : List (List Char)) : behindMainWord (hdCs [104, 97, 114, 110, 101, 115, 115] :: s :: ws) = ws := by
  unfold behindMainWord
  dsimp only
  rw [if_pos]
  rw [h, show (hdCs [104, 97, 114, 110, 101, 115, 115] == "harness".toList) = true by decide +kernel]
  rfl
theorem headWords : ∃ ws, behindMainWord (wordsSigns Try.prog.initOrder.toList) = hdCs [99, 117, 116] :: ws := by
  rw [initIs, String.toList_ofList, ws_app _ _ (by decide +kernel), ws_app _ _ (by decide +kernel), ws_app _ _ (by decide +kernel)]
  exact ⟨_, bm _ (by decide +kernel) _⟩
theorem strip_cut (ws : List (List Char)) : stripLifts liftWords (hdCs [99, 117, 116] :: ws) = ([], hdCs [99, 117, 116] :: ws) := by kernel_rfl
section
variable {P : Program} {ws : List (List Char)} (h : behindMainWord (wordsSigns P.initOrder.toList) = hdCs [99, 117, 116] :: ws)
include h
theorem make_cut : P.make = some .cut := by
  unfold Program.make
  rw [h]
  dsimp only
  rw [if_neg (by decide +kernel), if_pos (by rw [show (hdCs [99, 117, 116] == "cut".toList) = true by decide +kernel]; rfl)]
theorem mayEnter_cut (h1 : P.laysLater = false) (h2 : P.bearsReflect = false) (h3 : P.doorFits [] = true) : P.mayEnter = true := by
  unfold Program.mayEnter
  rw [h]
  dsimp only
  rw [strip_cut]
  dsimp only
  rw [h1, h2, h3, show (List.head? (hdCs [99, 117, 116] :: ws) == some "cut".toList) = true by simp only [List.head?_cons]; decide +kernel]
  simp
theorem lifts_cut : P.liftsFinal = false := by
  unfold Program.liftsFinal Program.headLifts
  rw [h]
  dsimp only
  rw [strip_cut]
  dsimp only
  rw [show (List.head? (hdCs [99, 117, 116] :: ws) == some "carried".toList) = false by simp only [List.head?_cons]; decide +kernel]
  split <;> rfl
end
theorem makeIs : Try.prog.make = some .cut := by obtain ⟨ws, h⟩ := headWords; exact make_cut h
theorem mayEnterIs : Try.prog.mayEnter = true := by obtain ⟨ws, h⟩ := headWords; exact mayEnter_cut h (by kernel_rfl) (by kernel_rfl) (by kernel_rfl)
theorem liftsIs : Try.prog.liftsFinal = false := by obtain ⟨ws, h⟩ := headWords; exact lifts_cut h
theorem cells1 : Try.prog.inPlace 13 = Rows.fnSamePartsRow.inPlace := by kernel_rfl
theorem cells2 : Try.prog.unfollowed 13 = Rows.fnSamePartsRow.unfollowed := by kernel_rfl
theorem cells3 : Try.prog.recurses 13 = Rows.fnSamePartsRow.recurses := rec_of (g := 89) (h := 89) (by kernel_rfl) Try.func89 (by kernel_rfl) (by kernel_rfl)
theorem cells4 : Try.prog.varsNamed 13 = Rows.fnSamePartsRow.named := by kernel_rfl
theorem cells : joinedFacts Try.prog 13 Try.f13 Rows.fnSamePartsSpec Rows.fnSamePartsRow = true := by
  unfold joinedFacts
  rw [cells1, cells2, cells3, cells4, mayEnterIs, makeIs, liftsIs]
  kernel_rfl
theorem over : Rows.fnSamePartsRow.holds Try.pinned (OpenSpec.ofChange Rows.fnSamePartsSpec) :=
  OpenClaim.holds_of_wide 13 Try.f13 rfl rfl rfl rfl rfl rfl rfl ⟨rfl, rfl, rfl, rfl, rfl⟩ rfl rfl rfl rfl rfl (by kernel_rfl) Try.func13 cells
    (of_decide_eq_true (by kernel_rfl)) (by unfold Func.isWrapper; first | (rw [if_pos (by decide +kernel)]; kernel_rfl) | (rw [if_neg (by decide +kernel)]; exact ⟨rfl, rfl⟩))
    (fun os started H enc _ => lifted os started H enc)


theorem proved : Rows.FnSamePartsSaid := over
#print axioms proved
end Go.Proofs.Ytdehpafflbhadaa.fnSameParts
