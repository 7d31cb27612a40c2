/- The statement FnExactSameParts: over the walk of the law in module LS. -/
import Derived.Test.YtdehpafflbhadaaLS
import Derived.ProofKit
import Derived.OpenShut
import Derived.ShutString
import Derived.ChangeOld
import Derived.Below
import Derived.Lib.SmallJoins
namespace Go.Proofs.Ytdehpafflbhadaa.fnExactSameParts
set_option maxRecDepth 100000
set_option linter.unusedVariables false
set_option linter.unusedSimpArgs false
open Go.ChangeShapes Go.WideShapes Go.ChangeAt Go.RowKit Go.Joins
open Go.ChangeMaps (open_string shut_string)
set_option linter.unusedVariables false

theorem own : ownKnob Try.prog.godebug = none := by kernel_rfl
theorem laidOut : laidOutB Try.prog = true := by kernel_rfl

set_option maxRecDepth 100000 in
theorem lifted (os : Os) (started : os.Started) (H : Type) (enc : TypeId × Value → H) :
    ReturnsInHanded {} Try.checked os 3 .any (Rows.fnExactSamePartsSpec.pre6 enc Try.prog Try.f3 Rows.fnExactSamePartsRow.domain false) (Rows.fnExactSamePartsSpec.post enc Try.prog Try.f3 false true false false) := by
  refine returnsInHanded_of_change (C := Try.checked) own started (by kernel_rfl) Try.func3
    (ChangeSpec.witness6 (enc := enc) (C := Try.checked) false ⟨#[], #[.slice none 0 0, .slice none 0 0], []⟩ 8 (by kernel_rfl) (by kernel_rfl) (by kernel_rfl) (by kernel_rfl)) ?_
  intro W base args ds gs before hval0 hW hcnd _
  have hval : ∀ (j : Nat) t v, Try.f3.params[j]? = some t → args[j]? = some v → Value.okWide Try.prog W .any base t v := hval0
  have hW' := hW
  obtain ⟨p, q, hA0, hV, rfl, hfz, hnd⟩ := hW
  have hA : DataW.TrodAll enc Try.prog W 0 (fun _ => true) true Try.f3.params.toList args.toList ds p := hA0
  rw [Try.params3] at hA hval
  obtain ⟨v0, vs0, d0, ds0, p0, q0, hargs, rfl, rfl, h0, r0⟩ := trodAll_cons hA
  obtain ⟨v1, vs1, d1, ds1, p1, q1, rfl, rfl, rfl, h1, r1⟩ := trodAll_cons r0
  obtain ⟨rfl, rfl, rfl⟩ := trodAll_nil r1
  obtain rfl : args = #[v0, v1] := by cases args; simp_all
  obtain ⟨rfl, rfl⟩ := trodVars_none hV
  obtain ⟨a0, len0, cap0, rfl⟩ := okWide_slice Try.underlying22 (hval 0 22 v0 rfl rfl)
  have k0 := h0
  have lt0 : ∀ x ∈ p0, x.block < W.heap.size := by obtain ⟨m, hm⟩ := k0; exact DataW.trod_lt m _ _ _ hm
  have w0 := (by obtain ⟨fuel, hf⟩ := h0; exact open_parts hf : Arg_parts W (.slice a0 len0 cap0))
  obtain ⟨a1, len1, cap1, rfl⟩ := okWide_slice Try.underlying22 (hval 1 22 v1 rfl rfl)
  have k1 := h1
  have lt1 : ∀ x ∈ p1, x.block < W.heap.size := by obtain ⟨m, hm⟩ := k1; exact DataW.trod_lt m _ _ _ hm
  have w1 := (by obtain ⟨fuel, hf⟩ := h1; exact open_parts hf : Arg_parts W (.slice a1 len1 cap1))
  clear hA0 hval0
  simp only [List.append_nil] at hW'
  refine (FnExactSameParts_walk (.slice a0 len0 cap0) (.slice a1 len1 cap1) W w0 w1).mono fun e W' ⟨he, bel⟩ => ?_
  subst he
  exact ⟨_, rfl, _, _, _, [], _, [], hW', trodAll_mk1 (shut_bool Try.underlying4 _), (trodAll_cons_mk (Below.trod laidOut (by kernel_rfl) (of_decide_eq_true (by kernel_rfl)) k0 bel lt0) (trodAll_cons_mk (Below.trod laidOut (by kernel_rfl) (of_decide_eq_true (by kernel_rfl)) k1 bel lt1) trodAll_mk0)), rfl, bel.frame _, fun h => by cases h⟩

def hdCs (l : List Nat) : List Char := l.map Char.ofNat
theorem ws_app (w r : List Char) (h : w.all (fun c => c != Char.ofNat 32) = true) : wordsSigns (w ++ Char.ofNat 32 :: r) = w :: wordsSigns r := by
  induction w with
  | nil => rfl
  | cons c w ih =>
    rw [List.all_cons, Bool.and_eq_true] at h
    have hc : c ≠ Char.ofNat 32 := bne_iff_ne.mp h.1
    rw [List.cons_append, wordsSigns, ih h.2]
    exact hc
theorem initIs : Try.prog.initOrder = String.ofList (hdCs [104, 97, 114, 110, 101, 115, 115] ++ Char.ofNat 32 :: (hdCs [57, 48, 56, 49, 54, 97, 56, 97, 101, 52, 57, 53, 56, 48, 48, 98, 53, 101, 51, 52, 49, 49, 49, 97, 57, 52, 97, 50, 49, 55, 101, 98, 51, 53, 51, 55, 101, 97, 99, 100, 98, 98, 55, 56, 97, 50, 51, 51, 54, 55, 50, 55, 102, 53, 52, 100, 48, 100, 48, 57, 97, 52, 100, 52] ++ Char.ofNat 32 :: (hdCs [99, 117, 116] ++ Char.ofNat 32 :: hdCs [97, 116, 32, 108, 111, 111, 112, 46, 101, 120, 97, 109, 112, 108, 101, 47, 116, 101, 109, 112, 108, 97, 116, 101, 101, 115, 99, 97, 112, 101, 114, 47, 108, 97, 119, 115, 46, 70, 110, 69, 120, 97, 99, 116, 83, 97, 109, 101, 80, 97, 114, 116, 115, 32, 108, 111, 111, 112, 46, 101, 120, 97, 109, 112, 108, 101, 47, 116, 101, 109, 112, 108, 97, 116, 101, 101, 115, 99, 97, 112, 101, 114, 47, 108, 97, 119, 115, 46, 70, 110, 69, 120, 97, 99, 116, 84, 101, 120, 116, 115, 79, 102, 32, 108, 111, 111, 112, 46, 101, 120, 97, 109, 112, 108, 101, 47, 116, 101, 109, 112, 108, 97, 116, 101, 101, 115, 99, 97, 112, 101, 114, 47, 108, 97, 119, 115, 46, 70, 110, 69, 120, 97, 99, 116, 80, 108, 97, 99, 101, 79, 102, 32, 108, 111, 111, 112, 46, 101, 120, 97, 109, 112, 108, 101, 47, 116, 101, 109, 112, 108, 97, 116, 101, 101, 115, 99, 97, 112, 101, 114, 47, 108, 97, 119, 115, 46, 70, 110, 69, 120, 97, 99, 116, 83, 116, 97, 116, 101, 66, 101, 104, 105, 110, 100, 32, 108, 111, 111, 112, 46, 101, 120, 97, 109, 112, 108, 101, 47, 116, 101, 109, 112, 108, 97, 116, 101, 101, 115, 99, 97, 112, 101, 114, 47, 108, 97, 119, 115, 46, 70, 110, 69, 120, 97, 99, 116, 80, 97, 105, 114, 65, 108, 108, 111, 119, 101, 100, 32, 108, 111, 111, 112, 46, 101, 120, 97, 109, 112, 108, 101, 47, 116, 101, 109, 112, 108, 97, 116, 101, 101, 115, 99, 97, 112, 101, 114, 47, 108, 97, 119, 115, 46, 70, 110, 80, 97, 105, 114, 65, 108, 108, 111, 119, 101, 100, 32, 108, 111, 111, 112, 46, 101, 120, 97, 109, 112, 108, 101, 47, 116, 101, 109, 112, 108, 97, 116, 101, 101, 115, 99, 97, 112, 101, 114, 47, 108, 97, 119, 115, 46, 70, 110, 80, 108, 97, 99, 101, 79, 102, 32, 108, 111, 111, 112, 46, 101, 120, 97, 109, 112, 108, 101, 47, 116, 101, 109, 112, 108, 97, 116, 101, 101, 115, 99, 97, 112, 101, 114, 47, 108, 97, 119, 115, 46, 70, 110, 69, 120, 97, 99, 116, 85, 110, 101, 115, 99, 97, 112, 101, 70, 111, 114, 32, 108, 111, 111, 112, 46, 101, 120, 97, 109, 112, 108, 101, 47, 116, 101, 109, 112, 108, 97, 116, 101, 101, 115, 99, 97, 112, 101, 114, 47, 108, 97, 119, 115, 46, 70, 110, 83, 116, 97, 116, 101, 66, 101, 104, 105, 110, 100, 32, 108, 111, 111, 112, 46, 101, 120, 97, 109, 112, 108, 101, 47, 116, 101, 109, 112, 108, 97, 116, 101, 101, 115, 99, 97, 112, 101, 114, 47, 108, 97, 119, 115, 46, 70, 110, 69, 120, 97, 99, 116, 68, 101, 101, 112, 101, 115, 116, 80, 97, 114, 116, 32, 108, 111, 111, 112, 46, 101, 120, 97, 109, 112, 108, 101, 47, 116, 101, 109, 112, 108, 97, 116, 101, 101, 115, 99, 97, 112, 101, 114, 47, 108, 97, 119, 115, 46, 70, 110, 83, 97, 109, 101, 80, 97, 114, 116, 115, 32, 108, 111, 111, 112, 46, 101, 120, 97, 109, 112, 108, 101, 47, 116, 101, 109, 112, 108, 97, 116, 101, 101, 115, 99, 97, 112, 101, 114, 47, 108, 97, 119, 115, 46, 70, 110, 68, 101, 101, 112, 101, 115, 116, 80, 97, 114, 116]))) := by kernel_rfl
theorem bm (s : List Char) (h : isSumSigns s = true) (ws : List (List Char)) : behindMainWord (hdCs [104, 97, 114, 110, 101, 115, 115] :: s :: ws) = ws := by
  unfold behindMainWord
  dsimp only
  rw [if_pos]
  rw [h, show (hdCs [104, 97, 114, 110, 101, 115, 115] == "harness".toList) = true by decide +kernel]
  rfl
theorem headWords : ∃ ws, behindMainWord (wordsSigns Try.prog.initOrder.toList) = hdCs [99, 117, 116] :: ws := by
  rw [initIs, String.toList_ofList, ws_app _ _ (by decide +kernel), ws_app _ _ (by decide +kernel), ws_app _ _ (by decide +kernel)]
  exact ⟨_, bm _ (by decide +kernel) _⟩
theorem strip_cut (ws : List (List Char)) : stripLifts liftWords (hdCs [99, 117, 116] :: ws) = ([], hdCs [99, 117, 116] :: ws) := by kernel_rfl
section
variable {P : Program} {ws : List (List Char)} (h : behindMainWord (wordsSigns P.initOrder.toList) = hdCs [99, 117, 116] :: ws)
include h
theorem make_cut : P.make = some .cut := by
  unfold Program.make
  rw [h]
  dsimp only
  rw [if_neg (by decide +kernel), if_pos (by rw [show (hdCs [99, 117, 116] == "cut".toList) = true by decide +kernel]; rfl)]
theorem mayEnter_cut (h1 : P.laysLater = false) (h2 : P.bearsReflect = false) (h3 : P.doorFits [] = true) : P.mayEnter = true := by
  unfold Program.mayEnter
  rw [h]
  dsimp only
  rw [strip_cut]
  dsimp only
  rw [h1, h2, h3, show (List.head? (hdCs [99, 117, 116] :: ws) == some "cut".toList) = true by simp only [List.head?_cons]; decide +kernel]
  simp
theorem lifts_cut : P.liftsFinal = false := by
  unfold Program.liftsFinal Program.headLifts
  rw [h]
  dsimp only
  rw [strip_cut]
  dsimp only
  rw [show (List.head? (hdCs [99, 117, 116] :: ws) == some "carried".toList) = false by simp only [List.head?_cons]; decide +kernel]
  split <;> rfl
end
theorem makeIs : Try.prog.make = some .cut := by obtain ⟨ws, h⟩ := headWords; exact make_cut h
theorem mayEnterIs : Try.prog.mayEnter = true := by obtain ⟨ws, h⟩ := headWords; exact mayEnter_cut h (by kernel_rfl) (by kernel_rfl) (by kernel_rfl)
theorem liftsIs : Try.prog.liftsFinal = false := by obtain ⟨ws, h⟩ := headWords; exact lifts_cut h
/-- A function that comes back to itself is among those that are reached. -/
theorem rec_of {P : Program} {f g h : FuncId} {fn : Func} (h1 : (P.closure f).contains g = true) (h2 : P.funcs[g]? = some fn) (h3 : (P.leadsTo fn).contains h = true) (h4 : (P.closure h).contains g = true) : P.recurses f = true := by
  unfold Program.recurses
  rw [Bool.or_eq_true, List.any_eq_true]
  refine .inr ⟨g, List.contains_iff_mem.1 h1, ?_⟩
  rw [h2, List.any_eq_true]
  exact ⟨h, List.contains_iff_mem.1 h3, h4⟩
theorem cells1 : Try.prog.inPlace 3 = Rows.fnExactSamePartsRow.inPlace := by kernel_rfl
theorem cells2 : Try.prog.unfollowed 3 = Rows.fnExactSamePartsRow.unfollowed := by kernel_rfl
theorem cells3 : Try.prog.recurses 3 = Rows.fnExactSamePartsRow.recurses := rec_of (g := 18) (h := 18) (by kernel_rfl) Try.func18 (by kernel_rfl) (by kernel_rfl)
theorem cells4 : Try.prog.varsNamed 3 = Rows.fnExactSamePartsRow.named := by kernel_rfl
theorem cells : joinedFacts Try.prog 3 Try.f3 Rows.fnExactSamePartsSpec Rows.fnExactSamePartsRow = true := by
  unfold joinedFacts
  rw [cells1, cells2, cells3, cells4, mayEnterIs, makeIs, liftsIs]
  kernel_rfl
theorem over : Rows.fnExactSamePartsRow.holds Try.pinned (OpenSpec.ofChange Rows.fnExactSamePartsSpec) :=
  OpenClaim.holds_of_wide 3 Try.f3 rfl rfl rfl rfl rfl rfl rfl ⟨rfl, rfl, rfl, rfl, rfl⟩ rfl rfl rfl rfl rfl (by kernel_rfl) Try.func3 cells
    (of_decide_eq_true (by kernel_rfl)) (by unfold Func.isWrapper; first | (rw [if_pos (by decide +kernel)]; kernel_rfl) | (rw [if_neg (by decide +kernel)]; exact ⟨rfl, rfl⟩))
    (fun os started H enc _ => lifted os started H enc)

theorem proved : Rows.FnExactSamePartsSaid := over
#print axioms proved
end Go.Proofs.Ytdehpafflbhadaa.fnExactSameParts
