/- The statement FnExactStateBehind: over the walk of the law in module W3. -/
import Derived.Test.YtdehpafflbhadaaW3
import Derived.ProofKit
import Derived.OpenShut
import Derived.ShutString
import Derived.ChangeOld
import Derived.Below
import Derived.Lib.SmallJoins
namespace Go.Proofs.Ytdehpafflbhadaa.fnExactStateBehind
open Go.ChangeShapes Go.WideShapes Go.ChangeAt Go.RowKit Go.Joins
open Go.ChangeMaps (open_string shut_string)
set_option linter.unusedVariables false

theorem own : ownKnob Try.prog.godebug = none := by kernel_rfl
theorem laidOut : laidOutB Try.prog = true := by kernel_rfl

set_option maxRecDepth 100000 in
theorem lifted (os : Os) (started : os.Started) (H : Type) (enc : TypeId × Value → H) :
    ReturnsInHanded {} Try.checked os 6 .any (Rows.fnExactStateBehindSpec.pre6 enc Try.prog Try.f6 Rows.fnExactStateBehindRow.domain false) (Rows.fnExactStateBehindSpec.post enc Try.prog Try.f6 false true false false) := by
  refine returnsInHanded_of_change (C := Try.checked) own started (by kernel_rfl) Try.func6
    (ChangeSpec.witness6 (enc := enc) (C := Try.checked) false ⟨#[], #[.agg #[.int .i64 0, .string ByteArray.empty, .string ByteArray.empty, .bool false]], []⟩ 8 (by kernel_rfl) (by kernel_rfl) (by kernel_rfl) (by kernel_rfl)) ?_
  intro W base args ds gs before hval0 hW hcnd _
  have hval : ∀ (j : Nat) t v, Try.f6.params[j]? = some t → args[j]? = some v → Value.okWide Try.prog W .any base t v := hval0
  have hW' := hW
  obtain ⟨p, q, hA0, hV, rfl, hfz, hnd⟩ := hW
  have hA : DataW.TrodAll enc Try.prog W 0 (fun _ => true) true Try.f6.params.toList args.toList ds p := hA0
  rw [Try.params6] at hA hval
  obtain ⟨v0, vs0, d0, ds0, p0, q0, hargs, rfl, rfl, h0, r0⟩ := trodAll_cons hA
  obtain ⟨rfl, rfl, rfl⟩ := trodAll_nil r0
  obtain rfl : args = #[v0] := by cases args; simp_all
  obtain ⟨rfl, rfl⟩ := trodVars_none hV
  have k0 := h0
  have lt0 : ∀ x ∈ p0, x.block < W.heap.size := by obtain ⟨m, hm⟩ := k0; exact DataW.trod_lt m _ _ _ hm
  obtain ⟨c0_0, c0_1, c0_2, c0_3, y0_0, y0_1, y0_2, y0_3, mm0, rfl, rfl, rfl, hy0_0, hy0_1, hy0_2, hy0_3⟩ := open_agg4 Try.underlying40 (by kernel_rfl) (by kernel_rfl) (hval 0 40 v0 rfl rfl) h0
  obtain ⟨a0_0, e0_0, _, w0_0⟩ := DataW.trod_int Try.underlying3 hy0_0
  simp only [List.cons.injEq, and_true] at e0_0; subst e0_0
  obtain ⟨a0_1, e0_1, _, w0_1⟩ := DataW.trod_string Try.underlying9 hy0_1
  simp only [List.cons.injEq, and_true] at e0_1; subst e0_1
  obtain ⟨a0_2, e0_2, _, w0_2⟩ := DataW.trod_string Try.underlying9 hy0_2
  simp only [List.cons.injEq, and_true] at e0_2; subst e0_2
  obtain ⟨a0_3, e0_3, _⟩ := DataW.trod_bool Try.underlying4 hy0_3
  simp only [List.cons.injEq, and_true] at e0_3; subst e0_3
  clear hA0 hval0
  simp only [List.append_nil] at hW'
  refine (FnExactStateBehind_walk a0_0 a0_1 a0_2 a0_3 W w0_1 w0_2).mono fun e W' ⟨he, bel⟩ => ?_
  subst he
  exact ⟨_, rfl, _, _, _, [], _, [], hW', trodAll_mk1 (shut_bool Try.underlying4 _), (trodAll_cons_mk (Below.trod laidOut (by kernel_rfl) (of_decide_eq_true (by kernel_rfl)) k0 bel lt0) trodAll_mk0), rfl, bel.frame _, fun h => by cases h⟩

def hdCs (l : List Nat) : List Char := l.map Char.ofNat
theorem ws_app (w r : List Char) (h : w.all (fun c => c != Char.ofNat 32) = true) : wordsSigns (w ++ Char.ofNat 32 :: r) = w :: wordsSigns r := by
  induction w with
  | nil => rfl
  | cons c w ih =>
    rw [List.all_cons, Bool.and_eq_true] at h
    have hc : c ≠ Char.ofNat 32 := bne_iff_ne.mp h.1
    rw [List.cons_append, wordsSigns, ih h.2]
    exact hc
theorem initIs : Try.prog.initOrder = String.ofList (hdCs [104, 97, 114, 110, 101, 115, 115] ++ Char.ofNat 32 :: (hdCs [57, 48, 56, 49, 54, 97, 56, 97, 101, 52, 57, 53, 56, 48, 48, 98, 53, 101, 51, 52, 49, 49, 49, 97, 57, 52, 97, 50, 49, 55, 101, 98, 51, 53, 51, 55, 101, 97, 99, 100, 98, 98, 55, 56, 97, 50, 51, 51, 54, 55, 50, 55, 102, 53, 52, 100, 48, 100, 48, 57, 97, 52, 100, 52] ++ Char.ofNat 32 :: (hdCs [99, 117, 116] ++ Char.ofNat 32 :: hdCs [97, 116, 32, 108, 111, 111, 112, 46, 101, 120, 97, 109, 112, 108, 101, 47, 116, 101, 109, 112, 108, 97, 116, 101, 101, 115, 99, 97, 112, 101, 114, 47, 108, 97, 119, 115, 46, 70, 110, 69, 120, 97, 99, 116, 83, 97, 109, 101, 80, 97, 114, 116, 115, 32, 108, 111, 111, 112, 46, 101, 120, 97, 109, 112, 108, 101, 47, 116, 101, 109, 112, 108, 97, 116, 101, 101, 115, 99, 97, 112, 101, 114, 47, 108, 97, 119, 115, 46, 70, 110, 69, 120, 97, 99, 116, 84, 101, 120, 116, 115, 79, 102, 32, 108, 111, 111, 112, 46, 101, 120, 97, 109, 112, 108, 101, 47, 116, 101, 109, 112, 108, 97, 116, 101, 101, 115, 99, 97, 112, 101, 114, 47, 108, 97, 119, 115, 46, 70, 110, 69, 120, 97, 99, 116, 80, 108, 97, 99, 101, 79, 102, 32, 108, 111, 111, 112, 46, 101, 120, 97, 109, 112, 108, 101, 47, 116, 101, 109, 112, 108, 97, 116, 101, 101, 115, 99, 97, 112, 101, 114, 47, 108, 97, 119, 115, 46, 70, 110, 69, 120, 97, 99, 116, 83, 116, 97, 116, 101, 66, 101, 104, 105, 110, 100, 32, 108, 111, 111, 112, 46, 101, 120, 97, 109, 112, 108, 101, 47, 116, 101, 109, 112, 108, 97, 116, 101, 101, 115, 99, 97, 112, 101, 114, 47, 108, 97, 119, 115, 46, 70, 110, 69, 120, 97, 99, 116, 80, 97, 105, 114, 65, 108, 108, 111, 119, 101, 100, 32, 108, 111, 111, 112, 46, 101, 120, 97, 109, 112, 108, 101, 47, 116, 101, 109, 112, 108, 97, 116, 101, 101, 115, 99, 97, 112, 101, 114, 47, 108, 97, 119, 115, 46, 70, 110, 80, 97, 105, 114, 65, 108, 108, 111, 119, 101, 100, 32, 108, 111, 111, 112, 46, 101, 120, 97, 109, 112, 108, 101, 47, 116, 101, 109, 112, 108, 97, 116, 101, 101, 115, 99, 97, 112, 101, 114, 47, 108, 97, 119, 115, 46, 70, 110, 80, 108, 97, 99, 101, 79, 102, 32, 108, 111, 111, 112, 46, 101, 120, 97, 109, 112, 108, 101, 47, 116, 101, 109, 112, 108, 97, 116, 101, 101, 115, 99, 97, 112, 101, 114, 47, 108, 97, 119, 115, 46, 70, 110, 69, 120, 97, 99, 116, 85, 110, 101, 115, 99, 97, 112, 101, 70, 111, 114, 32, 108, 111, 111, 112, 46, 101, 120, 97, 109, 112, 108, 101, 47, 116, 101, 109, 112, 108, 97, 116, 101, 101, 115, 99, 97, 112, 101, 114, 47, 108, 97, 119, 115, 46, 70, 110, 83, 116, 97, 116, 101, 66, 101, 104, 105, 110, 100, 32, 108, 111, 111, 112, 46, 101, 120, 97, 109, 112, 108, 101, 47, 116, 101, 109, 112, 108, 97, 116, 101, 101, 115, 99, 97, 112, 101, 114, 47, 108, 97, 119, 115, 46, 70, 110, 69, 120, 97, 99, 116, 68, 101, 101, 112, 101, 115, 116, 80, 97, 114, 116, 32, 108, 111, 111, 112, 46, 101, 120, 97, 109, 112, 108, 101, 47, 116, 101, 109, 112, 108, 97, 116, 101, 101, 115, 99, 97, 112, 101, 114, 47, 108, 97, 119, 115, 46, 70, 110, 83, 97, 109, 101, 80, 97, 114, 116, 115, 32, 108, 111, 111, 112, 46, 101, 120, 97, 109, 112, 108, 101, 47, 116, 101, 109, 112, 108, 97, 116, 101, 101, 115, 99, 97, 112, 101, 114, 47, 108, 97, 119, 115, 46, 70, 110, 68, 101, 101, 112, 101, 115, 116, 80, 97, 114, 116]))) := by kernel_rfl
theorem bm (s : List Char) (h : isSumSigns s = true) (ws : List (List Char)) : behindMainWord (hdCs [104, 97, 114, 110, 101, 115, 115] :: s :: ws) = ws := by
  unfold behindMainWord
  dsimp only
  rw [if_pos]
  rw [h, show (hdCs [104, 97, 114, 110, 101, 115, 115] == "harness".toList) = true by decide +kernel]
  rfl
theorem headWords : ∃ ws, behindMainWord (wordsSigns Try.prog.initOrder.toList) = hdCs [99, 117, 116] :: ws := by
  rw [initIs, String.toList_ofList, ws_app _ _ (by decide +kernel), ws_app _ _ (by decide +kernel), ws_app _ _ (by decide +kernel)]
  exact ⟨_, bm _ (by decide +kernel) _⟩
theorem strip_cut (ws : List (List Char)) : stripLifts liftWords (hdCs [99, 117, 116] :: ws) = ([], hdCs [99, 117, 116] :: ws) := by kernel_rfl
section
variable {P : Program} {ws : List (List Char)} (h : behindMainWord (wordsSigns P.initOrder.toList) = hdCs [99, 117, 116] :: ws)
include h
theorem make_cut : P.make = some .cut := by
  unfold Program.make
  rw [h]
  dsimp only
  rw [if_neg (by decide +kernel), if_pos (by rw [show (hdCs [99, 117, 116] == "cut".toList) = true by decide +kernel]; rfl)]
theorem mayEnter_cut (h1 : P.laysLater = false) (h2 : P.bearsReflect = false) (h3 : P.doorFits [] = true) : P.mayEnter = true := by
  unfold Program.mayEnter
  rw [h]
  dsimp only
  rw [strip_cut]
  dsimp only
  rw [h1, h2, h3, show (List.head? (hdCs [99, 117, 116] :: ws) == some "cut".toList) = true by simp only [List.head?_cons]; decide +kernel]
  simp
theorem lifts_cut : P.liftsFinal = false := by
  unfold Program.liftsFinal Program.headLifts
  rw [h]
  dsimp only
  rw [strip_cut]
  dsimp only
  rw [show (List.head? (hdCs [99, 117, 116] :: ws) == some "carried".toList) = false by simp only [List.head?_cons]; decide +kernel]
  split <;> rfl
end
theorem makeIs : Try.prog.make = some .cut := by obtain ⟨ws, h⟩ := headWords; exact make_cut h
theorem mayEnterIs : Try.prog.mayEnter = true := by obtain ⟨ws, h⟩ := headWords; exact mayEnter_cut h (by kernel_rfl) (by kernel_rfl) (by kernel_rfl)
theorem liftsIs : Try.prog.liftsFinal = false := by obtain ⟨ws, h⟩ := headWords; exact lifts_cut h
theorem cells1 : Try.prog.inPlace 6 = Rows.fnExactStateBehindRow.inPlace := by kernel_rfl
theorem cells2 : Try.prog.unfollowed 6 = Rows.fnExactStateBehindRow.unfollowed := by kernel_rfl
theorem cells3 : Try.prog.recurses 6 = Rows.fnExactStateBehindRow.recurses := by kernel_rfl
theorem cells4 : Try.prog.varsNamed 6 = Rows.fnExactStateBehindRow.named := by kernel_rfl
theorem cells : joinedFacts Try.prog 6 Try.f6 Rows.fnExactStateBehindSpec Rows.fnExactStateBehindRow = true := by
  unfold joinedFacts
  rw [cells1, cells2, cells3, cells4, mayEnterIs, makeIs, liftsIs]
  kernel_rfl
theorem over : Rows.fnExactStateBehindRow.holds Try.pinned (OpenSpec.ofChange Rows.fnExactStateBehindSpec) :=
  OpenClaim.holds_of_wide 6 Try.f6 rfl rfl rfl rfl rfl rfl rfl ⟨rfl, rfl, rfl, rfl, rfl⟩ rfl rfl rfl rfl rfl (by kernel_rfl) Try.func6 cells
    (of_decide_eq_true (by kernel_rfl)) (by unfold Func.isWrapper; first | (rw [if_pos (by decide +kernel)]; kernel_rfl) | (rw [if_neg (by decide +kernel)]; exact ⟨rfl, rfl⟩))
    (fun os started H enc _ => lifted os started H enc)

theorem proved : Rows.FnExactStateBehindSaid := over
#print axioms proved
end Go.Proofs.Ytdehpafflbhadaa.fnExactStateBehind
