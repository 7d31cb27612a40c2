/- The statement FnLongFill: the given law returns true for all arguments that its row speaks of. No conditions of ours. -/
import Derived.Test.YtnbjogilidfkdaaGreatVY43
import Derived.Test.YtnbjogilidfkdaaGreatVGW
import Derived.Test.YtnbjogilidfkdaaGreatVCW
import Derived.Test.YtnbjogilidfkdaaGreatVP3
import Derived.ProofKit
import Derived.OpenShut
import Derived.ShutString
import Derived.ChangeOld
import Derived.HandedShaped
import Derived.Below
import Derived.Lib.SmallJoins

namespace Go.Proofs.YtnbjogilidfkdaaGreat.fnLongFill
set_option maxRecDepth 100000
set_option linter.unusedVariables false
set_option linter.unusedSimpArgs false
open Go.ChangeShapes Go.WideShapes Go.ChangeAt Go.RowKit Go.Joins
open Go.ChangeMaps (open_string shut_string)
theorem own : ownKnob Tryz.prog.godebug = none := by kernel_rfl
theorem laidOut : laidOutB Tryz.prog = true := by kernel_rfl
set_option maxRecDepth 100000 in
theorem lifted (os : Os) (started : os.Started) (H : Type) (enc : TypeId × Value → H) :
    ReturnsInHanded {} Tryz.checked os 3 .any (Rows.fnLongFillSpec.pre6 enc Tryz.prog Tryz.f3 Rows.fnLongFillRow.domain false) (Rows.fnLongFillSpec.post enc Tryz.prog Tryz.f3 false true false false) := by
  refine returnsInHanded_of_change_shaped (C := Tryz.checked) own started (by kernel_rfl) Tryz.func3
    (ChangeSpec.witness6 (enc := enc) (C := Tryz.checked) false ⟨#[], #[.slice none 0 0], []⟩ 8 (by kernel_rfl) (by kernel_rfl) (by kernel_rfl) (by kernel_rfl)) ?_
  intro W base args ds gs before hval0 hW hcnd hrch hsh _
  have hval : ∀ (j : Nat) t v, Tryz.f3.params[j]? = some t → args[j]? = some v → Value.okWide Tryz.prog W .any base t v := hval0
  have hW' := hW
  obtain ⟨p, q, hA0, hV, rfl, hfz, hnd⟩ := hW
  have hA : DataW.TrodAll enc Tryz.prog W 0 (fun _ => true) true Tryz.f3.params.toList args.toList ds p := hA0
  rw [Tryz.params3] at hA hval
  obtain ⟨v0, vs0, d0, ds0, p0, q0, hargs, rfl, rfl, h0, r0⟩ := trodAll_cons hA
  obtain ⟨rfl, rfl, rfl⟩ := trodAll_nil r0
  obtain rfl : args = #[v0] := by cases args; simp_all
  obtain ⟨rfl, rfl⟩ := trodVars_none hV
  have k0 := h0
  have lt0 : ∀ x ∈ p0, x.block < W.heap.size := by obtain ⟨m, hm⟩ := k0; exact DataW.trod_lt m _ _ _ hm
  obtain ⟨a0, len0, cap0, e0⟩ := okWide_slice Tryz.underlying22 (hval 0 22 v0 rfl rfl)
  obtain ⟨x0, c0, g0⟩ := (by subst e0; obtain ⟨fuel, hf⟩ := k0; exact open_bytes hf : Arg_bytes W v0)
  clear hA0 hval0
  simp only [List.append_nil] at hW'
  refine (true_of_pure (rel_calls FnLongFill_pure (x0) c0 W (globW hsh) (vs := [v0]) (by simp only [RepL.cons_iff, RepL.nil_iff]; exact ⟨_, _, rfl, g0,  rfl⟩))).mono fun e W' ⟨he, bel⟩ => ?_
  subst he
  exact ⟨_, rfl, _, _, _, [], _, [], hW', trodAll_mk1 (shut_bool Tryz.underlying4 _), (trodAll_cons_mk (Below.trod laidOut (by kernel_rfl) (of_decide_eq_true (by kernel_rfl)) k0 bel lt0) trodAll_mk0), rfl, bel.frame _, fun h => by cases h⟩
theorem cells1 : Tryz.prog.inPlace 3 = Rows.fnLongFillRow.inPlace := by kernel_rfl
theorem cells2 : Tryz.prog.unfollowed 3 = Rows.fnLongFillRow.unfollowed := by kernel_rfl
theorem cells3 : Tryz.prog.recurses 3 = Rows.fnLongFillRow.recurses := rec_of (g := 127) (h := 127) (by kernel_rfl) Tryz.func127 (by kernel_rfl) (by kernel_rfl)
theorem cells4 : Tryz.prog.varsNamed 3 = Rows.fnLongFillRow.named := by kernel_rfl
theorem cells : joinedFacts Tryz.prog 3 Tryz.f3 Rows.fnLongFillSpec Rows.fnLongFillRow = true := by
  unfold joinedFacts
  rw [cells1, cells2, cells3, cells4, mayEnterIs, makeIs, liftsIs]
  kernel_rfl
theorem over : Rows.fnLongFillRow.holds Tryz.pinned (OpenSpec.ofChange Rows.fnLongFillSpec) :=
  OpenClaim.holds_of_wide 3 Tryz.f3 rfl rfl rfl rfl rfl rfl rfl ⟨rfl, rfl, rfl, rfl, rfl⟩ rfl rfl rfl rfl rfl (by kernel_rfl) Tryz.func3 cells
    (of_decide_eq_true (by kernel_rfl)) (by unfold Func.isWrapper; first | (rw [if_pos (by decide +kernel)]; kernel_rfl) | (rw [if_neg (by decide +kernel)]; exact ⟨rfl, rfl⟩))
    (fun os started H enc _ => lifted os started H enc)
theorem proved : Rows.FnLongFillSaid := over
#print axioms proved
end Go.Proofs.YtnbjogilidfkdaaGreat.fnLongFill
