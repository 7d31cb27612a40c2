/- The statement FnExactKeepsPlace: the given law returns true for all arguments that its row speaks of. No conditions of ours. -/
import Derived.Test.YtcagfbgplpokkaaZY11
import Derived.Test.YtcagfbgplpokkaaZGW
import Derived.Test.YtcagfbgplpokkaaZCW
import Derived.ProofKit
import Derived.OpenShut
import Derived.ShutString
import Derived.ChangeOld
import Derived.HandedShaped
import Derived.Below
import Derived.Lib.SmallJoins

namespace Go.Proofs.Ytcagfbgplpokkaa.fnExactKeepsPlace
set_option maxRecDepth 100000
set_option linter.unusedVariables false
set_option linter.unusedSimpArgs false
open Go.ChangeShapes Go.WideShapes Go.ChangeAt Go.RowKit Go.Joins
open Go.ChangeMaps (open_string shut_string)
theorem own : ownKnob Try.prog.godebug = none := by kernel_rfl
theorem laidOut : laidOutB Try.prog = true := by kernel_rfl
set_option maxRecDepth 100000 in
theorem lifted (os : Os) (started : os.Started) (H : Type) (enc : TypeId × Value → H) :
    ReturnsInHanded {} Try.checked os 14 .any (Rows.fnExactKeepsPlaceSpec.pre6 enc Try.prog Try.f14 Rows.fnExactKeepsPlaceRow.domain false) (Rows.fnExactKeepsPlaceSpec.post enc Try.prog Try.f14 false true false false) := by
  refine returnsInHanded_of_change_shaped (C := Try.checked) own started (by kernel_rfl) Try.func14
    (ChangeSpec.witness6 (enc := enc) (C := Try.checked) false ⟨#[], #[.agg #[.int .i64 0, .string ByteArray.empty, .string ByteArray.empty, .bool false], .string ByteArray.empty], []⟩ 8 (by kernel_rfl) (by kernel_rfl) (by kernel_rfl) (by kernel_rfl)) ?_
  intro W base args ds gs before hval0 hW hcnd hrch hsh _
  have hval : ∀ (j : Nat) t v, Try.f14.params[j]? = some t → args[j]? = some v → Value.okWide Try.prog W .any base t v := hval0
  have hW' := hW
  obtain ⟨p, q, hA0, hV, rfl, hfz, hnd⟩ := hW
  have hA : DataW.TrodAll enc Try.prog W 0 (fun _ => true) true Try.f14.params.toList args.toList ds p := hA0
  rw [Try.params14] at hA hval
  obtain ⟨v0, vs0, d0, ds0, p0, q0, hargs, rfl, rfl, h0, r0⟩ := trodAll_cons hA
  obtain ⟨v1, vs1, d1, ds1, p1, q1, rfl, rfl, rfl, h1, r1⟩ := trodAll_cons r0
  obtain ⟨rfl, rfl, rfl⟩ := trodAll_nil r1
  obtain rfl : args = #[v0, v1] := by cases args; simp_all
  obtain ⟨rfl, rfl⟩ := trodVars_none hV
  have k0 := h0
  have lt0 : ∀ x ∈ p0, x.block < W.heap.size := by obtain ⟨m, hm⟩ := k0; exact DataW.trod_lt m _ _ _ hm
  obtain ⟨ca0, cb0, cc0, cd0, ya0, yb0, yc0, yd0, mm0, e0, _, _, ha0, hb0, hc0, hd0⟩ := open_agg4 Try.underlying67 (by kernel_rfl) (by kernel_rfl) (hval 0 67 v0 rfl rfl) h0
  obtain ⟨za0, ia0, _, wa0⟩ := DataW.trod_int Try.underlying3 ha0
  obtain ⟨zb0, ib0, _, wb0⟩ := DataW.trod_string Try.underlying9 hb0
  obtain ⟨zc0, ic0, _, wc0⟩ := DataW.trod_string Try.underlying9 hc0
  obtain ⟨zd0, id0, _⟩ := DataW.trod_bool Try.underlying4 hd0
  simp only [List.cons.injEq, and_true] at ia0 ib0 ic0 id0
  have c0 : okS ⟨za0, zb0.data.toList, zc0.data.toList, zd0⟩ := ⟨by simpa [maxLen] using wb0, by simpa [maxLen] using wc0⟩
  have g0 : Rep (.agg (encS ⟨za0, zb0.data.toList, zc0.data.toList, zd0⟩)) ⟨W, fun b => b < W.heap.size, fun _ => none⟩ v0 := by
    rw [e0]; unfold Rep
    refine ⟨_, rfl, ?_⟩
    simp only [encS, RepL.cons_iff, RepL.nil_iff]
    exact ⟨_, _, rfl, by unfold Rep; exact ia0, _, _, rfl, by unfold Rep; exact ib0, _, _, rfl, by unfold Rep; exact ic0, _, _, rfl, by unfold Rep; exact id0, rfl⟩
  generalize (⟨za0, zb0.data.toList, zc0.data.toList, zd0⟩ : St) = x0 at c0 g0
  have k1 := h1
  have lt1 : ∀ x ∈ p1, x.block < W.heap.size := by obtain ⟨m, hm⟩ := k1; exact DataW.trod_lt m _ _ _ hm
  obtain ⟨s1, e1, _, _, w1⟩ := open_string Try.underlying9 (hval 1 9 v1 rfl rfl) h1
  obtain ⟨x1, hx1⟩ : ∃ l : Bs, l = s1.data.toList := ⟨_, rfl⟩
  have c1 : x1.length ≤ 9223372036854775807 := by rw [hx1]; simpa [maxLen] using w1
  have g1 : Rep (.str x1) ⟨W, fun b => b < W.heap.size, fun _ => none⟩ v1 := by unfold Rep; rw [e1, hx1]
  clear hA0 hval0
  simp only [List.append_nil] at hW'
  refine (true_of_pure (rel_calls FnExactKeepsPlace_pure (x0, x1) ⟨c0, c1⟩ W (globW hsh) (vs := [v0, v1]) (by simp only [RepL.cons_iff, RepL.nil_iff]; exact ⟨_, _, rfl, g0, _, _, rfl, g1,  rfl⟩))).mono fun e W' ⟨he, bel⟩ => ?_
  subst he
  exact ⟨_, rfl, _, _, _, [], _, [], hW', trodAll_mk1 (shut_bool Try.underlying4 _), (trodAll_cons_mk (Below.trod laidOut (by kernel_rfl) (of_decide_eq_true (by kernel_rfl)) k0 bel lt0) (trodAll_cons_mk (Below.trod laidOut (by kernel_rfl) (of_decide_eq_true (by kernel_rfl)) k1 bel lt1) trodAll_mk0)), rfl, bel.frame _, fun h => by cases h⟩
theorem cells1 : Try.prog.inPlace 14 = Rows.fnExactKeepsPlaceRow.inPlace := by kernel_rfl
theorem cells2 : Try.prog.unfollowed 14 = Rows.fnExactKeepsPlaceRow.unfollowed := by kernel_rfl
theorem cells3 : Try.prog.recurses 14 = Rows.fnExactKeepsPlaceRow.recurses := by kernel_rfl
theorem cells4 : Try.prog.varsNamed 14 = Rows.fnExactKeepsPlaceRow.named := by kernel_rfl
theorem cells : joinedFacts Try.prog 14 Try.f14 Rows.fnExactKeepsPlaceSpec Rows.fnExactKeepsPlaceRow = true := by
  unfold joinedFacts
  rw [cells1, cells2, cells3, cells4, mayEnterIs, makeIs, liftsIs]
  kernel_rfl
theorem over : Rows.fnExactKeepsPlaceRow.holds Try.pinned (OpenSpec.ofChange Rows.fnExactKeepsPlaceSpec) :=
  OpenClaim.holds_of_wide 14 Try.f14 rfl rfl rfl rfl rfl rfl rfl ⟨rfl, rfl, rfl, rfl, rfl⟩ rfl rfl rfl rfl rfl (by kernel_rfl) Try.func14 cells
    (of_decide_eq_true (by kernel_rfl)) (by unfold Func.isWrapper; first | (rw [if_pos (by decide +kernel)]; kernel_rfl) | (rw [if_neg (by decide +kernel)]; exact ⟨rfl, rfl⟩))
    (fun os started H enc _ => lifted os started H enc)
theorem proved : Rows.FnExactKeepsPlaceSaid := over
#print axioms proved
end Go.Proofs.Ytcagfbgplpokkaa.fnExactKeepsPlace
