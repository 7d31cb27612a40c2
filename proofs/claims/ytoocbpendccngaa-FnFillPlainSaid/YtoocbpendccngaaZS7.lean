/- Contracts: states behind parts, faults: what the program and the reference come to. -/
import Derived.Test.YtoocbpendccngaaZFP
import Derived.Test.YtoocbpendccngaaZS5
import Derived.Test.YtoocbpendccngaaZS0
import Derived.Test.YtoocbpendccngaaZX8

namespace Go.Proofs.Ytoocbpendccngaa
attribute [local irreducible] awp arun acalm FinP Fin AX.then AX.inBlock Again aG gsel amix amixN amixC aop aopc aopd cutK
attribute [local go_sem] aBSliceD aSlice aSliceC boundOf aMk aCall aCallC aLenL aLen aPick_t aPick_f aNil aAlloc aBox aBuild bldPV aBSlice bsPV aApp newsOf destOf drp aConvX aConv aConvInt aLoad cellsAt aStore cellsPV setAt aFld aField aIdx aIndex aUn aBin' aBin aMax aExtract pvOf PV.isCell nmbL PV.nmb List.map_cons List.map_nil List.all_cons List.all_nil Bool.and_true Bool.true_and if_true if_false List.getD_cons_zero List.getD_cons_succ List.getD_nil Option.isSome_some true_and and_true and_self eq_self true_or or_true List.drop_zero List.drop_succ_cons List.drop_nil List.take_zero List.take_succ_cons List.take_nil List.length_cons List.length_nil List.length_map Option.getD_some Option.getD_none List.nil_append List.cons_append List.append_nil Option.some.injEq exists_eq_left' List.getElem?_cons_zero List.getElem?_cons_succ Int.toNat_natCast Int.natCast_inj toNat_succ Nat.zero_add res res1 resC owns owns1 ownsC List.flatMap_cons List.flatMap_nil List.flatten_cons List.flatten_nil List.mem_cons List.not_mem_nil or_false false_or forall_eq forall_eq_or_imp isFro frz frz1 pureC tabA isBld List.cons.injEq PV.seq.injEq PV.int.injEq PV.str.injEq PV.bool.injEq PV.agg.injEq inR tab Γof aRes packR Option.map_some Option.map_none rel Prod.exists exists_and_left exists_eq_left and_assoc beq_self_eq_true Bool.not_true Bool.not_false decide_true decide_false List.set_cons_zero List.set_cons_succ rst_nil rst_cons
attribute [local go_sem ↓] evT upd_def aop aopc aopd
set_option maxRecDepth 100000
set_option linter.unusedVariables false
set_option linter.unusedSimpArgs false
open Go.RowKit
--LV=S7
theorem St_eta (s : St) : (⟨s.mode, s.tag, s.attr, s.seen⟩ : St) = s := rfl
theorem eqSt (s t : St) : (decide (s.mode = t.mode) && (decide (s.tag = t.tag) && (decide (s.attr = t.attr) && s.seen == t.seen))) = decide (s = t) := by
  cases s; cases t
  simp only [St.mk.injEq]
  rw [Bool.eq_iff_iff]
  simp
theorem chkL_snoc' {s : St} {xs : List PartD} {k : Nat} {x : PartD} (hv : stV s = true) (h : xs[k]? = some x) : chkL s (xs.take (k + 1)) = if (chkP (chkL s (xs.take k)) x).mode = 15 then bad else chkP (chkL s (xs.take k)) x := by
  by_cases hs : s.mode = 15
  · rw [mode15 hv hs, chkL_bad, chkL_bad, chkP_bad]; rfl
  · by_cases hm : (chkL s (xs.take k)).mode = 15
    · have e := chkL_append (xs.take k) [x] s hs
      rw [if_pos hm, ← take_snoc' h] at e
      rw [e, mode15 (stV_chkL _ _ hv) hm, chkP_bad]; rfl
    · exact chkL_snoc h hs hm
theorem chkL_stop' {s : St} {xs : List PartD} {k : Nat} {x : PartD} (hv : stV s = true) (h : xs[k]? = some x) (hb : (chkP (chkL s (xs.take k)) x).mode = 15) : chkL s xs = bad := by
  rw [← chkL_split xs (k + 1) s hv, chkL_snoc' hv h, if_pos hb, chkL_bad]
theorem gd_mem {d : Nat} {x : PartD} : ∀ {xs : List PartD} {b : Bool} {k : Nat}, gdL d b xs = true → xs[k]? = some x → gdP d x = true
  | [], _, _, _, h => by simp at h
  | y :: ys, b, 0, hg, h => by
    obtain rfl : y = x := by simpa using h
    rw [gdL] at hg
    simp only [Bool.and_eq_true] at hg
    exact hg.1.1
  | y :: ys, b, k + 1, hg, h => by
    rw [gdL] at hg
    simp only [Bool.and_eq_true] at hg
    exact gd_mem hg.2 (by simpa using h)
theorem gd_kids {d : Nat} {k : Int} {t n : Bs} {ps os : List PartD} (h : gdP d (.mk k t n ps os) = true) : (k = 1 ∨ k = 2 ∨ k = 3 ∨ k = 4) ∧ (∃ d b, gdL d b ps = true) ∧ (∃ d b, gdL d b os = true) ∧ (k = 4 → os = []) := by
  rw [gdP_mk] at h
  split at h
  · rename_i e
    simp only [Bool.and_eq_true, decide_eq_true_eq] at h
    obtain ⟨⟨_, rfl⟩, rfl⟩ := h
    exact ⟨.inl e, ⟨0, false, gdL_nil _ _⟩, ⟨0, false, gdL_nil _ _⟩, fun _ => rfl⟩
  split at h
  · rename_i e
    simp only [Bool.and_eq_true, decide_eq_true_eq] at h
    obtain ⟨⟨_, rfl⟩, rfl⟩ := h
    exact ⟨.inr (.inl e), ⟨0, false, gdL_nil _ _⟩, ⟨0, false, gdL_nil _ _⟩, fun _ => rfl⟩
  split at h
  · rename_i e
    simp only [Bool.and_eq_true, decide_eq_true_eq] at h
    refine ⟨by omega, ⟨_, _, h.1.2⟩, ⟨_, _, h.2⟩, fun h4 => ?_⟩
    have := h.1.1.1.2
    simp [h4] at this
    exact this
  · cases h
@[go_sem] def chkC (n : Nat) : PC := rel (α := St × List PartD) (fun x => [.agg (encS x.1), .seq (encPs x.2)]) (fun x => wtL x.2 < n ∧ wtL x.2 ≤ 1099511627776 ∧ stV x.1 = true ∧ ∃ d b, gdL d b x.2 = true) (fun x => .agg (encS (chkL x.1 x.2)))
@[go_sem] def chkQ : PC := rel (α := St × List PartD) (fun x => [.agg (encS x.1), .seq (encPs x.2)]) (fun x => wtL x.2 ≤ 1099511627776 ∧ stV x.1 = true ∧ ∃ d b, gdL d b x.2 = true) (fun x => .agg (encS (chkL x.1 x.2)))
end Go.Proofs.Ytoocbpendccngaa
