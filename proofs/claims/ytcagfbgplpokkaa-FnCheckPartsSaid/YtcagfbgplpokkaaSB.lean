import Derived.Test.YtcagfbgplpokkaaX10
import Derived.Test.YtcagfbgplpokkaaK1
import Derived.Test.YtcagfbgplpokkaaS5
import Derived.Test.YtcagfbgplpokkaaS6
import Derived.Test.YtcagfbgplpokkaaX8
import Derived.Test.YtcagfbgplpokkaaS4
/- Contracts: PartsValid, DeepestPart. -/
namespace Go.Proofs.Ytcagfbgplpokkaa
attribute [local irreducible] awp arun acalm FinP Fin AX.then AX.inBlock Again aG gsel amix amixN amixC aop aopc aopd cutK
attribute [local go_sem] aop aopc aopd aBSliceD aSlice aSliceC boundOf aMk evT upd_def aCall aCallC aLenL aLen aPick_t aPick_f aNil aAlloc aBox aBuild bldPV aBSlice bsPV aApp newsOf destOf drp aConvX aConv aConvInt aLoad cellsAt aStore cellsPV setAt aFld aField aIdx aIndex aUn aBin' aBin aMax aExtract pvOf PV.isCell nmbL PV.nmb List.map_cons List.map_nil List.all_cons List.all_nil Bool.and_true Bool.true_and if_true if_false List.getD_cons_zero List.getD_cons_succ List.getD_nil Option.isSome_some true_and and_true and_self eq_self true_or or_true List.drop_zero List.drop_succ_cons List.drop_nil List.take_zero List.take_succ_cons List.take_nil List.length_cons List.length_nil List.length_map Option.getD_some Option.getD_none List.nil_append List.cons_append List.append_nil Option.some.injEq exists_eq_left' List.getElem?_cons_zero List.getElem?_cons_succ Int.toNat_natCast Int.natCast_inj toNat_succ Nat.zero_add res res1 resC owns owns1 ownsC List.flatMap_cons List.flatMap_nil List.flatten_cons List.flatten_nil List.mem_cons List.not_mem_nil or_false false_or forall_eq forall_eq_or_imp isFro frz frz1 pureC tabA isBld List.cons.injEq PV.seq.injEq PV.int.injEq PV.str.injEq PV.bool.injEq PV.agg.injEq inR tab Γof aRes packR Option.map_some Option.map_none rel Prod.exists exists_and_left exists_eq_left and_assoc beq_self_eq_true Bool.not_true Bool.not_false decide_true decide_false List.set_cons_zero List.set_cons_succ rst_nil rst_cons
set_option maxRecDepth 100000
set_option linter.unusedVariables false
set_option linter.unusedSimpArgs false
open Go.RowKit

@[go_sem] def parV (f : List PartD → PV) : PC := rel (α := List PartD) (fun x => [.seq (encPs x)]) (fun x => wtL x ≤ 4294967280) f
theorem pok_ic : PureOk Try.prog 122 pokQ := rel_all (fun x : List PartD × Int => wtL x.1) pok_i
theorem pv_i : PureOk Try.prog 67 (parV fun x => .bool (partsB x)) := by
  refine pure_rel 1 (tab_cons cnt_ic (tab_cons pok_ic tab_nil)) mixed [.tmp 2] Try.func67 rfl rfl (by kernel_rfl) (by kernel_rfl) (fun _ => rfl) (by kernel_rfl) ?_
  rintro xs K hb hK
  unfold entry
  repeat' (first | refine qw8 ?_ | refine qw1 ?_ | refine qw6 ?_ | refine qt1 ?_ | refine qw5 ?_ | refine qw2 ?_ | refine qw9 ?_ | refine qt2 ?_ | refine qt3 ?_ | refine qt4 ?_ | refine qt5 ?_ | refine qt6 ?_ | refine qw3 ?_ | refine qw4 ?_ | refine qj1 ?_ | refine qj2 ?_ | refine qj3 ?_ | refine qj4 ?_ | refine qj5 ?_ | refine qu1 ?_ | refine qu2 ?_ | refine qne ?_ | refine qyn ?_ | refine qyz ?_ | refine qy0 ?_ | refine qnt rfl rfl ?_ | refine qnf rfl rfl ?_ | refine qyc rfl ?_ | refine qy1 rfl ?_ | refine qy2 rfl ?_ ?_ | ((first | refine qa1 fun K hk => ?_ | refine qa2 fun K hk => ?_ | refine qa3 fun K hk => ?_ | refine qh1 fun K hk => ?_ | refine qh2 fun K hk => ?_ | refine qm1 fun K hk => ?_ | refine qm2 fun K hk => ?_ | refine qm3 fun K hk => ?_); simp only [go_sem, ↓upd_def, ↓evT, ↓aop, ↓aopc, ↓aopd, Nat.reduceEqDiff, Nat.reduceAdd, Nat.reduceLeDiff, Nat.reduceLT, Nat.reduceSub, Int.reduceToNat, ↓reduceIte, reduceCtorEq]; (repeat (refine And.intro ?_ ?_; focus (first | omega | assumption | with_reducible rfl | (simp only [go_sem, ↓upd_def, ↓evT, ↓aop, ↓aopc, ↓aopd, Nat.reduceEqDiff, Nat.reduceAdd, Nat.reduceLeDiff, Nat.reduceLT, Nat.reduceSub, Int.reduceToNat, ↓reduceIte, reduceCtorEq]; done)))); intros; apply hk; clear hk K) | ((first | apply qg1 rfl | apply qcd); focus (simp only [go_sem, ↓upd_def, ↓evT, ↓aop, ↓aopc, ↓aopd, Nat.reduceEqDiff, Nat.reduceAdd, Nat.reduceLeDiff, Nat.reduceLT, Nat.reduceSub, Int.reduceToNat, ↓reduceIte, reduceCtorEq]; exact rfl)) | (refine qj6 ?_ ?_ <;> intro hc <;> (try simp only [hc]) <;> (try simp only [decide_eq_true_eq, decide_eq_false_iff_not, Bool.not_eq_true', Bool.not_eq_false', Bool.not_eq_true, reduceCtorEq] at hc) <;> (try (exfalso; omega))) | (refine qk1 ?_ ?_; focus (repeat (first | exact qsub0 | (refine qsub1 ?_ ?_; focus (simp only [go_sem, ↓upd_def, ↓evT, ↓aop, ↓aopc, ↓aopd, Nat.reduceEqDiff, Nat.reduceAdd, Nat.reduceLeDiff, Nat.reduceLT, Nat.reduceSub, Int.reduceToNat, ↓reduceIte, reduceCtorEq]))))) | (refine qt7 ?_ ?_; focus decide) | (refine qw7 ?_ ?_ ?_; (focus (decide +kernel)); (focus (decide +kernel))))
  all_goals
    ((first | refine fin_ret ?_ | refine fin_end ?_); simp only [go_sem, ↓upd_def, Nat.reduceEqDiff, Nat.reduceAdd, ↓reduceIte, reduceCtorEq])
    refine K_bool hK ?_
    clear hK
    unfold partsB
    simp [*]
    try omega
theorem goo_sc : PureOk Try.prog 119 gooQ := rel_all (fun x : List PartD × Int => wtL x.1) goo_s
theorem pv_s : PureOk Try.prog 64 (parV fun x => .bool (partsB x)) := by
  refine pure_rel 1 (tab_cons cnt_sc (tab_cons goo_sc tab_nil)) mixed [.tmp 2] Try.func64 rfl rfl (by kernel_rfl) (by kernel_rfl) (fun _ => rfl) (by kernel_rfl) ?_
  rintro xs K hb hK
  unfold entry
  repeat' (first | refine qw8 ?_ | refine qw1 ?_ | refine qw6 ?_ | refine qt1 ?_ | refine qw5 ?_ | refine qw2 ?_ | refine qw9 ?_ | refine qt2 ?_ | refine qt3 ?_ | refine qt4 ?_ | refine qt5 ?_ | refine qt6 ?_ | refine qw3 ?_ | refine qw4 ?_ | refine qj1 ?_ | refine qj2 ?_ | refine qj3 ?_ | refine qj4 ?_ | refine qj5 ?_ | refine qu1 ?_ | refine qu2 ?_ | refine qne ?_ | refine qyn ?_ | refine qyz ?_ | refine qy0 ?_ | refine qnt rfl rfl ?_ | refine qnf rfl rfl ?_ | refine qyc rfl ?_ | refine qy1 rfl ?_ | refine qy2 rfl ?_ ?_ | ((first | refine qa1 fun K hk => ?_ | refine qa2 fun K hk => ?_ | refine qa3 fun K hk => ?_ | refine qh1 fun K hk => ?_ | refine qh2 fun K hk => ?_ | refine qm1 fun K hk => ?_ | refine qm2 fun K hk => ?_ | refine qm3 fun K hk => ?_); simp only [go_sem, ↓upd_def, ↓evT, ↓aop, ↓aopc, ↓aopd, Nat.reduceEqDiff, Nat.reduceAdd, Nat.reduceLeDiff, Nat.reduceLT, Nat.reduceSub, Int.reduceToNat, ↓reduceIte, reduceCtorEq]; (repeat (refine And.intro ?_ ?_; focus (first | omega | assumption | with_reducible rfl | (simp only [go_sem, ↓upd_def, ↓evT, ↓aop, ↓aopc, ↓aopd, Nat.reduceEqDiff, Nat.reduceAdd, Nat.reduceLeDiff, Nat.reduceLT, Nat.reduceSub, Int.reduceToNat, ↓reduceIte, reduceCtorEq]; done)))); intros; apply hk; clear hk K) | ((first | apply qg1 rfl | apply qcd); focus (simp only [go_sem, ↓upd_def, ↓evT, ↓aop, ↓aopc, ↓aopd, Nat.reduceEqDiff, Nat.reduceAdd, Nat.reduceLeDiff, Nat.reduceLT, Nat.reduceSub, Int.reduceToNat, ↓reduceIte, reduceCtorEq]; exact rfl)) | (refine qj6 ?_ ?_ <;> intro hc <;> (try simp only [hc]) <;> (try simp only [decide_eq_true_eq, decide_eq_false_iff_not, Bool.not_eq_true', Bool.not_eq_false', Bool.not_eq_true, reduceCtorEq] at hc) <;> (try (exfalso; omega))) | (refine qk1 ?_ ?_; focus (repeat (first | exact qsub0 | (refine qsub1 ?_ ?_; focus (simp only [go_sem, ↓upd_def, ↓evT, ↓aop, ↓aopc, ↓aopd, Nat.reduceEqDiff, Nat.reduceAdd, Nat.reduceLeDiff, Nat.reduceLT, Nat.reduceSub, Int.reduceToNat, ↓reduceIte, reduceCtorEq]))))) | (refine qt7 ?_ ?_; focus decide) | (refine qw7 ?_ ?_ ?_; (focus (decide +kernel)); (focus (decide +kernel))))
  all_goals
    ((first | refine fin_ret ?_ | refine fin_end ?_); simp only [go_sem, ↓upd_def, Nat.reduceEqDiff, Nat.reduceAdd, ↓reduceIte, reduceCtorEq])
    refine K_bool hK ?_
    clear hK
    unfold partsB
    simp [*]
    try omega
def depM (x : List PartD) : Int := if partsB x = true then (depL x : Int) else -1
end Go.Proofs.Ytcagfbgplpokkaa

/- Contracts: states behind parts, faults: what the program and the reference come to. -/
namespace Go.Proofs.Ytcagfbgplpokkaa
attribute [local irreducible] awp arun acalm FinP Fin AX.then AX.inBlock Again aG gsel amix amixN amixC aop aopc aopd cutK
attribute [local go_sem] aop aopc aopd aBSliceD aSlice aSliceC boundOf aMk evT upd_def aCall aCallC aLenL aLen aPick_t aPick_f aNil aAlloc aBox aBuild bldPV aBSlice bsPV aApp newsOf destOf drp aConvX aConv aConvInt aLoad cellsAt aStore cellsPV setAt aFld aField aIdx aIndex aUn aBin' aBin aMax aExtract pvOf PV.isCell nmbL PV.nmb List.map_cons List.map_nil List.all_cons List.all_nil Bool.and_true Bool.true_and if_true if_false List.getD_cons_zero List.getD_cons_succ List.getD_nil Option.isSome_some true_and and_true and_self eq_self true_or or_true List.drop_zero List.drop_succ_cons List.drop_nil List.take_zero List.take_succ_cons List.take_nil List.length_cons List.length_nil List.length_map Option.getD_some Option.getD_none List.nil_append List.cons_append List.append_nil Option.some.injEq exists_eq_left' List.getElem?_cons_zero List.getElem?_cons_succ Int.toNat_natCast Int.natCast_inj toNat_succ Nat.zero_add res res1 resC owns owns1 ownsC List.flatMap_cons List.flatMap_nil List.flatten_cons List.flatten_nil List.mem_cons List.not_mem_nil or_false false_or forall_eq forall_eq_or_imp isFro frz frz1 pureC tabA isBld List.cons.injEq PV.seq.injEq PV.int.injEq PV.str.injEq PV.bool.injEq PV.agg.injEq inR tab Γof aRes packR Option.map_some Option.map_none rel Prod.exists exists_and_left exists_eq_left and_assoc beq_self_eq_true Bool.not_true Bool.not_false decide_true decide_false List.set_cons_zero List.set_cons_succ rst_nil rst_cons
set_option maxRecDepth 100000
set_option linter.unusedVariables false
set_option linter.unusedSimpArgs false
open Go.RowKit

def lvS7_109 : Nat → List Nat
  | 0 => [1, 2, 4]
  | 1 => [1, 2, 4, 5]
  | 2 => [2, 4, 5, 11, 12, 13]
  | 3 => [2, 4, 5, 11, 12, 13, 14]
  | 4 => [2, 4, 5, 7, 11, 12, 13]
  | 5 => [2, 4, 5, 7, 11, 12, 13, 18]
  | 6 => [2, 4, 5, 7, 11, 12, 13, 18, 19]
  | 7 => [2, 4, 5, 11, 12, 13]
  | 8 => [2, 4, 5, 7, 11, 12, 13, 18, 25]
  | 9 => [2, 4, 5, 11, 12, 13]
  | 10 => [2, 4, 5, 7, 11, 12, 13, 18, 29]
  | 11 => [2, 4, 5, 8, 9, 11, 12, 13]
  | 12 => [2, 4, 5, 8, 11, 12, 13, 41]
  | 13 => [4]
  | 14 => [2, 4, 5, 11, 12, 13]
  | 15 => [2, 4, 5, 7, 11, 12, 13, 44]
  | 16 => [2, 4, 5, 11, 12, 13, 51]
  | 17 => [4]
  | 18 => [2, 4, 5, 11, 12, 13, 55]
  | 19 => [4]
  | 20 => [2, 4, 5, 11, 12, 13]
  | 21 => [4]
  | _ => []
--LV=S7
theorem St_eta (s : St) : (⟨s.mode, s.tag, s.attr, s.seen⟩ : St) = s := rfl
theorem eqSt (s t : St) : (decide (s.mode = t.mode) && (decide (s.tag = t.tag) && (decide (s.attr = t.attr) && s.seen == t.seen))) = decide (s = t) := by
  cases s; cases t
  simp only [St.mk.injEq]
  rw [Bool.eq_iff_iff]
  simp
theorem eqSt0 (s : St) : (decide (s.mode = 0) && (decide (s.tag = []) && (decide (s.attr = []) && s.seen == false))) = decide (s = st0) := eqSt s st0
theorem St_iff {s t : St} : (s = t) ↔ (s.mode = t.mode ∧ s.tag = t.tag ∧ s.attr = t.attr ∧ s.seen = t.seen) := by
  cases s; cases t; simp
theorem chkL_snoc' {s : St} {xs : List PartD} {k : Nat} {x : PartD} (hv : stV s = true) (h : xs[k]? = some x) : chkL s (xs.take (k + 1)) = if (chkP (chkL s (xs.take k)) x).mode = 15 then bad else chkP (chkL s (xs.take k)) x := by
  by_cases hs : s.mode = 15
  · rw [mode15 hv hs, chkL_bad, chkL_bad, chkP_bad]; rfl
  · by_cases hm : (chkL s (xs.take k)).mode = 15
    · have e := chkL_append (xs.take k) [x] s hs
      rw [if_pos hm, ← take_snoc' h] at e
      rw [e, mode15 (stV_chkL _ _ hv) hm, chkP_bad]; rfl
    · exact chkL_snoc h hs hm
theorem chkL_stop' {s : St} {xs : List PartD} {k : Nat} {x : PartD} (hv : stV s = true) (h : xs[k]? = some x) (hb : (chkP (chkL s (xs.take k)) x).mode = 15) : chkL s xs = bad := by
  rw [← chkL_split xs (k + 1) s hv, chkL_snoc' hv h, if_pos hb, chkL_bad]
theorem gd_mem {d : Nat} {x : PartD} : ∀ {xs : List PartD} {b : Bool} {k : Nat}, gdL d b xs = true → xs[k]? = some x → gdP d x = true
  | [], _, _, _, h => by simp at h
  | y :: ys, b, 0, hg, h => by
    obtain rfl : y = x := by simpa using h
    rw [gdL] at hg
    simp only [Bool.and_eq_true] at hg
    exact hg.1.1
  | y :: ys, b, k + 1, hg, h => by
    rw [gdL] at hg
    simp only [Bool.and_eq_true] at hg
    exact gd_mem hg.2 (by simpa using h)
theorem gd_kids {d : Nat} {k : Int} {t n : Bs} {ps os : List PartD} (h : gdP d (.mk k t n ps os) = true) : (k = 1 ∨ k = 2 ∨ k = 3 ∨ k = 4) ∧ (∃ d b, gdL d b ps = true) ∧ (∃ d b, gdL d b os = true) ∧ (k = 4 → os = []) := by
  rw [gdP_mk] at h
  split at h
  · rename_i e
    simp only [Bool.and_eq_true, decide_eq_true_eq] at h
    obtain ⟨⟨_, rfl⟩, rfl⟩ := h
    exact ⟨.inl e, ⟨0, false, gdL_nil _ _⟩, ⟨0, false, gdL_nil _ _⟩, fun _ => rfl⟩
  split at h
  · rename_i e
    simp only [Bool.and_eq_true, decide_eq_true_eq] at h
    obtain ⟨⟨_, rfl⟩, rfl⟩ := h
    exact ⟨.inr (.inl e), ⟨0, false, gdL_nil _ _⟩, ⟨0, false, gdL_nil _ _⟩, fun _ => rfl⟩
  split at h
  · rename_i e
    simp only [Bool.and_eq_true, decide_eq_true_eq] at h
    refine ⟨by omega, ⟨_, _, h.1.2⟩, ⟨_, _, h.2⟩, fun h4 => ?_⟩
    have := h.1.1.1.2
    simp [h4] at this
    exact this
  · cases h
@[go_sem] def chkC (n : Nat) : PC := rel (α := St × List PartD) (fun x => [.agg (encS x.1), .seq (encPs x.2)]) (fun x => wtL x.2 < n ∧ wtL x.2 ≤ 1099511627776 ∧ stV x.1 = true ∧ ∃ d b, gdL d b x.2 = true) (fun x => .agg (encS (chkL x.1 x.2)))
@[go_sem] def chkQ : PC := rel (α := St × List PartD) (fun x => [.agg (encS x.1), .seq (encPs x.2)]) (fun x => wtL x.2 ≤ 1099511627776 ∧ stV x.1 = true ∧ ∃ d b, gdL d b x.2 = true) (fun x => .agg (encS (chkL x.1 x.2)))
set_option maxHeartbeats 16000000 in
theorem chk_i : ∀ n, PureOk Try.prog 109 (chkC n) := by
  intro n
  induction n with
  | zero => exact never_rel Try.func109 (by kernel_rfl) (by kernel_rfl) (fun x h => by omega)
  | succ n ih =>
  refine pure_rel 2 (tab_cons ih (tab_cons after_i (tab_cons beh_i tab_nil))) mixed [.cell 4 47] Try.func109 rfl rfl (by kernel_rfl) (by kernel_rfl) (fun _ => rfl) (by kernel_rfl) ?_
  rintro ⟨s, xs⟩ K ⟨hn, hb, hv, d, b, hgd⟩ hK
  dsimp only at *
  clear ih
  have hlw := len_le_wtL xs
  unfold entry
  repeat' (first | (refine qwd fun K hk => ?_; simp only [lvS7_109, mkT, go_sem, ↓upd_def, ↓evT, ↓aop, ↓aopc, ↓aopd, Nat.reduceEqDiff, Nat.reduceAdd, Nat.reduceLeDiff, Nat.reduceLT, Nat.reduceSub, Int.reduceToNat, ↓reduceIte, reduceCtorEq, encS_eq, ex_St, St_eta]; apply hk; clear hk K) | refine qw8 ?_ | refine qw1 ?_ | refine qwc lvS7_109 ?_ | refine qt1 ?_ | refine qw5 ?_ | refine qw2 ?_ | refine qw9 ?_ | refine qt2 ?_ | refine qt3 ?_ | refine qt4 ?_ | refine qt5 ?_ | refine qt6 ?_ | refine qw3 ?_ | refine qw4 ?_ | refine qj1 ?_ | refine qj2 ?_ | refine qj3 ?_ | refine qj4 ?_ | refine qj5 ?_ | refine qu1 ?_ | refine qu2 ?_ | refine qne ?_ | refine qyn ?_ | refine qyz ?_ | refine qy0 ?_ | refine qnt rfl rfl ?_ | refine qnf rfl rfl ?_ | refine qyc rfl ?_ | refine qy1 rfl ?_ | refine qy2 rfl ?_ ?_ | ((first | refine qa1 fun K hk => ?_ | refine qa2 fun K hk => ?_ | refine qa3 fun K hk => ?_ | refine qh1 fun K hk => ?_ | refine qh2 fun K hk => ?_ | refine qm1 fun K hk => ?_ | refine qm2 fun K hk => ?_ | refine qm3 fun K hk => ?_); simp only [go_sem, ↓upd_def, ↓evT, ↓aop, ↓aopc, ↓aopd, Nat.reduceEqDiff, Nat.reduceAdd, Nat.reduceLeDiff, Nat.reduceLT, Nat.reduceSub, Int.reduceToNat, ↓reduceIte, reduceCtorEq, encS_eq, ex_St, St_eta]; (repeat (refine And.intro ?_ ?_; focus (first | omega | assumption | with_reducible rfl | (simp only [go_sem, ↓upd_def, ↓evT, ↓aop, ↓aopc, ↓aopd, Nat.reduceEqDiff, Nat.reduceAdd, Nat.reduceLeDiff, Nat.reduceLT, Nat.reduceSub, Int.reduceToNat, ↓reduceIte, reduceCtorEq, encS_eq, ex_St, St_eta]; done)))); intros; apply hk; clear hk K) | ((first | apply qg1 rfl | apply qcd); focus (simp only [go_sem, ↓upd_def, ↓evT, ↓aop, ↓aopc, ↓aopd, Nat.reduceEqDiff, Nat.reduceAdd, Nat.reduceLeDiff, Nat.reduceLT, Nat.reduceSub, Int.reduceToNat, ↓reduceIte, reduceCtorEq, encS_eq, ex_St, St_eta]; exact rfl)) | (refine qj6 ?_ ?_ <;> intro hc <;> (try simp only [hc]) <;> (try simp only [decide_eq_true_eq, decide_eq_false_iff_not, Bool.not_eq_true', Bool.not_eq_false', Bool.not_eq_true, reduceCtorEq] at hc) <;> (try (exfalso; omega))) | (refine qk1 ?_ ?_; focus (repeat (first | exact qsub0 | (refine qsub1 ?_ ?_; focus (simp only [go_sem, ↓upd_def, ↓evT, ↓aop, ↓aopc, ↓aopd, Nat.reduceEqDiff, Nat.reduceAdd, Nat.reduceLeDiff, Nat.reduceLT, Nat.reduceSub, Int.reduceToNat, ↓reduceIte, reduceCtorEq, encS_eq, ex_St, St_eta]))))) | (refine qt7 ?_ ?_; focus decide) | (refine qw7 ?_ ?_ ?_; (focus (decide +kernel)); (focus (decide +kernel))))
  refine s_loop (ι := Nat) (fun k => [(2, .ref 0 0), (4, .ref 1 0), (5, .ref 2 0), (11, .seq (encPs xs)), (12, .int .i64 xs.length), (13, .int .i64 k)]) (fun k => [(0, .box (encS (chkL s (xs.take k)))), (1, .box (encS st0)), (2, .box (encS bad))]) 3 (fun k => k ≤ xs.length) (fun k => xs.length - k) 0 (by omega) (by omega) ?_ ?_
  · simp [fits, fitsT, fitsM, upd_def, PV.nmb, nmbL, MB.nmb, List.getD_cons_zero, List.getD_cons_succ, chkL_nil, encS, st0, bad]
  intro k hk
  have hvk := stV_chkL (xs.take k) s hv
  simp only [mkS, mkT, mkM]
  repeat' (first | (refine qwd fun K hk => ?_; simp only [lvS7_109, mkT, go_sem, ↓upd_def, ↓evT, ↓aop, ↓aopc, ↓aopd, Nat.reduceEqDiff, Nat.reduceAdd, Nat.reduceLeDiff, Nat.reduceLT, Nat.reduceSub, Int.reduceToNat, ↓reduceIte, reduceCtorEq, encS_eq, ex_St, St_eta]; apply hk; clear hk K) | refine qw8 ?_ | refine qw1 ?_ | refine qwc lvS7_109 ?_ | refine qt1 ?_ | refine qw5 ?_ | refine qw2 ?_ | refine qw9 ?_ | refine qt2 ?_ | refine qt3 ?_ | refine qt4 ?_ | refine qt5 ?_ | refine qt6 ?_ | refine qw3 ?_ | refine qw4 ?_ | refine qj1 ?_ | refine qj2 ?_ | refine qj3 ?_ | refine qj4 ?_ | refine qj5 ?_ | refine qu1 ?_ | refine qu2 ?_ | refine qne ?_ | refine qyn ?_ | refine qyz ?_ | refine qy0 ?_ | refine qnt rfl rfl ?_ | refine qnf rfl rfl ?_ | refine qyc rfl ?_ | refine qy1 rfl ?_ | refine qy2 rfl ?_ ?_ | ((first | refine qa1 fun K hk => ?_ | refine qa2 fun K hk => ?_ | refine qa3 fun K hk => ?_ | refine qh1 fun K hk => ?_ | refine qh2 fun K hk => ?_ | refine qm1 fun K hk => ?_ | refine qm2 fun K hk => ?_ | refine qm3 fun K hk => ?_); simp only [go_sem, ↓upd_def, ↓evT, ↓aop, ↓aopc, ↓aopd, Nat.reduceEqDiff, Nat.reduceAdd, Nat.reduceLeDiff, Nat.reduceLT, Nat.reduceSub, Int.reduceToNat, ↓reduceIte, reduceCtorEq, encS_eq, ex_St, St_eta]; (repeat (refine And.intro ?_ ?_; focus (first | omega | assumption | with_reducible rfl | (simp only [go_sem, ↓upd_def, ↓evT, ↓aop, ↓aopc, ↓aopd, Nat.reduceEqDiff, Nat.reduceAdd, Nat.reduceLeDiff, Nat.reduceLT, Nat.reduceSub, Int.reduceToNat, ↓reduceIte, reduceCtorEq, encS_eq, ex_St, St_eta]; done)))); intros; apply hk; clear hk K) | ((first | apply qg1 rfl | apply qcd); focus (simp only [go_sem, ↓upd_def, ↓evT, ↓aop, ↓aopc, ↓aopd, Nat.reduceEqDiff, Nat.reduceAdd, Nat.reduceLeDiff, Nat.reduceLT, Nat.reduceSub, Int.reduceToNat, ↓reduceIte, reduceCtorEq, encS_eq, ex_St, St_eta]; exact rfl)) | (refine qj6 ?_ ?_ <;> intro hc <;> (try simp only [hc]) <;> (try simp only [decide_eq_true_eq, decide_eq_false_iff_not, Bool.not_eq_true', Bool.not_eq_false', Bool.not_eq_true, reduceCtorEq] at hc) <;> (try (exfalso; omega))) | (refine qk1 ?_ ?_; focus (repeat (first | exact qsub0 | (refine qsub1 ?_ ?_; focus (simp only [go_sem, ↓upd_def, ↓evT, ↓aop, ↓aopc, ↓aopd, Nat.reduceEqDiff, Nat.reduceAdd, Nat.reduceLeDiff, Nat.reduceLT, Nat.reduceSub, Int.reduceToNat, ↓reduceIte, reduceCtorEq, encS_eq, ex_St, St_eta]))))) | (refine qt7 ?_ ?_; focus decide) | (refine qw7 ?_ ?_ ?_; (focus (decide +kernel)); (focus (decide +kernel))))
  · obtain ⟨⟨kd, t, nm, ps, os⟩, hx⟩ := get_some (xs := xs) (k := k) (by omega)
    have htk := take_snoc' hx
    have ws := wtL_split hx
    rw [wtP_mk] at ws
    have hget := encPs_get xs
    obtain ⟨hkd, hgp, hgo, hg4⟩ := gd_kids (gd_mem hgd hx)
    have hsn := chkL_snoc' hv hx
    have hst := chkL_stop' hv hx
    rw [chkP_mk] at hsn hst
    have ho := okS_of hvk
    have hlp := len_le_wtL ps
    have hlo := len_le_wtL os
    generalize hcur : chkL s (xs.take k) = cur at *
    repeat' (first | (refine qwd fun K hk => ?_; simp only [lvS7_109, mkT, go_sem, ↓upd_def, ↓evT, ↓aop, ↓aopc, ↓aopd, Nat.reduceEqDiff, Nat.reduceAdd, Nat.reduceLeDiff, Nat.reduceLT, Nat.reduceSub, Int.reduceToNat, ↓reduceIte, reduceCtorEq, hget, hx, encP_mk, encS_eq, ex_St, St_eta, eqSt]; apply hk; clear hk K) | refine qw8 ?_ | refine qw1 ?_ | refine qwc lvS7_109 ?_ | refine qt1 ?_ | refine qw5 ?_ | refine qw2 ?_ | refine qw9 ?_ | refine qt2 ?_ | refine qt3 ?_ | refine qt4 ?_ | refine qt5 ?_ | refine qt6 ?_ | refine qw3 ?_ | refine qw4 ?_ | refine qj1 ?_ | refine qj2 ?_ | refine qj3 ?_ | refine qj4 ?_ | refine qj5 ?_ | refine qu1 ?_ | refine qu2 ?_ | refine qne ?_ | refine qyn ?_ | refine qyz ?_ | refine qy0 ?_ | refine qnt rfl rfl ?_ | refine qnf rfl rfl ?_ | refine qyc rfl ?_ | refine qy1 rfl ?_ | refine qy2 rfl ?_ ?_ | ((first | refine qa1 fun K hk => ?_ | refine qa2 fun K hk => ?_ | refine qa3 fun K hk => ?_ | refine qh1 fun K hk => ?_ | refine qh2 fun K hk => ?_ | refine qm1 fun K hk => ?_ | refine qm2 fun K hk => ?_ | refine qm3 fun K hk => ?_); simp only [go_sem, ↓upd_def, ↓evT, ↓aop, ↓aopc, ↓aopd, Nat.reduceEqDiff, Nat.reduceAdd, Nat.reduceLeDiff, Nat.reduceLT, Nat.reduceSub, Int.reduceToNat, ↓reduceIte, reduceCtorEq, hget, hx, encP_mk, encS_eq, ex_St, St_eta, eqSt]; (repeat (refine And.intro ?_ ?_; focus (first | omega | assumption | with_reducible rfl | (simp only [go_sem, ↓upd_def, ↓evT, ↓aop, ↓aopc, ↓aopd, Nat.reduceEqDiff, Nat.reduceAdd, Nat.reduceLeDiff, Nat.reduceLT, Nat.reduceSub, Int.reduceToNat, ↓reduceIte, reduceCtorEq, hget, hx, encP_mk, encS_eq, ex_St, St_eta, eqSt]; done)))); intros; apply hk; clear hk K) | ((first | apply qg1 rfl | apply qcd); focus (simp only [go_sem, ↓upd_def, ↓evT, ↓aop, ↓aopc, ↓aopd, Nat.reduceEqDiff, Nat.reduceAdd, Nat.reduceLeDiff, Nat.reduceLT, Nat.reduceSub, Int.reduceToNat, ↓reduceIte, reduceCtorEq, hget, hx, encP_mk, encS_eq, ex_St, St_eta, eqSt]; exact rfl)) | (refine qj6 ?_ ?_ <;> intro hc <;> (try simp only [hc]) <;> (try simp only [decide_eq_true_eq, decide_eq_false_iff_not, Bool.not_eq_true', Bool.not_eq_false', Bool.not_eq_true, reduceCtorEq] at hc) <;> (try (exfalso; omega))) | (refine qk1 ?_ ?_; focus (repeat (first | exact qsub0 | (refine qsub1 ?_ ?_; focus (simp only [go_sem, ↓upd_def, ↓evT, ↓aop, ↓aopc, ↓aopd, Nat.reduceEqDiff, Nat.reduceAdd, Nat.reduceLeDiff, Nat.reduceLT, Nat.reduceSub, Int.reduceToNat, ↓reduceIte, reduceCtorEq, hget, hx, encP_mk, encS_eq, ex_St, St_eta, eqSt]))))) | (refine qt7 ?_ ?_; focus decide) | (refine qw7 ?_ ?_ ?_; (focus (decide +kernel)); (focus (decide +kernel))))
    all_goals (try (refine qw11 [0, 3] [0, 1, 2, 3, 4, 5, 6, 7] (.mk [0, 1, 2, 3, 4, 5, 6, 7] (.cons 8 (.mk [] (.cons 9 (.mk [] (.cons 10 (.mk [] (.cons 11 (.mk [] .nil) .nil)) .nil)) .nil)) (.cons 9 (.mk [] (.cons 8 (.mk [] (.cons 10 (.mk [] (.cons 11 (.mk [] .nil) .nil)) .nil)) .nil)) .nil))) ?_ ?_; focus (decide +kernel)))
    all_goals repeat' (first | refine qm0 ?_ | (first | (refine qwd fun K hk => ?_; simp only [lvS7_109, mkT, go_sem, ↓upd_def, ↓evT, ↓aop, ↓aopc, ↓aopd, Nat.reduceEqDiff, Nat.reduceAdd, Nat.reduceLeDiff, Nat.reduceLT, Nat.reduceSub, Int.reduceToNat, ↓reduceIte, reduceCtorEq, encS_eq, ex_St, St_eta, eqSt]; apply hk; clear hk K) | refine qw8 ?_ | refine qw1 ?_ | refine qwc lvS7_109 ?_ | refine qt1 ?_ | refine qw5 ?_ | refine qw2 ?_ | refine qw9 ?_ | refine qt2 ?_ | refine qt3 ?_ | refine qt4 ?_ | refine qt5 ?_ | refine qt6 ?_ | refine qw3 ?_ | refine qw4 ?_ | refine qj1 ?_ | refine qj2 ?_ | refine qj3 ?_ | refine qj4 ?_ | refine qj5 ?_ | refine qu1 ?_ | refine qu2 ?_ | refine qne ?_ | refine qyn ?_ | refine qyz ?_ | refine qy0 ?_ | refine qnt rfl rfl ?_ | refine qnf rfl rfl ?_ | refine qyc rfl ?_ | refine qy1 rfl ?_ | refine qy2 rfl ?_ ?_ | ((first | refine qa1 fun K hk => ?_ | refine qa2 fun K hk => ?_ | refine qa3 fun K hk => ?_ | refine qh1 fun K hk => ?_ | refine qh2 fun K hk => ?_ | refine qm1 fun K hk => ?_ | refine qm2 fun K hk => ?_ | refine qm3 fun K hk => ?_); simp only [go_sem, ↓upd_def, ↓evT, ↓aop, ↓aopc, ↓aopd, Nat.reduceEqDiff, Nat.reduceAdd, Nat.reduceLeDiff, Nat.reduceLT, Nat.reduceSub, Int.reduceToNat, ↓reduceIte, reduceCtorEq, encS_eq, ex_St, St_eta, eqSt]; (repeat (refine And.intro ?_ ?_; focus (first | omega | assumption | with_reducible rfl | (simp only [go_sem, ↓upd_def, ↓evT, ↓aop, ↓aopc, ↓aopd, Nat.reduceEqDiff, Nat.reduceAdd, Nat.reduceLeDiff, Nat.reduceLT, Nat.reduceSub, Int.reduceToNat, ↓reduceIte, reduceCtorEq, encS_eq, ex_St, St_eta, eqSt]; done)))); intros; apply hk; clear hk K) | ((first | apply qg1 rfl | apply qcd); focus (simp only [go_sem, ↓upd_def, ↓evT, ↓aop, ↓aopc, ↓aopd, Nat.reduceEqDiff, Nat.reduceAdd, Nat.reduceLeDiff, Nat.reduceLT, Nat.reduceSub, Int.reduceToNat, ↓reduceIte, reduceCtorEq, encS_eq, ex_St, St_eta, eqSt]; exact rfl)) | (refine qj6 ?_ ?_ <;> intro hc <;> (try simp only [hc]) <;> (try simp only [decide_eq_true_eq, decide_eq_false_iff_not, Bool.not_eq_true', Bool.not_eq_false', Bool.not_eq_true, reduceCtorEq] at hc) <;> (try (exfalso; omega))) | (refine qk1 ?_ ?_; focus (repeat (first | exact qsub0 | (refine qsub1 ?_ ?_; focus (simp only [go_sem, ↓upd_def, ↓evT, ↓aop, ↓aopc, ↓aopd, Nat.reduceEqDiff, Nat.reduceAdd, Nat.reduceLeDiff, Nat.reduceLT, Nat.reduceSub, Int.reduceToNat, ↓reduceIte, reduceCtorEq, encS_eq, ex_St, St_eta, eqSt]))))) | (refine qt7 ?_ ?_; focus decide) | (refine qw7 ?_ ?_ ?_; (focus (decide +kernel)); (focus (decide +kernel)))))
    all_goals first
      | (((first | refine fin_ret ?_ | refine fin_end ?_); simp only [go_sem, ↓upd_def, Nat.reduceEqDiff, Nat.reduceAdd, ↓reduceIte, reduceCtorEq])
         refine ⟨by omega, K_eq hK ?_⟩
         clear hK
         rw [hst]
         · rfl
         · first
             | (rw [if_pos (by omega)]; assumption)
             | (rw [if_neg (by omega), if_pos (by omega)]; assumption)
             | (rw [if_neg (by omega), if_neg (by omega), if_neg (by omega), if_neg (show ¬ chkL cur ps = chkL cur os by assumption)]; rfl)
             | (rw [if_neg (by omega), if_neg (by omega), if_neg (by omega), if_pos (show chkL cur ps = chkL cur os by assumption)]; assumption)
             | (rw [if_neg (by omega), if_neg (by omega), if_pos (by omega), if_neg (show ¬ chkL cur ps = cur by assumption)]; rfl)
             | (rw [if_neg (by omega), if_neg (by omega), if_pos (by omega), if_pos (show chkL cur ps = cur by assumption)]; assumption))
      | (refine s_again (k + 1) ?_ ?_ ?_ <;> (first | omega | (dsimp only; omega) | skip)
         have hS := hsn
         first
           | rw [if_pos (show kd = 1 by omega), if_neg (show ¬ (afterS cur t).mode = 15 by assumption)] at hS
           | rw [if_neg (show ¬ kd = 1 by omega), if_pos (show kd = 2 by omega), if_neg (show ¬ (behindM cur).mode = 15 by assumption)] at hS
           | rw [if_neg (show ¬ kd = 1 by omega), if_neg (show ¬ kd = 2 by omega), if_neg (show ¬ kd = 4 by omega), if_pos (show chkL cur ps = chkL cur os by assumption), if_neg (show ¬ (chkL cur ps).mode = 15 by assumption)] at hS
           | rw [if_neg (show ¬ kd = 1 by omega), if_neg (show ¬ kd = 2 by omega), if_pos (show kd = 4 by omega), if_pos (show chkL cur ps = cur by assumption), if_neg (show ¬ cur.mode = 15 by assumption)] at hS
         simp [fits, fitsT, fitsM, upd_def, PV.nmb, nmbL, MB.nmb, List.getD_cons_zero, List.getD_cons_succ, hS, encS, st0, bad])
      | skip
  · obtain rfl : k = xs.length := by omega
    rw [List.take_length] at *
    ((first | refine fin_ret ?_ | refine fin_end ?_); simp only [go_sem, ↓upd_def, Nat.reduceEqDiff, Nat.reduceAdd, ↓reduceIte, reduceCtorEq])
    exact ⟨by omega, hK⟩
end Go.Proofs.Ytcagfbgplpokkaa

/- Contracts: states behind parts, the reference. -/
namespace Go.Proofs.Ytcagfbgplpokkaa
attribute [local irreducible] awp arun acalm FinP Fin AX.then AX.inBlock Again aG gsel amix amixN amixC aop aopc aopd cutK
attribute [local go_sem] aop aopc aopd aBSliceD aSlice aSliceC boundOf aMk evT upd_def aCall aCallC aLenL aLen aPick_t aPick_f aNil aAlloc aBox aBuild bldPV aBSlice bsPV aApp newsOf destOf drp aConvX aConv aConvInt aLoad cellsAt aStore cellsPV setAt aFld aField aIdx aIndex aUn aBin' aBin aMax aExtract pvOf PV.isCell nmbL PV.nmb List.map_cons List.map_nil List.all_cons List.all_nil Bool.and_true Bool.true_and if_true if_false List.getD_cons_zero List.getD_cons_succ List.getD_nil Option.isSome_some true_and and_true and_self eq_self true_or or_true List.drop_zero List.drop_succ_cons List.drop_nil List.take_zero List.take_succ_cons List.take_nil List.length_cons List.length_nil List.length_map Option.getD_some Option.getD_none List.nil_append List.cons_append List.append_nil Option.some.injEq exists_eq_left' List.getElem?_cons_zero List.getElem?_cons_succ Int.toNat_natCast Int.natCast_inj toNat_succ Nat.zero_add res res1 resC owns owns1 ownsC List.flatMap_cons List.flatMap_nil List.flatten_cons List.flatten_nil List.mem_cons List.not_mem_nil or_false false_or forall_eq forall_eq_or_imp isFro frz frz1 pureC tabA isBld List.cons.injEq PV.seq.injEq PV.int.injEq PV.str.injEq PV.bool.injEq PV.agg.injEq inR tab Γof aRes packR Option.map_some Option.map_none rel Prod.exists exists_and_left exists_eq_left and_assoc beq_self_eq_true Bool.not_true Bool.not_false decide_true decide_false List.set_cons_zero List.set_cons_succ rst_nil rst_cons
set_option maxRecDepth 100000
set_option linter.unusedVariables false
set_option linter.unusedSimpArgs false
open Go.RowKit

def lvS8_112 : Nat → List Nat
  | 0 => [1, 2, 4]
  | 1 => [1, 2, 4, 5]
  | 2 => [1, 2, 4, 5, 6]
  | 3 => [1, 2, 4, 5, 6, 13]
  | 4 => [1, 2, 4, 5, 6]
  | 5 => [1, 2, 4, 5, 6, 7]
  | 6 => [1, 2, 4, 5, 6, 7, 21]
  | 7 => [1, 2, 4, 5, 6, 7, 8]
  | 8 => [1, 2, 4, 5, 6, 8, 31]
  | 9 => [4]
  | 10 => [1, 2, 4, 5, 6]
  | 11 => [1, 2, 4, 5, 6, 7, 21, 34]
  | 12 => [1, 2, 4, 5, 6]
  | 13 => [1, 2, 4, 5, 6, 7, 21, 40]
  | 14 => [1, 2, 4, 5, 6]
  | 15 => [1, 2, 4, 5, 6, 7, 44]
  | 16 => [1, 2, 4, 5, 6, 51]
  | 17 => [4]
  | 18 => [1, 2, 4, 5, 6, 55]
  | 19 => [4]
  | 20 => [4]
  | _ => []
--LV=S8
set_option maxHeartbeats 16000000 in
theorem chk_s : ∀ n, PureOk Try.prog 112 (chkC n) := by
  intro n
  induction n with
  | zero => exact never_rel Try.func112 (by kernel_rfl) (by kernel_rfl) (fun x h => by omega)
  | succ n ih =>
  refine pure_rel 2 (tab_cons ih (tab_cons after_s (tab_cons beh_s tab_nil))) mixed [.cell 4 47] Try.func112 rfl rfl (by kernel_rfl) (by kernel_rfl) (fun _ => rfl) (by kernel_rfl) ?_
  rintro ⟨s, xs⟩ K ⟨hn, hb, hv, d, b, hgd⟩ hK
  dsimp only at *
  clear ih
  have hlw := len_le_wtL xs
  unfold entry
  repeat' (first | (refine qwd fun K hk => ?_; simp only [lvS8_112, mkT, go_sem, ↓upd_def, ↓evT, ↓aop, ↓aopc, ↓aopd, Nat.reduceEqDiff, Nat.reduceAdd, Nat.reduceLeDiff, Nat.reduceLT, Nat.reduceSub, Int.reduceToNat, ↓reduceIte, reduceCtorEq, encS_eq, ex_St, St_eta]; apply hk; clear hk K) | refine qw8 ?_ | refine qw1 ?_ | refine qwc lvS8_112 ?_ | refine qt1 ?_ | refine qw5 ?_ | refine qw2 ?_ | refine qw9 ?_ | refine qt2 ?_ | refine qt3 ?_ | refine qt4 ?_ | refine qt5 ?_ | refine qt6 ?_ | refine qw3 ?_ | refine qw4 ?_ | refine qj1 ?_ | refine qj2 ?_ | refine qj3 ?_ | refine qj4 ?_ | refine qj5 ?_ | refine qu1 ?_ | refine qu2 ?_ | refine qne ?_ | refine qyn ?_ | refine qyz ?_ | refine qy0 ?_ | refine qnt rfl rfl ?_ | refine qnf rfl rfl ?_ | refine qyc rfl ?_ | refine qy1 rfl ?_ | refine qy2 rfl ?_ ?_ | ((first | refine qa1 fun K hk => ?_ | refine qa2 fun K hk => ?_ | refine qa3 fun K hk => ?_ | refine qh1 fun K hk => ?_ | refine qh2 fun K hk => ?_ | refine qm1 fun K hk => ?_ | refine qm2 fun K hk => ?_ | refine qm3 fun K hk => ?_); simp only [go_sem, ↓upd_def, ↓evT, ↓aop, ↓aopc, ↓aopd, Nat.reduceEqDiff, Nat.reduceAdd, Nat.reduceLeDiff, Nat.reduceLT, Nat.reduceSub, Int.reduceToNat, ↓reduceIte, reduceCtorEq, encS_eq, ex_St, St_eta]; (repeat (refine And.intro ?_ ?_; focus (first | omega | assumption | with_reducible rfl | (simp only [go_sem, ↓upd_def, ↓evT, ↓aop, ↓aopc, ↓aopd, Nat.reduceEqDiff, Nat.reduceAdd, Nat.reduceLeDiff, Nat.reduceLT, Nat.reduceSub, Int.reduceToNat, ↓reduceIte, reduceCtorEq, encS_eq, ex_St, St_eta]; done)))); intros; apply hk; clear hk K) | ((first | apply qg1 rfl | apply qcd); focus (simp only [go_sem, ↓upd_def, ↓evT, ↓aop, ↓aopc, ↓aopd, Nat.reduceEqDiff, Nat.reduceAdd, Nat.reduceLeDiff, Nat.reduceLT, Nat.reduceSub, Int.reduceToNat, ↓reduceIte, reduceCtorEq, encS_eq, ex_St, St_eta]; exact rfl)) | (refine qj6 ?_ ?_ <;> intro hc <;> (try simp only [hc]) <;> (try simp only [decide_eq_true_eq, decide_eq_false_iff_not, Bool.not_eq_true', Bool.not_eq_false', Bool.not_eq_true, reduceCtorEq] at hc) <;> (try (exfalso; omega))) | (refine qk1 ?_ ?_; focus (repeat (first | exact qsub0 | (refine qsub1 ?_ ?_; focus (simp only [go_sem, ↓upd_def, ↓evT, ↓aop, ↓aopc, ↓aopd, Nat.reduceEqDiff, Nat.reduceAdd, Nat.reduceLeDiff, Nat.reduceLT, Nat.reduceSub, Int.reduceToNat, ↓reduceIte, reduceCtorEq, encS_eq, ex_St, St_eta]))))) | (refine qt7 ?_ ?_; focus decide) | (refine qw7 ?_ ?_ ?_; (focus (decide +kernel)); (focus (decide +kernel))))
  refine s_loop (ι := Nat) (fun k => [(1, .seq (encPs xs)), (2, .ref 0 0), (4, .ref 1 0), (5, .ref 2 0), (6, .int .i64 k)]) (fun k => [(0, .box (encS (chkL s (xs.take k)))), (1, .box (encS st0)), (2, .box (encS bad))]) 3 (fun k => k ≤ xs.length) (fun k => xs.length - k) 0 (by omega) (by omega) ?_ ?_
  · simp [fits, fitsT, fitsM, upd_def, PV.nmb, nmbL, MB.nmb, List.getD_cons_zero, List.getD_cons_succ, chkL_nil, encS, st0, bad]
  intro k hk
  have hvk := stV_chkL (xs.take k) s hv
  simp only [mkS, mkT, mkM]
  repeat' (first | (refine qwd fun K hk => ?_; simp only [lvS8_112, mkT, go_sem, ↓upd_def, ↓evT, ↓aop, ↓aopc, ↓aopd, Nat.reduceEqDiff, Nat.reduceAdd, Nat.reduceLeDiff, Nat.reduceLT, Nat.reduceSub, Int.reduceToNat, ↓reduceIte, reduceCtorEq, encS_eq, ex_St, St_eta]; apply hk; clear hk K) | refine qw8 ?_ | refine qw1 ?_ | refine qwc lvS8_112 ?_ | refine qt1 ?_ | refine qw5 ?_ | refine qw2 ?_ | refine qw9 ?_ | refine qt2 ?_ | refine qt3 ?_ | refine qt4 ?_ | refine qt5 ?_ | refine qt6 ?_ | refine qw3 ?_ | refine qw4 ?_ | refine qj1 ?_ | refine qj2 ?_ | refine qj3 ?_ | refine qj4 ?_ | refine qj5 ?_ | refine qu1 ?_ | refine qu2 ?_ | refine qne ?_ | refine qyn ?_ | refine qyz ?_ | refine qy0 ?_ | refine qnt rfl rfl ?_ | refine qnf rfl rfl ?_ | refine qyc rfl ?_ | refine qy1 rfl ?_ | refine qy2 rfl ?_ ?_ | ((first | refine qa1 fun K hk => ?_ | refine qa2 fun K hk => ?_ | refine qa3 fun K hk => ?_ | refine qh1 fun K hk => ?_ | refine qh2 fun K hk => ?_ | refine qm1 fun K hk => ?_ | refine qm2 fun K hk => ?_ | refine qm3 fun K hk => ?_); simp only [go_sem, ↓upd_def, ↓evT, ↓aop, ↓aopc, ↓aopd, Nat.reduceEqDiff, Nat.reduceAdd, Nat.reduceLeDiff, Nat.reduceLT, Nat.reduceSub, Int.reduceToNat, ↓reduceIte, reduceCtorEq, encS_eq, ex_St, St_eta]; (repeat (refine And.intro ?_ ?_; focus (first | omega | assumption | with_reducible rfl | (simp only [go_sem, ↓upd_def, ↓evT, ↓aop, ↓aopc, ↓aopd, Nat.reduceEqDiff, Nat.reduceAdd, Nat.reduceLeDiff, Nat.reduceLT, Nat.reduceSub, Int.reduceToNat, ↓reduceIte, reduceCtorEq, encS_eq, ex_St, St_eta]; done)))); intros; apply hk; clear hk K) | ((first | apply qg1 rfl | apply qcd); focus (simp only [go_sem, ↓upd_def, ↓evT, ↓aop, ↓aopc, ↓aopd, Nat.reduceEqDiff, Nat.reduceAdd, Nat.reduceLeDiff, Nat.reduceLT, Nat.reduceSub, Int.reduceToNat, ↓reduceIte, reduceCtorEq, encS_eq, ex_St, St_eta]; exact rfl)) | (refine qj6 ?_ ?_ <;> intro hc <;> (try simp only [hc]) <;> (try simp only [decide_eq_true_eq, decide_eq_false_iff_not, Bool.not_eq_true', Bool.not_eq_false', Bool.not_eq_true, reduceCtorEq] at hc) <;> (try (exfalso; omega))) | (refine qk1 ?_ ?_; focus (repeat (first | exact qsub0 | (refine qsub1 ?_ ?_; focus (simp only [go_sem, ↓upd_def, ↓evT, ↓aop, ↓aopc, ↓aopd, Nat.reduceEqDiff, Nat.reduceAdd, Nat.reduceLeDiff, Nat.reduceLT, Nat.reduceSub, Int.reduceToNat, ↓reduceIte, reduceCtorEq, encS_eq, ex_St, St_eta]))))) | (refine qt7 ?_ ?_; focus decide) | (refine qw7 ?_ ?_ ?_; (focus (decide +kernel)); (focus (decide +kernel))))
  · obtain ⟨⟨kd, t, nm, ps, os⟩, hx⟩ := get_some (xs := xs) (k := k) (by omega)
    have htk := take_snoc' hx
    have ws := wtL_split hx
    rw [wtP_mk] at ws
    have hget := encPs_get xs
    obtain ⟨hkd, hgp, hgo, hg4⟩ := gd_kids (gd_mem hgd hx)
    have hsn := chkL_snoc' hv hx
    have hst := chkL_stop' hv hx
    rw [chkP_mk] at hsn hst
    have ho := okS_of hvk
    have hlp := len_le_wtL ps
    have hlo := len_le_wtL os
    generalize hcur : chkL s (xs.take k) = cur at *
    repeat' (first | (refine qwd fun K hk => ?_; simp only [lvS8_112, mkT, go_sem, ↓upd_def, ↓evT, ↓aop, ↓aopc, ↓aopd, Nat.reduceEqDiff, Nat.reduceAdd, Nat.reduceLeDiff, Nat.reduceLT, Nat.reduceSub, Int.reduceToNat, ↓reduceIte, reduceCtorEq, hget, hx, encP_mk, encS_eq, ex_St, St_eta, eqSt]; apply hk; clear hk K) | refine qw8 ?_ | refine qw1 ?_ | refine qwc lvS8_112 ?_ | refine qt1 ?_ | refine qw5 ?_ | refine qw2 ?_ | refine qw9 ?_ | refine qt2 ?_ | refine qt3 ?_ | refine qt4 ?_ | refine qt5 ?_ | refine qt6 ?_ | refine qw3 ?_ | refine qw4 ?_ | refine qj1 ?_ | refine qj2 ?_ | refine qj3 ?_ | refine qj4 ?_ | refine qj5 ?_ | refine qu1 ?_ | refine qu2 ?_ | refine qne ?_ | refine qyn ?_ | refine qyz ?_ | refine qy0 ?_ | refine qnt rfl rfl ?_ | refine qnf rfl rfl ?_ | refine qyc rfl ?_ | refine qy1 rfl ?_ | refine qy2 rfl ?_ ?_ | ((first | refine qa1 fun K hk => ?_ | refine qa2 fun K hk => ?_ | refine qa3 fun K hk => ?_ | refine qh1 fun K hk => ?_ | refine qh2 fun K hk => ?_ | refine qm1 fun K hk => ?_ | refine qm2 fun K hk => ?_ | refine qm3 fun K hk => ?_); simp only [go_sem, ↓upd_def, ↓evT, ↓aop, ↓aopc, ↓aopd, Nat.reduceEqDiff, Nat.reduceAdd, Nat.reduceLeDiff, Nat.reduceLT, Nat.reduceSub, Int.reduceToNat, ↓reduceIte, reduceCtorEq, hget, hx, encP_mk, encS_eq, ex_St, St_eta, eqSt]; (repeat (refine And.intro ?_ ?_; focus (first | omega | assumption | with_reducible rfl | (simp only [go_sem, ↓upd_def, ↓evT, ↓aop, ↓aopc, ↓aopd, Nat.reduceEqDiff, Nat.reduceAdd, Nat.reduceLeDiff, Nat.reduceLT, Nat.reduceSub, Int.reduceToNat, ↓reduceIte, reduceCtorEq, hget, hx, encP_mk, encS_eq, ex_St, St_eta, eqSt]; done)))); intros; apply hk; clear hk K) | ((first | apply qg1 rfl | apply qcd); focus (simp only [go_sem, ↓upd_def, ↓evT, ↓aop, ↓aopc, ↓aopd, Nat.reduceEqDiff, Nat.reduceAdd, Nat.reduceLeDiff, Nat.reduceLT, Nat.reduceSub, Int.reduceToNat, ↓reduceIte, reduceCtorEq, hget, hx, encP_mk, encS_eq, ex_St, St_eta, eqSt]; exact rfl)) | (refine qj6 ?_ ?_ <;> intro hc <;> (try simp only [hc]) <;> (try simp only [decide_eq_true_eq, decide_eq_false_iff_not, Bool.not_eq_true', Bool.not_eq_false', Bool.not_eq_true, reduceCtorEq] at hc) <;> (try (exfalso; omega))) | (refine qk1 ?_ ?_; focus (repeat (first | exact qsub0 | (refine qsub1 ?_ ?_; focus (simp only [go_sem, ↓upd_def, ↓evT, ↓aop, ↓aopc, ↓aopd, Nat.reduceEqDiff, Nat.reduceAdd, Nat.reduceLeDiff, Nat.reduceLT, Nat.reduceSub, Int.reduceToNat, ↓reduceIte, reduceCtorEq, hget, hx, encP_mk, encS_eq, ex_St, St_eta, eqSt]))))) | (refine qt7 ?_ ?_; focus decide) | (refine qw7 ?_ ?_ ?_; (focus (decide +kernel)); (focus (decide +kernel))))
    all_goals repeat' (first | refine qm0 ?_ | (first | (refine qwd fun K hk => ?_; simp only [lvS8_112, mkT, go_sem, ↓upd_def, ↓evT, ↓aop, ↓aopc, ↓aopd, Nat.reduceEqDiff, Nat.reduceAdd, Nat.reduceLeDiff, Nat.reduceLT, Nat.reduceSub, Int.reduceToNat, ↓reduceIte, reduceCtorEq, encS_eq, ex_St, St_eta, eqSt]; apply hk; clear hk K) | refine qw8 ?_ | refine qw1 ?_ | refine qwc lvS8_112 ?_ | refine qt1 ?_ | refine qw5 ?_ | refine qw2 ?_ | refine qw9 ?_ | refine qt2 ?_ | refine qt3 ?_ | refine qt4 ?_ | refine qt5 ?_ | refine qt6 ?_ | refine qw3 ?_ | refine qw4 ?_ | refine qj1 ?_ | refine qj2 ?_ | refine qj3 ?_ | refine qj4 ?_ | refine qj5 ?_ | refine qu1 ?_ | refine qu2 ?_ | refine qne ?_ | refine qyn ?_ | refine qyz ?_ | refine qy0 ?_ | refine qnt rfl rfl ?_ | refine qnf rfl rfl ?_ | refine qyc rfl ?_ | refine qy1 rfl ?_ | refine qy2 rfl ?_ ?_ | ((first | refine qa1 fun K hk => ?_ | refine qa2 fun K hk => ?_ | refine qa3 fun K hk => ?_ | refine qh1 fun K hk => ?_ | refine qh2 fun K hk => ?_ | refine qm1 fun K hk => ?_ | refine qm2 fun K hk => ?_ | refine qm3 fun K hk => ?_); simp only [go_sem, ↓upd_def, ↓evT, ↓aop, ↓aopc, ↓aopd, Nat.reduceEqDiff, Nat.reduceAdd, Nat.reduceLeDiff, Nat.reduceLT, Nat.reduceSub, Int.reduceToNat, ↓reduceIte, reduceCtorEq, encS_eq, ex_St, St_eta, eqSt]; (repeat (refine And.intro ?_ ?_; focus (first | omega | assumption | with_reducible rfl | (simp only [go_sem, ↓upd_def, ↓evT, ↓aop, ↓aopc, ↓aopd, Nat.reduceEqDiff, Nat.reduceAdd, Nat.reduceLeDiff, Nat.reduceLT, Nat.reduceSub, Int.reduceToNat, ↓reduceIte, reduceCtorEq, encS_eq, ex_St, St_eta, eqSt]; done)))); intros; apply hk; clear hk K) | ((first | apply qg1 rfl | apply qcd); focus (simp only [go_sem, ↓upd_def, ↓evT, ↓aop, ↓aopc, ↓aopd, Nat.reduceEqDiff, Nat.reduceAdd, Nat.reduceLeDiff, Nat.reduceLT, Nat.reduceSub, Int.reduceToNat, ↓reduceIte, reduceCtorEq, encS_eq, ex_St, St_eta, eqSt]; exact rfl)) | (refine qj6 ?_ ?_ <;> intro hc <;> (try simp only [hc]) <;> (try simp only [decide_eq_true_eq, decide_eq_false_iff_not, Bool.not_eq_true', Bool.not_eq_false', Bool.not_eq_true, reduceCtorEq] at hc) <;> (try (exfalso; omega))) | (refine qk1 ?_ ?_; focus (repeat (first | exact qsub0 | (refine qsub1 ?_ ?_; focus (simp only [go_sem, ↓upd_def, ↓evT, ↓aop, ↓aopc, ↓aopd, Nat.reduceEqDiff, Nat.reduceAdd, Nat.reduceLeDiff, Nat.reduceLT, Nat.reduceSub, Int.reduceToNat, ↓reduceIte, reduceCtorEq, encS_eq, ex_St, St_eta, eqSt]))))) | (refine qt7 ?_ ?_; focus decide) | (refine qw7 ?_ ?_ ?_; (focus (decide +kernel)); (focus (decide +kernel)))))
    all_goals first
      | (((first | refine fin_ret ?_ | refine fin_end ?_); simp only [go_sem, ↓upd_def, Nat.reduceEqDiff, Nat.reduceAdd, ↓reduceIte, reduceCtorEq])
         refine ⟨by omega, K_eq hK ?_⟩
         clear hK
         rw [hst]
         · rfl
         · first
             | (rw [if_pos (by omega)]; assumption)
             | (rw [if_neg (by omega), if_pos (by omega)]; assumption)
             | (rw [if_neg (by omega), if_neg (by omega), if_neg (by omega), if_neg (show ¬ chkL cur ps = chkL cur os by assumption)]; rfl)
             | (rw [if_neg (by omega), if_neg (by omega), if_neg (by omega), if_pos (show chkL cur ps = chkL cur os by assumption)]; assumption)
             | (rw [if_neg (by omega), if_neg (by omega), if_pos (by omega), if_neg (show ¬ chkL cur ps = cur by assumption)]; rfl)
             | (rw [if_neg (by omega), if_neg (by omega), if_pos (by omega), if_pos (show chkL cur ps = cur by assumption)]; assumption))
      | (refine s_again (k + 1) ?_ ?_ ?_ <;> (first | omega | (dsimp only; omega) | skip)
         have hS := hsn
         first
           | rw [if_pos (show kd = 1 by omega), if_neg (show ¬ (afterS cur t).mode = 15 by assumption)] at hS
           | rw [if_neg (show ¬ kd = 1 by omega), if_pos (show kd = 2 by omega), if_neg (show ¬ (behindM cur).mode = 15 by assumption)] at hS
           | rw [if_neg (show ¬ kd = 1 by omega), if_neg (show ¬ kd = 2 by omega), if_neg (show ¬ kd = 4 by omega), if_pos (show chkL cur ps = chkL cur os by assumption), if_neg (show ¬ (chkL cur ps).mode = 15 by assumption)] at hS
           | rw [if_neg (show ¬ kd = 1 by omega), if_neg (show ¬ kd = 2 by omega), if_pos (show kd = 4 by omega), if_pos (show chkL cur ps = cur by assumption), if_neg (show ¬ cur.mode = 15 by assumption)] at hS
         simp [fits, fitsT, fitsM, upd_def, PV.nmb, nmbL, MB.nmb, List.getD_cons_zero, List.getD_cons_succ, hS, encS, st0, bad])
      | skip
  · obtain rfl : k = xs.length := by omega
    rw [List.take_length] at *
    ((first | refine fin_ret ?_ | refine fin_end ?_); simp only [go_sem, ↓upd_def, Nat.reduceEqDiff, Nat.reduceAdd, ↓reduceIte, reduceCtorEq])
    exact ⟨by omega, hK⟩
end Go.Proofs.Ytcagfbgplpokkaa

/- Contracts: faults of parts. -/
namespace Go.Proofs.Ytcagfbgplpokkaa
attribute [local irreducible] awp arun acalm FinP Fin AX.then AX.inBlock Again aG gsel amix amixN amixC aop aopc aopd cutK
attribute [local go_sem] aop aopc aopd aBSliceD aSlice aSliceC boundOf aMk evT upd_def aCall aCallC aLenL aLen aPick_t aPick_f aNil aAlloc aBox aBuild bldPV aBSlice bsPV aApp newsOf destOf drp aConvX aConv aConvInt aLoad cellsAt aStore cellsPV setAt aFld aField aIdx aIndex aUn aBin' aBin aMax aExtract pvOf PV.isCell nmbL PV.nmb List.map_cons List.map_nil List.all_cons List.all_nil Bool.and_true Bool.true_and if_true if_false List.getD_cons_zero List.getD_cons_succ List.getD_nil Option.isSome_some true_and and_true and_self eq_self true_or or_true List.drop_zero List.drop_succ_cons List.drop_nil List.take_zero List.take_succ_cons List.take_nil List.length_cons List.length_nil List.length_map Option.getD_some Option.getD_none List.nil_append List.cons_append List.append_nil Option.some.injEq exists_eq_left' List.getElem?_cons_zero List.getElem?_cons_succ Int.toNat_natCast Int.natCast_inj toNat_succ Nat.zero_add res res1 resC owns owns1 ownsC List.flatMap_cons List.flatMap_nil List.flatten_cons List.flatten_nil List.mem_cons List.not_mem_nil or_false false_or forall_eq forall_eq_or_imp isFro frz frz1 pureC tabA isBld List.cons.injEq PV.seq.injEq PV.int.injEq PV.str.injEq PV.bool.injEq PV.agg.injEq inR tab Γof aRes packR Option.map_some Option.map_none rel Prod.exists exists_and_left exists_eq_left and_assoc beq_self_eq_true Bool.not_true Bool.not_false decide_true decide_false List.set_cons_zero List.set_cons_succ rst_nil rst_cons
set_option maxRecDepth 100000
set_option linter.unusedVariables false
set_option linter.unusedSimpArgs false
open Go.RowKit

def lvS9_110 : Nat → List Nat
  | 0 => [1, 2, 5]
  | 1 => [1, 2, 5, 6]
  | 2 => [1, 2, 5, 6, 15]
  | 3 => [1, 2, 5, 6]
  | 4 => [1, 2, 5, 6, 7]
  | 5 => [1, 2, 5, 6, 7, 23]
  | 6 => [1, 2, 5, 6, 7, 8, 9]
  | 7 => [1, 2, 5, 6, 7, 8, 9, 10, 11]
  | 8 => [1, 2, 5, 6, 7, 8, 9, 10, 11, 38]
  | 9 => [4, 5]
  | 10 => [1, 2, 5, 6, 7, 9, 10, 11, 43]
  | 11 => [4, 5]
  | 12 => [1, 2, 5, 6, 7, 9, 11, 48]
  | 13 => [4, 5]
  | 14 => [1, 2, 5, 6, 9, 58]
  | 15 => [4, 5]
  | 16 => [1, 2, 5, 6]
  | 17 => [1, 2, 5, 6, 7, 23, 69]
  | 18 => [1, 2, 5, 6]
  | 19 => [1, 2, 5, 6, 77]
  | 20 => [4, 5]
  | 21 => [1, 2, 5, 6, 7, 79]
  | 22 => [1, 2, 5, 6]
  | 23 => [1, 2, 5, 6, 85]
  | 24 => [4, 5]
  | 25 => [4, 5]
  | _ => []
def lvS9_111 : Nat → List Nat
  | 0 => [1, 2, 4]
  | 1 => [2, 4, 13, 14, 15]
  | 2 => [2, 4, 13, 14, 15, 16]
  | 3 => [2, 4, 7, 13, 14, 15]
  | 4 => [2, 4, 7, 13, 14, 15, 20]
  | 5 => [2, 4, 7, 13, 14, 15, 20, 21]
  | 6 => [2, 4, 13, 14, 15]
  | 7 => [2, 4, 13, 14, 15, 29]
  | 8 => [4, 5]
  | 9 => [2, 4, 7, 13, 14, 15, 20, 31]
  | 10 => [2, 4, 13, 14, 15, 35]
  | 11 => [4, 5]
  | 12 => [2, 4, 13, 14, 15]
  | 13 => [2, 4, 7, 13, 14, 15, 20, 39]
  | 14 => [2, 4, 7, 8, 9, 13, 14, 15]
  | 15 => [2, 4, 7, 8, 9, 13, 14, 15, 49]
  | 16 => [4, 5]
  | 17 => [2, 4, 8, 9, 10, 13, 14, 15]
  | 18 => [2, 4, 8, 9, 10, 13, 14, 15, 60]
  | 19 => [4, 5]
  | 20 => [2, 4, 8, 13, 14, 15, 65]
  | 21 => [4, 5]
  | 22 => [2, 4, 13, 14, 15]
  | 23 => [2, 4, 7, 13, 14, 15, 68]
  | 24 => [2, 4, 11, 12, 13, 14, 15]
  | 25 => [2, 4, 11, 12, 13, 14, 15, 78]
  | 26 => [4, 5]
  | 27 => [2, 4, 13, 14, 15, 83]
  | 28 => [4, 5]
  | 29 => [2, 4, 13, 14, 15]
  | 30 => [4, 5]
  | _ => []
--LV=S9
mutual
theorem stV_fltP : ∀ (x : PartD) (s : St), stV s = true → stV (fltP s x).1 = true
  | .mk k t n ps os, s, h => by
    have h1 := stV_fltL ps s h
    have h2 := stV_fltL os s h
    rw [fltP_mk]
    split
    · exact stV_afterS s t
    split
    · exact stV_behind s
    split
    · exact h1
    split
    · split
      · exact h
      · exact stV_bad
    split
    · exact h2
    split
    · exact h1
    · exact stV_bad
theorem stV_fltL : ∀ (xs : List PartD) (s : St), stV s = true → stV (fltL s xs).1 = true
  | [], s, h => by rw [fltL_nil]; exact h
  | x :: xs, s, h => by
    rw [fltL_cons]
    split
    · exact stV_fltP x s h
    · exact stV_fltL xs _ (stV_fltP x s h)
end
/-- The state that the program hands back beside a fault. -/
def fIP (s : St) : PartD → St
  | .mk k t _ _ _ => if k = 1 then afterS s t else s
def stI : St → List PartD → St
  | s, [] => s
  | s, x :: xs => if (fltP s x).2 ≠ 0 then fIP s x else stI (fltP s x).1 xs
theorem stI_ok : ∀ (xs : List PartD) (s : St), (fltL s xs).2 = 0 → stI s xs = (fltL s xs).1
  | [], s, _ => by rw [stI, fltL_nil]
  | x :: xs, s, h => by
    rw [fltL_cons] at h ⊢
    rw [stI]
    by_cases hf : (fltP s x).2 = 0
    · rw [if_neg (by rw [hf]; simp)] at h ⊢
      rw [if_neg (by rw [hf]; simp)]
      exact stI_ok xs _ h
    · rw [if_pos hf] at h
      exact absurd h hf
theorem stI_stop : ∀ {xs : List PartD} {s : St} {k : Nat} {x : PartD}, xs[k]? = some x → (fltL s (xs.take k)).2 = 0 → (fltP (fltL s (xs.take k)).1 x).2 ≠ 0 → stI s xs = fIP (fltL s (xs.take k)).1 x
  | [], _, _, _, h, _, _ => by simp at h
  | y :: ys, s, 0, x, h, _, hf => by
    obtain rfl : y = x := by simpa using h
    rw [List.take_zero, fltL_nil] at *
    rw [stI, if_pos hf]
  | y :: ys, s, k + 1, x, h, h0, hf => by
    rw [List.take_succ_cons, fltL_cons] at h0 hf
    by_cases hy : (fltP s y).2 = 0
    · rw [if_neg (by rw [hy]; simp)] at h0 hf
      rw [stI, if_neg (by rw [hy]; simp), List.take_succ_cons, fltL_cons, if_neg (by rw [hy]; simp)]
      exact stI_stop (by simpa using h) h0 hf
    · rw [if_pos hy] at h0
      exact absurd h0 hy
theorem flt_go {s : St} {xs : List PartD} {k : Nat} {x : PartD} {r : St} (h : xs[k]? = some x) (h0 : (fltL s (xs.take k)).2 = 0) (hr : fltP (fltL s (xs.take k)).1 x = (r, 0)) : (fltL s (xs.take (k + 1))).2 = 0 ∧ (fltL s (xs.take (k + 1))).1 = r := by
  rw [fltL_snoc h h0, hr]; exact ⟨rfl, rfl⟩
theorem flt_stop {s : St} {xs : List PartD} {k : Nat} {x : PartD} {r : St} {f : Int} (h : xs[k]? = some x) (h0 : (fltL s (xs.take k)).2 = 0) (hf : f ≠ 0) (hr : fltP (fltL s (xs.take k)).1 x = (r, f)) : fltL s xs = (r, f) ∧ stI s xs = fIP (fltL s (xs.take k)).1 x := by
  have h1 : (fltP (fltL s (xs.take k)).1 x).2 ≠ 0 := by rw [hr]; exact hf
  exact ⟨by rw [fltL_stop h h0 h1, hr], stI_stop h h0 h1⟩
theorem behind15 {s : St} : (behindM s).mode = 15 ↔ placeM s = 0 := by
  constructor
  · intro h; exact Classical.byContradiction fun hn => behind_mode hn h
  · intro h; unfold behindM; rw [if_pos h]; rfl
@[go_sem] def fliC (n : Nat) : PC := rel (α := St × List PartD) (fun x => [.agg (encS x.1), .seq (encPs x.2)]) (fun x => wtL x.2 < n ∧ wtL x.2 ≤ 1099511627776 ∧ stV x.1 = true ∧ ∃ d b, gdL d b x.2 = true) (fun x => .tup [.agg (encS (stI x.1 x.2)), .int .i64 (fltL x.1 x.2).2])
@[go_sem] def flsC (n : Nat) : PC := rel (α := St × List PartD) (fun x => [.agg (encS x.1), .seq (encPs x.2)]) (fun x => wtL x.2 < n ∧ wtL x.2 ≤ 1099511627776 ∧ stV x.1 = true ∧ ∃ d b, gdL d b x.2 = true) (fun x => .tup [.int .i64 (fltL x.1 x.2).2, .agg (encS (fltL x.1 x.2).1)])
section
variable {cur : St} {k : Int} {t nm : Bs} {ps os : List PartD}
theorem fp1 (h : k = 1) (hm : ¬ (afterS cur t).mode = 15) : fltP cur (.mk k t nm ps os) = (afterS cur t, 0) := by rw [fltP_mk, if_pos h, if_neg hm]
theorem fp1x (h : k = 1) (hm : (afterS cur t).mode = 15) : fltP cur (.mk k t nm ps os) = (afterS cur t, 1) := by rw [fltP_mk, if_pos h, if_pos hm]
theorem fp2 (h : k = 2) (hm : ¬ placeM cur = 0) : fltP cur (.mk k t nm ps os) = (behindM cur, 0) := by rw [fltP_mk, if_neg (by omega), if_pos h, if_neg hm]
theorem fp2x (h : k = 2) (hm : placeM cur = 0) : fltP cur (.mk k t nm ps os) = (behindM cur, 2) := by rw [fltP_mk, if_neg (by omega), if_pos h, if_pos hm]
theorem fpx (h : k = 3 ∨ k = 4) (hm : ¬ (fltL cur ps).2 = 0) : fltP cur (.mk k t nm ps os) = fltL cur ps := by rw [fltP_mk, if_neg (by omega), if_neg (by omega), if_pos hm]
theorem fp4 (h : k = 4) (hm : (fltL cur ps).2 = 0) (he : (fltL cur ps).1 = cur) : fltP cur (.mk k t nm ps os) = (cur, 0) := by rw [fltP_mk, if_neg (by omega), if_neg (by omega), if_neg (by rw [hm]; simp), if_pos h, if_pos he]
theorem fp4x (h : k = 4) (hm : (fltL cur ps).2 = 0) (he : ¬ (fltL cur ps).1 = cur) : fltP cur (.mk k t nm ps os) = (bad, 4) := by rw [fltP_mk, if_neg (by omega), if_neg (by omega), if_neg (by rw [hm]; simp), if_pos h, if_neg he]
theorem fp3o (h : k = 3) (hm : (fltL cur ps).2 = 0) (ho : ¬ (fltL cur os).2 = 0) : fltP cur (.mk k t nm ps os) = fltL cur os := by rw [fltP_mk, if_neg (by omega), if_neg (by omega), if_neg (by rw [hm]; simp), if_neg (by omega), if_pos ho]
theorem fp3 (h : k = 3) (hm : (fltL cur ps).2 = 0) (ho : (fltL cur os).2 = 0) (he : (fltL cur ps).1 = (fltL cur os).1) : fltP cur (.mk k t nm ps os) = ((fltL cur ps).1, 0) := by rw [fltP_mk, if_neg (by omega), if_neg (by omega), if_neg (by rw [hm]; simp), if_neg (by omega), if_neg (by rw [ho]; simp), if_pos he]
theorem fp3x (h : k = 3) (hm : (fltL cur ps).2 = 0) (ho : (fltL cur os).2 = 0) (he : ¬ (fltL cur ps).1 = (fltL cur os).1) : fltP cur (.mk k t nm ps os) = (bad, 3) := by rw [fltP_mk, if_neg (by omega), if_neg (by omega), if_neg (by rw [hm]; simp), if_neg (by omega), if_neg (by rw [ho]; simp), if_neg he]
theorem fIP1 (h : k = 1) : fIP cur (.mk k t nm ps os) = afterS cur t := by rw [fIP, if_pos h]
theorem fIPn (h : ¬ k = 1) : fIP cur (.mk k t nm ps os) = cur := by rw [fIP, if_neg h]
end
set_option maxHeartbeats 16000000 in
theorem flt_i : ∀ n, PureOk Try.prog 111 (fliC n) := by
  intro n
  induction n with
  | zero => exact never_rel Try.func111 (by kernel_rfl) (by kernel_rfl) (fun x h => by omega)
  | succ n ih =>
  refine pure_rel 2 (tab_cons ih (tab_cons after_i (tab_cons beh_i (tab_cons place_i tab_nil)))) mixed [.cell 4 47, .tmp 5] Try.func111 rfl rfl (by kernel_rfl) (by kernel_rfl) (fun _ => rfl) (by kernel_rfl) ?_
  rintro ⟨s, xs⟩ K ⟨hn, hb, hv, d, b, hgd⟩ hK
  dsimp only at *
  clear ih
  have hlw := len_le_wtL xs
  unfold entry
  repeat' (first | (refine qwd fun K hk => ?_; simp only [lvS9_111, mkT, go_sem, ↓upd_def, ↓evT, ↓aop, ↓aopc, ↓aopd, Nat.reduceEqDiff, Nat.reduceAdd, Nat.reduceLeDiff, Nat.reduceLT, Nat.reduceSub, Int.reduceToNat, ↓reduceIte, reduceCtorEq, encS_eq, ex_St, St_eta]; apply hk; clear hk K) | refine qw8 ?_ | refine qw1 ?_ | refine qwc lvS9_111 ?_ | refine qt1 ?_ | refine qw5 ?_ | refine qw2 ?_ | refine qw9 ?_ | refine qt2 ?_ | refine qt3 ?_ | refine qt4 ?_ | refine qt5 ?_ | refine qt6 ?_ | refine qw3 ?_ | refine qw4 ?_ | refine qj1 ?_ | refine qj2 ?_ | refine qj3 ?_ | refine qj4 ?_ | refine qj5 ?_ | refine qu1 ?_ | refine qu2 ?_ | refine qne ?_ | refine qyn ?_ | refine qyz ?_ | refine qy0 ?_ | refine qnt rfl rfl ?_ | refine qnf rfl rfl ?_ | refine qyc rfl ?_ | refine qy1 rfl ?_ | refine qy2 rfl ?_ ?_ | ((first | refine qa1 fun K hk => ?_ | refine qa2 fun K hk => ?_ | refine qa3 fun K hk => ?_ | refine qh1 fun K hk => ?_ | refine qh2 fun K hk => ?_ | refine qm1 fun K hk => ?_ | refine qm2 fun K hk => ?_ | refine qm3 fun K hk => ?_); simp only [go_sem, ↓upd_def, ↓evT, ↓aop, ↓aopc, ↓aopd, Nat.reduceEqDiff, Nat.reduceAdd, Nat.reduceLeDiff, Nat.reduceLT, Nat.reduceSub, Int.reduceToNat, ↓reduceIte, reduceCtorEq, encS_eq, ex_St, St_eta]; (repeat (refine And.intro ?_ ?_; focus (first | omega | assumption | with_reducible rfl | (simp only [go_sem, ↓upd_def, ↓evT, ↓aop, ↓aopc, ↓aopd, Nat.reduceEqDiff, Nat.reduceAdd, Nat.reduceLeDiff, Nat.reduceLT, Nat.reduceSub, Int.reduceToNat, ↓reduceIte, reduceCtorEq, encS_eq, ex_St, St_eta]; done)))); intros; apply hk; clear hk K) | ((first | apply qg1 rfl | apply qcd); focus (simp only [go_sem, ↓upd_def, ↓evT, ↓aop, ↓aopc, ↓aopd, Nat.reduceEqDiff, Nat.reduceAdd, Nat.reduceLeDiff, Nat.reduceLT, Nat.reduceSub, Int.reduceToNat, ↓reduceIte, reduceCtorEq, encS_eq, ex_St, St_eta]; exact rfl)) | (refine qj6 ?_ ?_ <;> intro hc <;> (try simp only [hc]) <;> (try simp only [decide_eq_true_eq, decide_eq_false_iff_not, Bool.not_eq_true', Bool.not_eq_false', Bool.not_eq_true, reduceCtorEq] at hc) <;> (try (exfalso; omega))) | (refine qk1 ?_ ?_; focus (repeat (first | exact qsub0 | (refine qsub1 ?_ ?_; focus (simp only [go_sem, ↓upd_def, ↓evT, ↓aop, ↓aopc, ↓aopd, Nat.reduceEqDiff, Nat.reduceAdd, Nat.reduceLeDiff, Nat.reduceLT, Nat.reduceSub, Int.reduceToNat, ↓reduceIte, reduceCtorEq, encS_eq, ex_St, St_eta]))))) | (refine qt7 ?_ ?_; focus decide) | (refine qw7 ?_ ?_ ?_; (focus (decide +kernel)); (focus (decide +kernel))))
  refine s_loop (ι := Nat) (fun k => [(2, .ref 0 0), (4, .ref 1 0), (13, .seq (encPs xs)), (14, .int .i64 xs.length), (15, .int .i64 k)]) (fun k => [(0, .box (encS (fltL s (xs.take k)).1)), (1, .box (encS st0))]) 2 (fun k => k ≤ xs.length ∧ (fltL s (xs.take k)).2 = 0) (fun k => xs.length - k) 0 (by omega) ⟨by omega, by simp [fltL_nil]⟩ ?_ ?_
  · simp [fits, fitsT, fitsM, upd_def, PV.nmb, nmbL, MB.nmb, List.getD_cons_zero, List.getD_cons_succ, fltL_nil, encS, st0]
  rintro k ⟨hk, h0⟩
  have hvk := stV_fltL (xs.take k) s hv
  simp only [mkS, mkT, mkM]
  repeat' (first | (refine qwd fun K hk => ?_; simp only [lvS9_111, mkT, go_sem, ↓upd_def, ↓evT, ↓aop, ↓aopc, ↓aopd, Nat.reduceEqDiff, Nat.reduceAdd, Nat.reduceLeDiff, Nat.reduceLT, Nat.reduceSub, Int.reduceToNat, ↓reduceIte, reduceCtorEq, encS_eq, ex_St, St_eta]; apply hk; clear hk K) | refine qw8 ?_ | refine qw1 ?_ | refine qwc lvS9_111 ?_ | refine qt1 ?_ | refine qw5 ?_ | refine qw2 ?_ | refine qw9 ?_ | refine qt2 ?_ | refine qt3 ?_ | refine qt4 ?_ | refine qt5 ?_ | refine qt6 ?_ | refine qw3 ?_ | refine qw4 ?_ | refine qj1 ?_ | refine qj2 ?_ | refine qj3 ?_ | refine qj4 ?_ | refine qj5 ?_ | refine qu1 ?_ | refine qu2 ?_ | refine qne ?_ | refine qyn ?_ | refine qyz ?_ | refine qy0 ?_ | refine qnt rfl rfl ?_ | refine qnf rfl rfl ?_ | refine qyc rfl ?_ | refine qy1 rfl ?_ | refine qy2 rfl ?_ ?_ | ((first | refine qa1 fun K hk => ?_ | refine qa2 fun K hk => ?_ | refine qa3 fun K hk => ?_ | refine qh1 fun K hk => ?_ | refine qh2 fun K hk => ?_ | refine qm1 fun K hk => ?_ | refine qm2 fun K hk => ?_ | refine qm3 fun K hk => ?_); simp only [go_sem, ↓upd_def, ↓evT, ↓aop, ↓aopc, ↓aopd, Nat.reduceEqDiff, Nat.reduceAdd, Nat.reduceLeDiff, Nat.reduceLT, Nat.reduceSub, Int.reduceToNat, ↓reduceIte, reduceCtorEq, encS_eq, ex_St, St_eta]; (repeat (refine And.intro ?_ ?_; focus (first | omega | assumption | with_reducible rfl | (simp only [go_sem, ↓upd_def, ↓evT, ↓aop, ↓aopc, ↓aopd, Nat.reduceEqDiff, Nat.reduceAdd, Nat.reduceLeDiff, Nat.reduceLT, Nat.reduceSub, Int.reduceToNat, ↓reduceIte, reduceCtorEq, encS_eq, ex_St, St_eta]; done)))); intros; apply hk; clear hk K) | ((first | apply qg1 rfl | apply qcd); focus (simp only [go_sem, ↓upd_def, ↓evT, ↓aop, ↓aopc, ↓aopd, Nat.reduceEqDiff, Nat.reduceAdd, Nat.reduceLeDiff, Nat.reduceLT, Nat.reduceSub, Int.reduceToNat, ↓reduceIte, reduceCtorEq, encS_eq, ex_St, St_eta]; exact rfl)) | (refine qj6 ?_ ?_ <;> intro hc <;> (try simp only [hc]) <;> (try simp only [decide_eq_true_eq, decide_eq_false_iff_not, Bool.not_eq_true', Bool.not_eq_false', Bool.not_eq_true, reduceCtorEq] at hc) <;> (try (exfalso; omega))) | (refine qk1 ?_ ?_; focus (repeat (first | exact qsub0 | (refine qsub1 ?_ ?_; focus (simp only [go_sem, ↓upd_def, ↓evT, ↓aop, ↓aopc, ↓aopd, Nat.reduceEqDiff, Nat.reduceAdd, Nat.reduceLeDiff, Nat.reduceLT, Nat.reduceSub, Int.reduceToNat, ↓reduceIte, reduceCtorEq, encS_eq, ex_St, St_eta]))))) | (refine qt7 ?_ ?_; focus decide) | (refine qw7 ?_ ?_ ?_; (focus (decide +kernel)); (focus (decide +kernel))))
  · obtain ⟨⟨kd, t, nm, ps, os⟩, hx⟩ := get_some (xs := xs) (k := k) (by omega)
    have htk := take_snoc' hx
    have ws := wtL_split hx
    rw [wtP_mk] at ws
    have hget := encPs_get xs
    obtain ⟨hkd, hgp, hgo, hg4⟩ := gd_kids (gd_mem hgd hx)
    have hgo1 := fun r => flt_go (r := r) hx h0
    have hst := fun r f => flt_stop (r := r) (f := f) hx h0
    have ho := okS_of hvk
    have hlp := len_le_wtL ps
    have hlo := len_le_wtL os
    generalize hcur : (fltL s (xs.take k)).1 = cur at *
    have eps := stI_ok ps cur
    have eos := stI_ok os cur
    repeat' (first | (refine qwd fun K hk => ?_; simp only [lvS9_111, mkT, go_sem, ↓upd_def, ↓evT, ↓aop, ↓aopc, ↓aopd, Nat.reduceEqDiff, Nat.reduceAdd, Nat.reduceLeDiff, Nat.reduceLT, Nat.reduceSub, Int.reduceToNat, ↓reduceIte, reduceCtorEq, hget, hx, encP_mk, encS_eq, ex_St, St_eta, eqSt]; apply hk; clear hk K) | refine qw8 ?_ | refine qw1 ?_ | refine qwc lvS9_111 ?_ | refine qt1 ?_ | refine qw5 ?_ | refine qw2 ?_ | refine qw9 ?_ | refine qt2 ?_ | refine qt3 ?_ | refine qt4 ?_ | refine qt5 ?_ | refine qt6 ?_ | refine qw3 ?_ | refine qw4 ?_ | refine qj1 ?_ | refine qj2 ?_ | refine qj3 ?_ | refine qj4 ?_ | refine qj5 ?_ | refine qu1 ?_ | refine qu2 ?_ | refine qne ?_ | refine qyn ?_ | refine qyz ?_ | refine qy0 ?_ | refine qnt rfl rfl ?_ | refine qnf rfl rfl ?_ | refine qyc rfl ?_ | refine qy1 rfl ?_ | refine qy2 rfl ?_ ?_ | ((first | refine qa1 fun K hk => ?_ | refine qa2 fun K hk => ?_ | refine qa3 fun K hk => ?_ | refine qh1 fun K hk => ?_ | refine qh2 fun K hk => ?_ | refine qm1 fun K hk => ?_ | refine qm2 fun K hk => ?_ | refine qm3 fun K hk => ?_); simp only [go_sem, ↓upd_def, ↓evT, ↓aop, ↓aopc, ↓aopd, Nat.reduceEqDiff, Nat.reduceAdd, Nat.reduceLeDiff, Nat.reduceLT, Nat.reduceSub, Int.reduceToNat, ↓reduceIte, reduceCtorEq, hget, hx, encP_mk, encS_eq, ex_St, St_eta, eqSt]; (repeat (refine And.intro ?_ ?_; focus (first | omega | assumption | with_reducible rfl | (simp only [go_sem, ↓upd_def, ↓evT, ↓aop, ↓aopc, ↓aopd, Nat.reduceEqDiff, Nat.reduceAdd, Nat.reduceLeDiff, Nat.reduceLT, Nat.reduceSub, Int.reduceToNat, ↓reduceIte, reduceCtorEq, hget, hx, encP_mk, encS_eq, ex_St, St_eta, eqSt]; done)))); intros; apply hk; clear hk K) | ((first | apply qg1 rfl | apply qcd); focus (simp only [go_sem, ↓upd_def, ↓evT, ↓aop, ↓aopc, ↓aopd, Nat.reduceEqDiff, Nat.reduceAdd, Nat.reduceLeDiff, Nat.reduceLT, Nat.reduceSub, Int.reduceToNat, ↓reduceIte, reduceCtorEq, hget, hx, encP_mk, encS_eq, ex_St, St_eta, eqSt]; exact rfl)) | (refine qj6 ?_ ?_ <;> intro hc <;> (try simp only [hc]) <;> (try simp only [decide_eq_true_eq, decide_eq_false_iff_not, Bool.not_eq_true', Bool.not_eq_false', Bool.not_eq_true, reduceCtorEq] at hc) <;> (try (exfalso; omega))) | (refine qk1 ?_ ?_; focus (repeat (first | exact qsub0 | (refine qsub1 ?_ ?_; focus (simp only [go_sem, ↓upd_def, ↓evT, ↓aop, ↓aopc, ↓aopd, Nat.reduceEqDiff, Nat.reduceAdd, Nat.reduceLeDiff, Nat.reduceLT, Nat.reduceSub, Int.reduceToNat, ↓reduceIte, reduceCtorEq, hget, hx, encP_mk, encS_eq, ex_St, St_eta, eqSt]))))) | (refine qt7 ?_ ?_; focus decide) | (refine qw7 ?_ ?_ ?_; (focus (decide +kernel)); (focus (decide +kernel))))
    all_goals first
      | (((first | refine fin_ret ?_ | refine fin_end ?_); simp only [go_sem, ↓upd_def, Nat.reduceEqDiff, Nat.reduceAdd, ↓reduceIte, reduceCtorEq])
         refine ⟨by omega, K_eq hK ?_⟩
         clear hK
         first
           | (obtain ⟨e1, e2⟩ := hst _ _ (by decide) (fp1x (by omega) (by assumption)); rw [e1, e2, fIP1 (by omega)]; rfl)
           | (obtain ⟨e1, e2⟩ := hst _ _ (by decide) (fp2x (by omega) (by assumption)); rw [e1, e2, fIPn (by omega)]; rfl)
           | (obtain ⟨e1, e2⟩ := hst (fltL cur ps).1 (fltL cur ps).2 (by assumption) (fpx (by omega) (by assumption)); rw [e1, e2, fIPn (by omega)]; rfl)
           | (obtain ⟨e1, e2⟩ := hst (fltL cur os).1 (fltL cur os).2 (by assumption) (fp3o (by omega) (by assumption) (by assumption)); rw [e1, e2, fIPn (by omega)]; rfl)
           | (obtain ⟨e1, e2⟩ := hst _ _ (by decide) (fp3x (by omega) (by assumption) (by assumption) (by rw [← eps (by assumption), ← eos (by assumption)]; assumption)); rw [e1, e2, fIPn (by omega)]; rfl)
           | (obtain ⟨e1, e2⟩ := hst _ _ (by decide) (fp4x (by omega) (by assumption) (by rw [← eps (by assumption)]; assumption)); rw [e1, e2, fIPn (by omega)]; rfl))
      | (have e12 := hgo1 _ (fp1 (by omega) (by assumption))
         obtain ⟨e1, e2⟩ := e12
         refine s_again (k + 1) ?_ ?_ ?_ <;> (first | omega | (dsimp only; omega) | skip)
         all_goals first
           | exact ⟨by omega, e1⟩
           | simp [fits, fitsT, fitsM, upd_def, PV.nmb, nmbL, MB.nmb, List.getD_cons_zero, List.getD_cons_succ, e2, encS, st0, bad])
      | (have e12 := hgo1 _ (fp2 (by omega) (by assumption))
         obtain ⟨e1, e2⟩ := e12
         refine s_again (k + 1) ?_ ?_ ?_ <;> (first | omega | (dsimp only; omega) | skip)
         all_goals first
           | exact ⟨by omega, e1⟩
           | simp [fits, fitsT, fitsM, upd_def, PV.nmb, nmbL, MB.nmb, List.getD_cons_zero, List.getD_cons_succ, e2, encS, st0, bad])
      | (have e12 := hgo1 _ (fp4 (by omega) (by assumption) (by rw [← eps (by assumption)]; assumption))
         obtain ⟨e1, e2⟩ := e12
         refine s_again (k + 1) ?_ ?_ ?_ <;> (first | omega | (dsimp only; omega) | skip)
         all_goals first
           | exact ⟨by omega, e1⟩
           | simp [fits, fitsT, fitsM, upd_def, PV.nmb, nmbL, MB.nmb, List.getD_cons_zero, List.getD_cons_succ, e2, encS, st0, bad])
      | (have e12 := hgo1 _ (fp3 (by omega) (by assumption) (by assumption) (by rw [← eps (by assumption), ← eos (by assumption)]; assumption))
         obtain ⟨e1, e2⟩ := e12
         rw [← eps (by assumption)] at e2
         refine s_again (k + 1) ?_ ?_ ?_ <;> (first | omega | (dsimp only; omega) | skip)
         all_goals first
           | exact ⟨by omega, e1⟩
           | simp [fits, fitsT, fitsM, upd_def, PV.nmb, nmbL, MB.nmb, List.getD_cons_zero, List.getD_cons_succ, e2, encS, st0, bad])
      | skip
  · obtain rfl : k = xs.length := by omega
    rw [List.take_length] at *
    ((first | refine fin_ret ?_ | refine fin_end ?_); simp only [go_sem, ↓upd_def, Nat.reduceEqDiff, Nat.reduceAdd, ↓reduceIte, reduceCtorEq])
    refine ⟨by omega, K_eq hK ?_⟩
    rw [stI_ok xs s h0, h0]; rfl
set_option maxHeartbeats 16000000 in
theorem flt_s : ∀ n, PureOk Try.prog 110 (flsC n) := by
  intro n
  induction n with
  | zero => exact never_rel Try.func110 (by kernel_rfl) (by kernel_rfl) (fun x h => by omega)
  | succ n ih =>
  refine pure_rel 2 (tab_cons ih (tab_cons after_s (tab_cons beh_s tab_nil))) mixed [.tmp 4, .cell 5 47] Try.func110 rfl rfl (by kernel_rfl) (by kernel_rfl) (fun _ => rfl) (by kernel_rfl) ?_
  rintro ⟨s, xs⟩ K ⟨hn, hb, hv, d, b, hgd⟩ hK
  dsimp only at *
  clear ih
  have hlw := len_le_wtL xs
  unfold entry
  repeat' (first | (refine qwd fun K hk => ?_; simp only [lvS9_110, mkT, go_sem, ↓upd_def, ↓evT, ↓aop, ↓aopc, ↓aopd, Nat.reduceEqDiff, Nat.reduceAdd, Nat.reduceLeDiff, Nat.reduceLT, Nat.reduceSub, Int.reduceToNat, ↓reduceIte, reduceCtorEq, encS_eq, ex_St, St_eta]; apply hk; clear hk K) | refine qw8 ?_ | refine qw1 ?_ | refine qwc lvS9_110 ?_ | refine qt1 ?_ | refine qw5 ?_ | refine qw2 ?_ | refine qw9 ?_ | refine qt2 ?_ | refine qt3 ?_ | refine qt4 ?_ | refine qt5 ?_ | refine qt6 ?_ | refine qw3 ?_ | refine qw4 ?_ | refine qj1 ?_ | refine qj2 ?_ | refine qj3 ?_ | refine qj4 ?_ | refine qj5 ?_ | refine qu1 ?_ | refine qu2 ?_ | refine qne ?_ | refine qyn ?_ | refine qyz ?_ | refine qy0 ?_ | refine qnt rfl rfl ?_ | refine qnf rfl rfl ?_ | refine qyc rfl ?_ | refine qy1 rfl ?_ | refine qy2 rfl ?_ ?_ | ((first | refine qa1 fun K hk => ?_ | refine qa2 fun K hk => ?_ | refine qa3 fun K hk => ?_ | refine qh1 fun K hk => ?_ | refine qh2 fun K hk => ?_ | refine qm1 fun K hk => ?_ | refine qm2 fun K hk => ?_ | refine qm3 fun K hk => ?_); simp only [go_sem, ↓upd_def, ↓evT, ↓aop, ↓aopc, ↓aopd, Nat.reduceEqDiff, Nat.reduceAdd, Nat.reduceLeDiff, Nat.reduceLT, Nat.reduceSub, Int.reduceToNat, ↓reduceIte, reduceCtorEq, encS_eq, ex_St, St_eta]; (repeat (refine And.intro ?_ ?_; focus (first | omega | assumption | with_reducible rfl | (simp only [go_sem, ↓upd_def, ↓evT, ↓aop, ↓aopc, ↓aopd, Nat.reduceEqDiff, Nat.reduceAdd, Nat.reduceLeDiff, Nat.reduceLT, Nat.reduceSub, Int.reduceToNat, ↓reduceIte, reduceCtorEq, encS_eq, ex_St, St_eta]; done)))); intros; apply hk; clear hk K) | ((first | apply qg1 rfl | apply qcd); focus (simp only [go_sem, ↓upd_def, ↓evT, ↓aop, ↓aopc, ↓aopd, Nat.reduceEqDiff, Nat.reduceAdd, Nat.reduceLeDiff, Nat.reduceLT, Nat.reduceSub, Int.reduceToNat, ↓reduceIte, reduceCtorEq, encS_eq, ex_St, St_eta]; exact rfl)) | (refine qj6 ?_ ?_ <;> intro hc <;> (try simp only [hc]) <;> (try simp only [decide_eq_true_eq, decide_eq_false_iff_not, Bool.not_eq_true', Bool.not_eq_false', Bool.not_eq_true, reduceCtorEq] at hc) <;> (try (exfalso; omega))) | (refine qk1 ?_ ?_; focus (repeat (first | exact qsub0 | (refine qsub1 ?_ ?_; focus (simp only [go_sem, ↓upd_def, ↓evT, ↓aop, ↓aopc, ↓aopd, Nat.reduceEqDiff, Nat.reduceAdd, Nat.reduceLeDiff, Nat.reduceLT, Nat.reduceSub, Int.reduceToNat, ↓reduceIte, reduceCtorEq, encS_eq, ex_St, St_eta]))))) | (refine qt7 ?_ ?_; focus decide) | (refine qw7 ?_ ?_ ?_; (focus (decide +kernel)); (focus (decide +kernel))))
  refine s_loop (ι := Nat) (fun k => [(1, .seq (encPs xs)), (2, .ref 0 0), (5, .ref 1 0), (6, .int .i64 k)]) (fun k => [(0, .box (encS (fltL s (xs.take k)).1)), (1, .box (encS st0))]) 2 (fun k => k ≤ xs.length ∧ (fltL s (xs.take k)).2 = 0) (fun k => xs.length - k) 0 (by omega) ⟨by omega, by simp [fltL_nil]⟩ ?_ ?_
  · simp [fits, fitsT, fitsM, upd_def, PV.nmb, nmbL, MB.nmb, List.getD_cons_zero, List.getD_cons_succ, fltL_nil, encS, st0]
  rintro k ⟨hk, h0⟩
  have hvk := stV_fltL (xs.take k) s hv
  simp only [mkS, mkT, mkM]
  repeat' (first | (refine qwd fun K hk => ?_; simp only [lvS9_110, mkT, go_sem, ↓upd_def, ↓evT, ↓aop, ↓aopc, ↓aopd, Nat.reduceEqDiff, Nat.reduceAdd, Nat.reduceLeDiff, Nat.reduceLT, Nat.reduceSub, Int.reduceToNat, ↓reduceIte, reduceCtorEq, encS_eq, ex_St, St_eta]; apply hk; clear hk K) | refine qw8 ?_ | refine qw1 ?_ | refine qwc lvS9_110 ?_ | refine qt1 ?_ | refine qw5 ?_ | refine qw2 ?_ | refine qw9 ?_ | refine qt2 ?_ | refine qt3 ?_ | refine qt4 ?_ | refine qt5 ?_ | refine qt6 ?_ | refine qw3 ?_ | refine qw4 ?_ | refine qj1 ?_ | refine qj2 ?_ | refine qj3 ?_ | refine qj4 ?_ | refine qj5 ?_ | refine qu1 ?_ | refine qu2 ?_ | refine qne ?_ | refine qyn ?_ | refine qyz ?_ | refine qy0 ?_ | refine qnt rfl rfl ?_ | refine qnf rfl rfl ?_ | refine qyc rfl ?_ | refine qy1 rfl ?_ | refine qy2 rfl ?_ ?_ | ((first | refine qa1 fun K hk => ?_ | refine qa2 fun K hk => ?_ | refine qa3 fun K hk => ?_ | refine qh1 fun K hk => ?_ | refine qh2 fun K hk => ?_ | refine qm1 fun K hk => ?_ | refine qm2 fun K hk => ?_ | refine qm3 fun K hk => ?_); simp only [go_sem, ↓upd_def, ↓evT, ↓aop, ↓aopc, ↓aopd, Nat.reduceEqDiff, Nat.reduceAdd, Nat.reduceLeDiff, Nat.reduceLT, Nat.reduceSub, Int.reduceToNat, ↓reduceIte, reduceCtorEq, encS_eq, ex_St, St_eta]; (repeat (refine And.intro ?_ ?_; focus (first | omega | assumption | with_reducible rfl | (simp only [go_sem, ↓upd_def, ↓evT, ↓aop, ↓aopc, ↓aopd, Nat.reduceEqDiff, Nat.reduceAdd, Nat.reduceLeDiff, Nat.reduceLT, Nat.reduceSub, Int.reduceToNat, ↓reduceIte, reduceCtorEq, encS_eq, ex_St, St_eta]; done)))); intros; apply hk; clear hk K) | ((first | apply qg1 rfl | apply qcd); focus (simp only [go_sem, ↓upd_def, ↓evT, ↓aop, ↓aopc, ↓aopd, Nat.reduceEqDiff, Nat.reduceAdd, Nat.reduceLeDiff, Nat.reduceLT, Nat.reduceSub, Int.reduceToNat, ↓reduceIte, reduceCtorEq, encS_eq, ex_St, St_eta]; exact rfl)) | (refine qj6 ?_ ?_ <;> intro hc <;> (try simp only [hc]) <;> (try simp only [decide_eq_true_eq, decide_eq_false_iff_not, Bool.not_eq_true', Bool.not_eq_false', Bool.not_eq_true, reduceCtorEq] at hc) <;> (try (exfalso; omega))) | (refine qk1 ?_ ?_; focus (repeat (first | exact qsub0 | (refine qsub1 ?_ ?_; focus (simp only [go_sem, ↓upd_def, ↓evT, ↓aop, ↓aopc, ↓aopd, Nat.reduceEqDiff, Nat.reduceAdd, Nat.reduceLeDiff, Nat.reduceLT, Nat.reduceSub, Int.reduceToNat, ↓reduceIte, reduceCtorEq, encS_eq, ex_St, St_eta]))))) | (refine qt7 ?_ ?_; focus decide) | (refine qw7 ?_ ?_ ?_; (focus (decide +kernel)); (focus (decide +kernel))))
  · obtain ⟨⟨kd, t, nm, ps, os⟩, hx⟩ := get_some (xs := xs) (k := k) (by omega)
    have htk := take_snoc' hx
    have ws := wtL_split hx
    rw [wtP_mk] at ws
    have hget := encPs_get xs
    obtain ⟨hkd, hgp, hgo, hg4⟩ := gd_kids (gd_mem hgd hx)
    have hgo1 := fun r => flt_go (r := r) hx h0
    have hst := fun r f => flt_stop (r := r) (f := f) hx h0
    have ho := okS_of hvk
    have hlp := len_le_wtL ps
    have hlo := len_le_wtL os
    generalize hcur : (fltL s (xs.take k)).1 = cur at *
    have ho4 : kd = 4 → (fltL cur os).2 = 0 := by intro h; rw [hg4 h, fltL_nil]
    repeat' (first | (first | (refine qwd fun K hk => ?_; simp only [lvS9_110, mkT, go_sem, ↓upd_def, ↓evT, ↓aop, ↓aopc, ↓aopd, Nat.reduceEqDiff, Nat.reduceAdd, Nat.reduceLeDiff, Nat.reduceLT, Nat.reduceSub, Int.reduceToNat, ↓reduceIte, reduceCtorEq, hget, hx, encP_mk, encS_eq, ex_St, St_eta, eqSt]; apply hk; clear hk K) | refine qw8 ?_ | refine qw1 ?_ | refine qwc lvS9_110 ?_ | refine qt1 ?_ | refine qw5 ?_ | refine qw2 ?_ | refine qw9 ?_ | refine qt2 ?_ | refine qt3 ?_ | refine qt4 ?_ | refine qt5 ?_ | refine qt6 ?_ | refine qw3 ?_ | refine qw4 ?_ | refine qj1 ?_ | refine qj2 ?_ | refine qj3 ?_ | refine qj4 ?_ | refine qj5 ?_ | refine qu1 ?_ | refine qu2 ?_ | refine qne ?_ | refine qyn ?_ | refine qyz ?_ | refine qy0 ?_ | refine qnt rfl rfl ?_ | refine qnf rfl rfl ?_ | refine qyc rfl ?_ | refine qy1 rfl ?_ | refine qy2 rfl ?_ ?_ | ((first | refine qa1 fun K hk => ?_ | refine qa2 fun K hk => ?_ | refine qa3 fun K hk => ?_ | refine qh1 fun K hk => ?_ | refine qh2 fun K hk => ?_ | refine qm1 fun K hk => ?_ | refine qm2 fun K hk => ?_ | refine qm3 fun K hk => ?_); simp only [go_sem, ↓upd_def, ↓evT, ↓aop, ↓aopc, ↓aopd, Nat.reduceEqDiff, Nat.reduceAdd, Nat.reduceLeDiff, Nat.reduceLT, Nat.reduceSub, Int.reduceToNat, ↓reduceIte, reduceCtorEq, hget, hx, encP_mk, encS_eq, ex_St, St_eta, eqSt]; (repeat (refine And.intro ?_ ?_; focus (first | omega | assumption | with_reducible rfl | (simp only [go_sem, ↓upd_def, ↓evT, ↓aop, ↓aopc, ↓aopd, Nat.reduceEqDiff, Nat.reduceAdd, Nat.reduceLeDiff, Nat.reduceLT, Nat.reduceSub, Int.reduceToNat, ↓reduceIte, reduceCtorEq, hget, hx, encP_mk, encS_eq, ex_St, St_eta, eqSt]; done)))); intros; apply hk; clear hk K) | ((first | apply qg1 rfl | apply qcd); focus (simp only [go_sem, ↓upd_def, ↓evT, ↓aop, ↓aopc, ↓aopd, Nat.reduceEqDiff, Nat.reduceAdd, Nat.reduceLeDiff, Nat.reduceLT, Nat.reduceSub, Int.reduceToNat, ↓reduceIte, reduceCtorEq, hget, hx, encP_mk, encS_eq, ex_St, St_eta, eqSt]; exact rfl)) | (refine qj6 ?_ ?_ <;> intro hc <;> (try simp only [hc]) <;> (try simp only [decide_eq_true_eq, decide_eq_false_iff_not, Bool.not_eq_true', Bool.not_eq_false', Bool.not_eq_true, reduceCtorEq] at hc) <;> (try (exfalso; omega))) | (refine qk1 ?_ ?_; focus (repeat (first | exact qsub0 | (refine qsub1 ?_ ?_; focus (simp only [go_sem, ↓upd_def, ↓evT, ↓aop, ↓aopc, ↓aopd, Nat.reduceEqDiff, Nat.reduceAdd, Nat.reduceLeDiff, Nat.reduceLT, Nat.reduceSub, Int.reduceToNat, ↓reduceIte, reduceCtorEq, hget, hx, encP_mk, encS_eq, ex_St, St_eta, eqSt]))))) | (refine qt7 ?_ ?_; focus decide) | (refine qw7 ?_ ?_ ?_; (focus (decide +kernel)); (focus (decide +kernel)))) | refine s_draw 2 (by decide +kernel) ?_ | refine s_draw 3 (by decide +kernel) ?_)
    all_goals first
      | (((first | refine fin_ret ?_ | refine fin_end ?_); simp only [go_sem, ↓upd_def, Nat.reduceEqDiff, Nat.reduceAdd, ↓reduceIte, reduceCtorEq])
         refine ⟨by omega, K_eq hK ?_⟩
         clear hK
         first
           | (obtain ⟨e1, e2⟩ := hst _ _ (by decide) (fp1x (by omega) (by assumption)); rw [e1]; rfl)
           | (obtain ⟨e1, e2⟩ := hst _ _ (by decide) (fp2x (by omega) (behind15.1 (by assumption))); rw [e1]; rfl)
           | (obtain ⟨e1, e2⟩ := hst (fltL cur ps).1 (fltL cur ps).2 (by assumption) (fpx (by omega) (by assumption)); rw [e1]; rfl)
           | (obtain ⟨e1, e2⟩ := hst (fltL cur os).1 (fltL cur os).2 (by assumption) (fp3o (by omega) (by assumption) (by assumption)); rw [e1]; rfl)
           | (obtain ⟨e1, e2⟩ := hst _ _ (by decide) (fp3x (by omega) (by assumption) (by assumption) (by assumption)); rw [e1]; rfl)
           | (obtain ⟨e1, e2⟩ := hst _ _ (by decide) (fp4x (by omega) (by assumption) (by assumption)); rw [e1]; rfl))
      | (have e12 := hgo1 _ (fp1 (by omega) (by assumption))
         obtain ⟨e1, e2⟩ := e12
         refine s_again (k + 1) ?_ ?_ ?_ <;> (first | omega | (dsimp only; omega) | skip)
         all_goals first
           | exact ⟨by omega, e1⟩
           | simp [fits, fitsT, fitsM, upd_def, PV.nmb, nmbL, MB.nmb, List.getD_cons_zero, List.getD_cons_succ, e2, encS, st0, bad, show (fltL cur ps).1 = cur by assumption]
           | simp [fits, fitsT, fitsM, upd_def, PV.nmb, nmbL, MB.nmb, List.getD_cons_zero, List.getD_cons_succ, e2, encS, st0, bad])
      | (have e12 := hgo1 _ (fp2 (by omega) (mt behind15.2 (by assumption)))
         obtain ⟨e1, e2⟩ := e12
         refine s_again (k + 1) ?_ ?_ ?_ <;> (first | omega | (dsimp only; omega) | skip)
         all_goals first
           | exact ⟨by omega, e1⟩
           | simp [fits, fitsT, fitsM, upd_def, PV.nmb, nmbL, MB.nmb, List.getD_cons_zero, List.getD_cons_succ, e2, encS, st0, bad, show (fltL cur ps).1 = cur by assumption]
           | simp [fits, fitsT, fitsM, upd_def, PV.nmb, nmbL, MB.nmb, List.getD_cons_zero, List.getD_cons_succ, e2, encS, st0, bad])
      | (have e12 := hgo1 _ (fp4 (by omega) (by assumption) (by assumption))
         obtain ⟨e1, e2⟩ := e12
         refine s_again (k + 1) ?_ ?_ ?_ <;> (first | omega | (dsimp only; omega) | skip)
         all_goals first
           | exact ⟨by omega, e1⟩
           | simp [fits, fitsT, fitsM, upd_def, PV.nmb, nmbL, MB.nmb, List.getD_cons_zero, List.getD_cons_succ, e2, encS, st0, bad, show (fltL cur ps).1 = cur by assumption]
           | simp [fits, fitsT, fitsM, upd_def, PV.nmb, nmbL, MB.nmb, List.getD_cons_zero, List.getD_cons_succ, e2, encS, st0, bad])
      | (have e12 := hgo1 _ (fp3 (by omega) (by assumption) (by assumption) (by assumption))
         obtain ⟨e1, e2⟩ := e12
         refine s_again (k + 1) ?_ ?_ ?_ <;> (first | omega | (dsimp only; omega) | skip)
         all_goals first
           | exact ⟨by omega, e1⟩
           | simp [fits, fitsT, fitsM, upd_def, PV.nmb, nmbL, MB.nmb, List.getD_cons_zero, List.getD_cons_succ, e2, encS, st0, bad, show (fltL cur ps).1 = cur by assumption]
           | simp [fits, fitsT, fitsM, upd_def, PV.nmb, nmbL, MB.nmb, List.getD_cons_zero, List.getD_cons_succ, e2, encS, st0, bad])
      | skip
  · obtain rfl : k = xs.length := by omega
    rw [List.take_length] at *
    refine s_draw 2 (by decide +kernel) ?_
    repeat' (first | (refine qwd fun K hk => ?_; simp only [lvS9_110, mkT, go_sem, ↓upd_def, ↓evT, ↓aop, ↓aopc, ↓aopd, Nat.reduceEqDiff, Nat.reduceAdd, Nat.reduceLeDiff, Nat.reduceLT, Nat.reduceSub, Int.reduceToNat, ↓reduceIte, reduceCtorEq, encS_eq, ex_St, St_eta]; apply hk; clear hk K) | refine qw8 ?_ | refine qw1 ?_ | refine qwc lvS9_110 ?_ | refine qt1 ?_ | refine qw5 ?_ | refine qw2 ?_ | refine qw9 ?_ | refine qt2 ?_ | refine qt3 ?_ | refine qt4 ?_ | refine qt5 ?_ | refine qt6 ?_ | refine qw3 ?_ | refine qw4 ?_ | refine qj1 ?_ | refine qj2 ?_ | refine qj3 ?_ | refine qj4 ?_ | refine qj5 ?_ | refine qu1 ?_ | refine qu2 ?_ | refine qne ?_ | refine qyn ?_ | refine qyz ?_ | refine qy0 ?_ | refine qnt rfl rfl ?_ | refine qnf rfl rfl ?_ | refine qyc rfl ?_ | refine qy1 rfl ?_ | refine qy2 rfl ?_ ?_ | ((first | refine qa1 fun K hk => ?_ | refine qa2 fun K hk => ?_ | refine qa3 fun K hk => ?_ | refine qh1 fun K hk => ?_ | refine qh2 fun K hk => ?_ | refine qm1 fun K hk => ?_ | refine qm2 fun K hk => ?_ | refine qm3 fun K hk => ?_); simp only [go_sem, ↓upd_def, ↓evT, ↓aop, ↓aopc, ↓aopd, Nat.reduceEqDiff, Nat.reduceAdd, Nat.reduceLeDiff, Nat.reduceLT, Nat.reduceSub, Int.reduceToNat, ↓reduceIte, reduceCtorEq, encS_eq, ex_St, St_eta]; (repeat (refine And.intro ?_ ?_; focus (first | omega | assumption | with_reducible rfl | (simp only [go_sem, ↓upd_def, ↓evT, ↓aop, ↓aopc, ↓aopd, Nat.reduceEqDiff, Nat.reduceAdd, Nat.reduceLeDiff, Nat.reduceLT, Nat.reduceSub, Int.reduceToNat, ↓reduceIte, reduceCtorEq, encS_eq, ex_St, St_eta]; done)))); intros; apply hk; clear hk K) | ((first | apply qg1 rfl | apply qcd); focus (simp only [go_sem, ↓upd_def, ↓evT, ↓aop, ↓aopc, ↓aopd, Nat.reduceEqDiff, Nat.reduceAdd, Nat.reduceLeDiff, Nat.reduceLT, Nat.reduceSub, Int.reduceToNat, ↓reduceIte, reduceCtorEq, encS_eq, ex_St, St_eta]; exact rfl)) | (refine qj6 ?_ ?_ <;> intro hc <;> (try simp only [hc]) <;> (try simp only [decide_eq_true_eq, decide_eq_false_iff_not, Bool.not_eq_true', Bool.not_eq_false', Bool.not_eq_true, reduceCtorEq] at hc) <;> (try (exfalso; omega))) | (refine qk1 ?_ ?_; focus (repeat (first | exact qsub0 | (refine qsub1 ?_ ?_; focus (simp only [go_sem, ↓upd_def, ↓evT, ↓aop, ↓aopc, ↓aopd, Nat.reduceEqDiff, Nat.reduceAdd, Nat.reduceLeDiff, Nat.reduceLT, Nat.reduceSub, Int.reduceToNat, ↓reduceIte, reduceCtorEq, encS_eq, ex_St, St_eta]))))) | (refine qt7 ?_ ?_; focus decide) | (refine qw7 ?_ ?_ ?_; (focus (decide +kernel)); (focus (decide +kernel))))
    ((first | refine fin_ret ?_ | refine fin_end ?_); simp only [go_sem, ↓upd_def, Nat.reduceEqDiff, Nat.reduceAdd, ↓reduceIte, reduceCtorEq])
    refine ⟨by omega, K_eq hK ?_⟩
    rw [h0]; rfl
end Go.Proofs.Ytcagfbgplpokkaa

/- Contracts: CheckParts, TemplateSafe, TemplateFault. -/
namespace Go.Proofs.Ytcagfbgplpokkaa
attribute [local irreducible] awp arun acalm FinP Fin AX.then AX.inBlock Again aG gsel amix amixN amixC aop aopc aopd cutK
attribute [local go_sem] aop aopc aopd aBSliceD aSlice aSliceC boundOf aMk evT upd_def aCall aCallC aLenL aLen aPick_t aPick_f aNil aAlloc aBox aBuild bldPV aBSlice bsPV aApp newsOf destOf drp aConvX aConv aConvInt aLoad cellsAt aStore cellsPV setAt aFld aField aIdx aIndex aUn aBin' aBin aMax aExtract pvOf PV.isCell nmbL PV.nmb List.map_cons List.map_nil List.all_cons List.all_nil Bool.and_true Bool.true_and if_true if_false List.getD_cons_zero List.getD_cons_succ List.getD_nil Option.isSome_some true_and and_true and_self eq_self true_or or_true List.drop_zero List.drop_succ_cons List.drop_nil List.take_zero List.take_succ_cons List.take_nil List.length_cons List.length_nil List.length_map Option.getD_some Option.getD_none List.nil_append List.cons_append List.append_nil Option.some.injEq exists_eq_left' List.getElem?_cons_zero List.getElem?_cons_succ Int.toNat_natCast Int.natCast_inj toNat_succ Nat.zero_add res res1 resC owns owns1 ownsC List.flatMap_cons List.flatMap_nil List.flatten_cons List.flatten_nil List.mem_cons List.not_mem_nil or_false false_or forall_eq forall_eq_or_imp isFro frz frz1 pureC tabA isBld List.cons.injEq PV.seq.injEq PV.int.injEq PV.str.injEq PV.bool.injEq PV.agg.injEq inR tab Γof aRes packR Option.map_some Option.map_none rel Prod.exists exists_and_left exists_eq_left and_assoc beq_self_eq_true Bool.not_true Bool.not_false decide_true decide_false List.set_cons_zero List.set_cons_succ rst_nil rst_cons
set_option maxRecDepth 100000
set_option linter.unusedVariables false
set_option linter.unusedSimpArgs false
open Go.RowKit

def lvS10_51 : Nat → List Nat
  | 0 => [0]
  | 1 => [2]
  | _ => []
def lvS10_52 : Nat → List Nat
  | 0 => [0]
  | 1 => [2]
  | _ => []
def lvS10_53 : Nat → List Nat
  | 0 => [0]
  | 1 => [0, 7]
  | 2 => [2]
  | 3 => [3, 4]
  | 4 => [3, 20]
  | 5 => [2]
  | 6 => [2]
  | _ => []
def lvS10_54 : Nat → List Nat
  | 0 => [0]
  | 1 => [0, 7]
  | 2 => [2]
  | 3 => [3, 4]
  | 4 => [4, 20]
  | 5 => [2]
  | 6 => [2]
  | _ => []
def lvS10_56 : Nat → List Nat
  | 0 => [1, 2, 4]
  | 1 => [1, 2, 4, 12]
  | 2 => [4]
  | 3 => [4]
  | _ => []
def lvS10_58 : Nat → List Nat
  | 0 => [1, 2, 4]
  | 1 => [1, 2, 4, 12]
  | 2 => [4]
  | 3 => [4]
  | _ => []
--LV=S10
@[go_sem] def fliQ : PC := rel (α := St × List PartD) (fun x => [.agg (encS x.1), .seq (encPs x.2)]) (fun x => wtL x.2 ≤ 1099511627776 ∧ stV x.1 = true ∧ ∃ d b, gdL d b x.2 = true) (fun x => .tup [.agg (encS (stI x.1 x.2)), .int .i64 (fltL x.1 x.2).2])
@[go_sem] def flsQ : PC := rel (α := St × List PartD) (fun x => [.agg (encS x.1), .seq (encPs x.2)]) (fun x => wtL x.2 ≤ 1099511627776 ∧ stV x.1 = true ∧ ∃ d b, gdL d b x.2 = true) (fun x => .tup [.int .i64 (fltL x.1 x.2).2, .agg (encS (fltL x.1 x.2).1)])
@[go_sem] def cpC : PC := rel (α := St × List PartD) (fun x => [.agg (encS x.1), .seq (encPs x.2)]) (fun x => wtL x.2 ≤ 4294967280 ∧ okS x.1) (fun x => .agg (encS (checkM x.1 x.2)))
theorem parts_gd {xs : List PartD} (h : partsB xs = true) : ∃ d b, gdL d b xs = true := by
  unfold partsB at h
  simp only [Bool.and_eq_true] at h
  exact ⟨_, _, h.2⟩
theorem encS_st0 : [PV.int .i64 0, PV.str [], PV.str [], PV.bool false] = encS st0 := rfl
theorem ok_of {s : St} {xs : List PartD} (h : stV s = true) (hb : wtL xs ≤ 4294967280) (hp : partsB xs = true) : wtL xs ≤ 1099511627776 ∧ stV s = true ∧ ∃ d b, gdL d b xs = true := ⟨by omega, h, parts_gd hp⟩
theorem chk_ic : PureOk Try.prog 109 chkQ := rel_all (fun x : St × List PartD => wtL x.2) chk_i
theorem cp_i : PureOk Try.prog 58 cpC := by
  refine pure_rel 2 (tab_cons chk_ic (tab_cons pv_i (tab_cons sv_i tab_nil))) mixed [.cell 4 47] Try.func58 rfl rfl (by kernel_rfl) (by kernel_rfl) (fun _ => rfl) (by kernel_rfl) ?_
  rintro ⟨s, xs⟩ K ⟨hb, hok⟩ hK
  dsimp only at *
  unfold checkM at hK
  unfold entry
  cases hp : partsB xs
  · repeat' (first | (refine qwd fun K hk => ?_; simp only [lvS10_58, mkT, go_sem, ↓upd_def, ↓evT, ↓aop, ↓aopc, ↓aopd, Nat.reduceEqDiff, Nat.reduceAdd, Nat.reduceLeDiff, Nat.reduceLT, Nat.reduceSub, Int.reduceToNat, ↓reduceIte, reduceCtorEq, encS_eq, ex_St, St_eta, hp, Bool.not_false]; apply hk; clear hk K) | refine qw8 ?_ | refine qw1 ?_ | refine qwc lvS10_58 ?_ | refine qt1 ?_ | refine qw5 ?_ | refine qw2 ?_ | refine qw9 ?_ | refine qt2 ?_ | refine qt3 ?_ | refine qt4 ?_ | refine qt5 ?_ | refine qt6 ?_ | refine qw3 ?_ | refine qw4 ?_ | refine qj1 ?_ | refine qj2 ?_ | refine qj3 ?_ | refine qj4 ?_ | refine qj5 ?_ | refine qu1 ?_ | refine qu2 ?_ | refine qne ?_ | refine qyn ?_ | refine qyz ?_ | refine qy0 ?_ | refine qnt rfl rfl ?_ | refine qnf rfl rfl ?_ | refine qyc rfl ?_ | refine qy1 rfl ?_ | refine qy2 rfl ?_ ?_ | ((first | refine qa1 fun K hk => ?_ | refine qa2 fun K hk => ?_ | refine qa3 fun K hk => ?_ | refine qh1 fun K hk => ?_ | refine qh2 fun K hk => ?_ | refine qm1 fun K hk => ?_ | refine qm2 fun K hk => ?_ | refine qm3 fun K hk => ?_); simp only [go_sem, ↓upd_def, ↓evT, ↓aop, ↓aopc, ↓aopd, Nat.reduceEqDiff, Nat.reduceAdd, Nat.reduceLeDiff, Nat.reduceLT, Nat.reduceSub, Int.reduceToNat, ↓reduceIte, reduceCtorEq, encS_eq, ex_St, St_eta, hp, Bool.not_false]; (repeat (refine And.intro ?_ ?_; focus (first | omega | assumption | with_reducible rfl | (simp only [go_sem, ↓upd_def, ↓evT, ↓aop, ↓aopc, ↓aopd, Nat.reduceEqDiff, Nat.reduceAdd, Nat.reduceLeDiff, Nat.reduceLT, Nat.reduceSub, Int.reduceToNat, ↓reduceIte, reduceCtorEq, encS_eq, ex_St, St_eta, hp, Bool.not_false]; done)))); intros; apply hk; clear hk K) | ((first | apply qg1 rfl | apply qcd); focus (simp only [go_sem, ↓upd_def, ↓evT, ↓aop, ↓aopc, ↓aopd, Nat.reduceEqDiff, Nat.reduceAdd, Nat.reduceLeDiff, Nat.reduceLT, Nat.reduceSub, Int.reduceToNat, ↓reduceIte, reduceCtorEq, encS_eq, ex_St, St_eta, hp, Bool.not_false]; exact rfl)) | (refine qj6 ?_ ?_ <;> intro hc <;> (try simp only [hc]) <;> (try simp only [decide_eq_true_eq, decide_eq_false_iff_not, Bool.not_eq_true', Bool.not_eq_false', Bool.not_eq_true, reduceCtorEq] at hc) <;> (try (exfalso; omega))) | (refine qk1 ?_ ?_; focus (repeat (first | exact qsub0 | (refine qsub1 ?_ ?_; focus (simp only [go_sem, ↓upd_def, ↓evT, ↓aop, ↓aopc, ↓aopd, Nat.reduceEqDiff, Nat.reduceAdd, Nat.reduceLeDiff, Nat.reduceLT, Nat.reduceSub, Int.reduceToNat, ↓reduceIte, reduceCtorEq, encS_eq, ex_St, St_eta, hp, Bool.not_false]))))) | (refine qt7 ?_ ?_; focus decide) | (refine qw7 ?_ ?_ ?_; (focus (decide +kernel)); (focus (decide +kernel))))
    ((first | refine fin_ret ?_ | refine fin_end ?_); simp only [go_sem, ↓upd_def, Nat.reduceEqDiff, Nat.reduceAdd, ↓reduceIte, reduceCtorEq])
    rw [hp] at hK
    exact ⟨by omega, hK⟩
  cases hs : stV s
  · repeat' (first | (refine qwd fun K hk => ?_; simp only [lvS10_58, mkT, go_sem, ↓upd_def, ↓evT, ↓aop, ↓aopc, ↓aopd, Nat.reduceEqDiff, Nat.reduceAdd, Nat.reduceLeDiff, Nat.reduceLT, Nat.reduceSub, Int.reduceToNat, ↓reduceIte, reduceCtorEq, encS_eq, ex_St, St_eta, hp, hs, Bool.not_false, Bool.not_true]; apply hk; clear hk K) | refine qw8 ?_ | refine qw1 ?_ | refine qwc lvS10_58 ?_ | refine qt1 ?_ | refine qw5 ?_ | refine qw2 ?_ | refine qw9 ?_ | refine qt2 ?_ | refine qt3 ?_ | refine qt4 ?_ | refine qt5 ?_ | refine qt6 ?_ | refine qw3 ?_ | refine qw4 ?_ | refine qj1 ?_ | refine qj2 ?_ | refine qj3 ?_ | refine qj4 ?_ | refine qj5 ?_ | refine qu1 ?_ | refine qu2 ?_ | refine qne ?_ | refine qyn ?_ | refine qyz ?_ | refine qy0 ?_ | refine qnt rfl rfl ?_ | refine qnf rfl rfl ?_ | refine qyc rfl ?_ | refine qy1 rfl ?_ | refine qy2 rfl ?_ ?_ | ((first | refine qa1 fun K hk => ?_ | refine qa2 fun K hk => ?_ | refine qa3 fun K hk => ?_ | refine qh1 fun K hk => ?_ | refine qh2 fun K hk => ?_ | refine qm1 fun K hk => ?_ | refine qm2 fun K hk => ?_ | refine qm3 fun K hk => ?_); simp only [go_sem, ↓upd_def, ↓evT, ↓aop, ↓aopc, ↓aopd, Nat.reduceEqDiff, Nat.reduceAdd, Nat.reduceLeDiff, Nat.reduceLT, Nat.reduceSub, Int.reduceToNat, ↓reduceIte, reduceCtorEq, encS_eq, ex_St, St_eta, hp, hs, Bool.not_false, Bool.not_true]; (repeat (refine And.intro ?_ ?_; focus (first | omega | assumption | with_reducible rfl | (simp only [go_sem, ↓upd_def, ↓evT, ↓aop, ↓aopc, ↓aopd, Nat.reduceEqDiff, Nat.reduceAdd, Nat.reduceLeDiff, Nat.reduceLT, Nat.reduceSub, Int.reduceToNat, ↓reduceIte, reduceCtorEq, encS_eq, ex_St, St_eta, hp, hs, Bool.not_false, Bool.not_true]; done)))); intros; apply hk; clear hk K) | ((first | apply qg1 rfl | apply qcd); focus (simp only [go_sem, ↓upd_def, ↓evT, ↓aop, ↓aopc, ↓aopd, Nat.reduceEqDiff, Nat.reduceAdd, Nat.reduceLeDiff, Nat.reduceLT, Nat.reduceSub, Int.reduceToNat, ↓reduceIte, reduceCtorEq, encS_eq, ex_St, St_eta, hp, hs, Bool.not_false, Bool.not_true]; exact rfl)) | (refine qj6 ?_ ?_ <;> intro hc <;> (try simp only [hc]) <;> (try simp only [decide_eq_true_eq, decide_eq_false_iff_not, Bool.not_eq_true', Bool.not_eq_false', Bool.not_eq_true, reduceCtorEq] at hc) <;> (try (exfalso; omega))) | (refine qk1 ?_ ?_; focus (repeat (first | exact qsub0 | (refine qsub1 ?_ ?_; focus (simp only [go_sem, ↓upd_def, ↓evT, ↓aop, ↓aopc, ↓aopd, Nat.reduceEqDiff, Nat.reduceAdd, Nat.reduceLeDiff, Nat.reduceLT, Nat.reduceSub, Int.reduceToNat, ↓reduceIte, reduceCtorEq, encS_eq, ex_St, St_eta, hp, hs, Bool.not_false, Bool.not_true]))))) | (refine qt7 ?_ ?_; focus decide) | (refine qw7 ?_ ?_ ?_; (focus (decide +kernel)); (focus (decide +kernel))))
    ((first | refine fin_ret ?_ | refine fin_end ?_); simp only [go_sem, ↓upd_def, Nat.reduceEqDiff, Nat.reduceAdd, ↓reduceIte, reduceCtorEq])
    rw [hs] at hK
    simp only [Bool.false_eq_true, and_false, if_false] at hK
    exact ⟨by omega, hK⟩
  rw [hs, hp] at hK
  simp only [and_self, if_true] at hK
  obtain ⟨hh1, hh2, hh3⟩ := ok_of hs hb hp
  repeat' (first | (refine qwd fun K hk => ?_; simp only [lvS10_58, mkT, go_sem, ↓upd_def, ↓evT, ↓aop, ↓aopc, ↓aopd, Nat.reduceEqDiff, Nat.reduceAdd, Nat.reduceLeDiff, Nat.reduceLT, Nat.reduceSub, Int.reduceToNat, ↓reduceIte, reduceCtorEq, encS_eq, ex_St, St_eta, hp, hs, Bool.not_false, Bool.not_true]; apply hk; clear hk K) | refine qw8 ?_ | refine qw1 ?_ | refine qwc lvS10_58 ?_ | refine qt1 ?_ | refine qw5 ?_ | refine qw2 ?_ | refine qw9 ?_ | refine qt2 ?_ | refine qt3 ?_ | refine qt4 ?_ | refine qt5 ?_ | refine qt6 ?_ | refine qw3 ?_ | refine qw4 ?_ | refine qj1 ?_ | refine qj2 ?_ | refine qj3 ?_ | refine qj4 ?_ | refine qj5 ?_ | refine qu1 ?_ | refine qu2 ?_ | refine qne ?_ | refine qyn ?_ | refine qyz ?_ | refine qy0 ?_ | refine qnt rfl rfl ?_ | refine qnf rfl rfl ?_ | refine qyc rfl ?_ | refine qy1 rfl ?_ | refine qy2 rfl ?_ ?_ | ((first | refine qa1 fun K hk => ?_ | refine qa2 fun K hk => ?_ | refine qa3 fun K hk => ?_ | refine qh1 fun K hk => ?_ | refine qh2 fun K hk => ?_ | refine qm1 fun K hk => ?_ | refine qm2 fun K hk => ?_ | refine qm3 fun K hk => ?_); simp only [go_sem, ↓upd_def, ↓evT, ↓aop, ↓aopc, ↓aopd, Nat.reduceEqDiff, Nat.reduceAdd, Nat.reduceLeDiff, Nat.reduceLT, Nat.reduceSub, Int.reduceToNat, ↓reduceIte, reduceCtorEq, encS_eq, ex_St, St_eta, hp, hs, Bool.not_false, Bool.not_true]; (repeat (refine And.intro ?_ ?_; focus (first | omega | assumption | with_reducible rfl | (simp only [go_sem, ↓upd_def, ↓evT, ↓aop, ↓aopc, ↓aopd, Nat.reduceEqDiff, Nat.reduceAdd, Nat.reduceLeDiff, Nat.reduceLT, Nat.reduceSub, Int.reduceToNat, ↓reduceIte, reduceCtorEq, encS_eq, ex_St, St_eta, hp, hs, Bool.not_false, Bool.not_true]; done)))); intros; apply hk; clear hk K) | ((first | apply qg1 rfl | apply qcd); focus (simp only [go_sem, ↓upd_def, ↓evT, ↓aop, ↓aopc, ↓aopd, Nat.reduceEqDiff, Nat.reduceAdd, Nat.reduceLeDiff, Nat.reduceLT, Nat.reduceSub, Int.reduceToNat, ↓reduceIte, reduceCtorEq, encS_eq, ex_St, St_eta, hp, hs, Bool.not_false, Bool.not_true]; exact rfl)) | (refine qj6 ?_ ?_ <;> intro hc <;> (try simp only [hc]) <;> (try simp only [decide_eq_true_eq, decide_eq_false_iff_not, Bool.not_eq_true', Bool.not_eq_false', Bool.not_eq_true, reduceCtorEq] at hc) <;> (try (exfalso; omega))) | (refine qk1 ?_ ?_; focus (repeat (first | exact qsub0 | (refine qsub1 ?_ ?_; focus (simp only [go_sem, ↓upd_def, ↓evT, ↓aop, ↓aopc, ↓aopd, Nat.reduceEqDiff, Nat.reduceAdd, Nat.reduceLeDiff, Nat.reduceLT, Nat.reduceSub, Int.reduceToNat, ↓reduceIte, reduceCtorEq, encS_eq, ex_St, St_eta, hp, hs, Bool.not_false, Bool.not_true]))))) | (refine qt7 ?_ ?_; focus decide) | (refine qw7 ?_ ?_ ?_; (focus (decide +kernel)); (focus (decide +kernel))))
  ((first | refine fin_ret ?_ | refine fin_end ?_); simp only [go_sem, ↓upd_def, Nat.reduceEqDiff, Nat.reduceAdd, ↓reduceIte, reduceCtorEq])
  exact ⟨by omega, hK⟩
theorem chk_sc : PureOk Try.prog 112 chkQ := rel_all (fun x : St × List PartD => wtL x.2) chk_s
theorem cp_s : PureOk Try.prog 56 cpC := by
  refine pure_rel 2 (tab_cons chk_sc (tab_cons pv_s (tab_cons sv_s tab_nil))) mixed [.cell 4 47] Try.func56 rfl rfl (by kernel_rfl) (by kernel_rfl) (fun _ => rfl) (by kernel_rfl) ?_
  rintro ⟨s, xs⟩ K ⟨hb, hok⟩ hK
  dsimp only at *
  unfold checkM at hK
  unfold entry
  cases hs : stV s
  · repeat' (first | (refine qwd fun K hk => ?_; simp only [lvS10_56, mkT, go_sem, ↓upd_def, ↓evT, ↓aop, ↓aopc, ↓aopd, Nat.reduceEqDiff, Nat.reduceAdd, Nat.reduceLeDiff, Nat.reduceLT, Nat.reduceSub, Int.reduceToNat, ↓reduceIte, reduceCtorEq, encS_eq, ex_St, St_eta, hs, Bool.not_false, Bool.not_true]; apply hk; clear hk K) | refine qw8 ?_ | refine qw1 ?_ | refine qwc lvS10_56 ?_ | refine qt1 ?_ | refine qw5 ?_ | refine qw2 ?_ | refine qw9 ?_ | refine qt2 ?_ | refine qt3 ?_ | refine qt4 ?_ | refine qt5 ?_ | refine qt6 ?_ | refine qw3 ?_ | refine qw4 ?_ | refine qj1 ?_ | refine qj2 ?_ | refine qj3 ?_ | refine qj4 ?_ | refine qj5 ?_ | refine qu1 ?_ | refine qu2 ?_ | refine qne ?_ | refine qyn ?_ | refine qyz ?_ | refine qy0 ?_ | refine qnt rfl rfl ?_ | refine qnf rfl rfl ?_ | refine qyc rfl ?_ | refine qy1 rfl ?_ | refine qy2 rfl ?_ ?_ | ((first | refine qa1 fun K hk => ?_ | refine qa2 fun K hk => ?_ | refine qa3 fun K hk => ?_ | refine qh1 fun K hk => ?_ | refine qh2 fun K hk => ?_ | refine qm1 fun K hk => ?_ | refine qm2 fun K hk => ?_ | refine qm3 fun K hk => ?_); simp only [go_sem, ↓upd_def, ↓evT, ↓aop, ↓aopc, ↓aopd, Nat.reduceEqDiff, Nat.reduceAdd, Nat.reduceLeDiff, Nat.reduceLT, Nat.reduceSub, Int.reduceToNat, ↓reduceIte, reduceCtorEq, encS_eq, ex_St, St_eta, hs, Bool.not_false, Bool.not_true]; (repeat (refine And.intro ?_ ?_; focus (first | omega | assumption | with_reducible rfl | (simp only [go_sem, ↓upd_def, ↓evT, ↓aop, ↓aopc, ↓aopd, Nat.reduceEqDiff, Nat.reduceAdd, Nat.reduceLeDiff, Nat.reduceLT, Nat.reduceSub, Int.reduceToNat, ↓reduceIte, reduceCtorEq, encS_eq, ex_St, St_eta, hs, Bool.not_false, Bool.not_true]; done)))); intros; apply hk; clear hk K) | ((first | apply qg1 rfl | apply qcd); focus (simp only [go_sem, ↓upd_def, ↓evT, ↓aop, ↓aopc, ↓aopd, Nat.reduceEqDiff, Nat.reduceAdd, Nat.reduceLeDiff, Nat.reduceLT, Nat.reduceSub, Int.reduceToNat, ↓reduceIte, reduceCtorEq, encS_eq, ex_St, St_eta, hs, Bool.not_false, Bool.not_true]; exact rfl)) | (refine qj6 ?_ ?_ <;> intro hc <;> (try simp only [hc]) <;> (try simp only [decide_eq_true_eq, decide_eq_false_iff_not, Bool.not_eq_true', Bool.not_eq_false', Bool.not_eq_true, reduceCtorEq] at hc) <;> (try (exfalso; omega))) | (refine qk1 ?_ ?_; focus (repeat (first | exact qsub0 | (refine qsub1 ?_ ?_; focus (simp only [go_sem, ↓upd_def, ↓evT, ↓aop, ↓aopc, ↓aopd, Nat.reduceEqDiff, Nat.reduceAdd, Nat.reduceLeDiff, Nat.reduceLT, Nat.reduceSub, Int.reduceToNat, ↓reduceIte, reduceCtorEq, encS_eq, ex_St, St_eta, hs, Bool.not_false, Bool.not_true]))))) | (refine qt7 ?_ ?_; focus decide) | (refine qw7 ?_ ?_ ?_; (focus (decide +kernel)); (focus (decide +kernel))))
    ((first | refine fin_ret ?_ | refine fin_end ?_); simp only [go_sem, ↓upd_def, Nat.reduceEqDiff, Nat.reduceAdd, ↓reduceIte, reduceCtorEq])
    rw [hs] at hK
    simp only [Bool.false_eq_true, and_false, if_false] at hK
    exact ⟨by omega, hK⟩
  cases hp : partsB xs
  · repeat' (first | (refine qwd fun K hk => ?_; simp only [lvS10_56, mkT, go_sem, ↓upd_def, ↓evT, ↓aop, ↓aopc, ↓aopd, Nat.reduceEqDiff, Nat.reduceAdd, Nat.reduceLeDiff, Nat.reduceLT, Nat.reduceSub, Int.reduceToNat, ↓reduceIte, reduceCtorEq, encS_eq, ex_St, St_eta, hp, hs, Bool.not_false, Bool.not_true]; apply hk; clear hk K) | refine qw8 ?_ | refine qw1 ?_ | refine qwc lvS10_56 ?_ | refine qt1 ?_ | refine qw5 ?_ | refine qw2 ?_ | refine qw9 ?_ | refine qt2 ?_ | refine qt3 ?_ | refine qt4 ?_ | refine qt5 ?_ | refine qt6 ?_ | refine qw3 ?_ | refine qw4 ?_ | refine qj1 ?_ | refine qj2 ?_ | refine qj3 ?_ | refine qj4 ?_ | refine qj5 ?_ | refine qu1 ?_ | refine qu2 ?_ | refine qne ?_ | refine qyn ?_ | refine qyz ?_ | refine qy0 ?_ | refine qnt rfl rfl ?_ | refine qnf rfl rfl ?_ | refine qyc rfl ?_ | refine qy1 rfl ?_ | refine qy2 rfl ?_ ?_ | ((first | refine qa1 fun K hk => ?_ | refine qa2 fun K hk => ?_ | refine qa3 fun K hk => ?_ | refine qh1 fun K hk => ?_ | refine qh2 fun K hk => ?_ | refine qm1 fun K hk => ?_ | refine qm2 fun K hk => ?_ | refine qm3 fun K hk => ?_); simp only [go_sem, ↓upd_def, ↓evT, ↓aop, ↓aopc, ↓aopd, Nat.reduceEqDiff, Nat.reduceAdd, Nat.reduceLeDiff, Nat.reduceLT, Nat.reduceSub, Int.reduceToNat, ↓reduceIte, reduceCtorEq, encS_eq, ex_St, St_eta, hp, hs, Bool.not_false, Bool.not_true]; (repeat (refine And.intro ?_ ?_; focus (first | omega | assumption | with_reducible rfl | (simp only [go_sem, ↓upd_def, ↓evT, ↓aop, ↓aopc, ↓aopd, Nat.reduceEqDiff, Nat.reduceAdd, Nat.reduceLeDiff, Nat.reduceLT, Nat.reduceSub, Int.reduceToNat, ↓reduceIte, reduceCtorEq, encS_eq, ex_St, St_eta, hp, hs, Bool.not_false, Bool.not_true]; done)))); intros; apply hk; clear hk K) | ((first | apply qg1 rfl | apply qcd); focus (simp only [go_sem, ↓upd_def, ↓evT, ↓aop, ↓aopc, ↓aopd, Nat.reduceEqDiff, Nat.reduceAdd, Nat.reduceLeDiff, Nat.reduceLT, Nat.reduceSub, Int.reduceToNat, ↓reduceIte, reduceCtorEq, encS_eq, ex_St, St_eta, hp, hs, Bool.not_false, Bool.not_true]; exact rfl)) | (refine qj6 ?_ ?_ <;> intro hc <;> (try simp only [hc]) <;> (try simp only [decide_eq_true_eq, decide_eq_false_iff_not, Bool.not_eq_true', Bool.not_eq_false', Bool.not_eq_true, reduceCtorEq] at hc) <;> (try (exfalso; omega))) | (refine qk1 ?_ ?_; focus (repeat (first | exact qsub0 | (refine qsub1 ?_ ?_; focus (simp only [go_sem, ↓upd_def, ↓evT, ↓aop, ↓aopc, ↓aopd, Nat.reduceEqDiff, Nat.reduceAdd, Nat.reduceLeDiff, Nat.reduceLT, Nat.reduceSub, Int.reduceToNat, ↓reduceIte, reduceCtorEq, encS_eq, ex_St, St_eta, hp, hs, Bool.not_false, Bool.not_true]))))) | (refine qt7 ?_ ?_; focus decide) | (refine qw7 ?_ ?_ ?_; (focus (decide +kernel)); (focus (decide +kernel))))
    ((first | refine fin_ret ?_ | refine fin_end ?_); simp only [go_sem, ↓upd_def, Nat.reduceEqDiff, Nat.reduceAdd, ↓reduceIte, reduceCtorEq])
    rw [hp] at hK
    exact ⟨by omega, hK⟩
  rw [hs, hp] at hK
  simp only [and_self, if_true] at hK
  obtain ⟨hh1, hh2, hh3⟩ := ok_of hs hb hp
  repeat' (first | (refine qwd fun K hk => ?_; simp only [lvS10_56, mkT, go_sem, ↓upd_def, ↓evT, ↓aop, ↓aopc, ↓aopd, Nat.reduceEqDiff, Nat.reduceAdd, Nat.reduceLeDiff, Nat.reduceLT, Nat.reduceSub, Int.reduceToNat, ↓reduceIte, reduceCtorEq, encS_eq, ex_St, St_eta, hp, hs, Bool.not_false, Bool.not_true]; apply hk; clear hk K) | refine qw8 ?_ | refine qw1 ?_ | refine qwc lvS10_56 ?_ | refine qt1 ?_ | refine qw5 ?_ | refine qw2 ?_ | refine qw9 ?_ | refine qt2 ?_ | refine qt3 ?_ | refine qt4 ?_ | refine qt5 ?_ | refine qt6 ?_ | refine qw3 ?_ | refine qw4 ?_ | refine qj1 ?_ | refine qj2 ?_ | refine qj3 ?_ | refine qj4 ?_ | refine qj5 ?_ | refine qu1 ?_ | refine qu2 ?_ | refine qne ?_ | refine qyn ?_ | refine qyz ?_ | refine qy0 ?_ | refine qnt rfl rfl ?_ | refine qnf rfl rfl ?_ | refine qyc rfl ?_ | refine qy1 rfl ?_ | refine qy2 rfl ?_ ?_ | ((first | refine qa1 fun K hk => ?_ | refine qa2 fun K hk => ?_ | refine qa3 fun K hk => ?_ | refine qh1 fun K hk => ?_ | refine qh2 fun K hk => ?_ | refine qm1 fun K hk => ?_ | refine qm2 fun K hk => ?_ | refine qm3 fun K hk => ?_); simp only [go_sem, ↓upd_def, ↓evT, ↓aop, ↓aopc, ↓aopd, Nat.reduceEqDiff, Nat.reduceAdd, Nat.reduceLeDiff, Nat.reduceLT, Nat.reduceSub, Int.reduceToNat, ↓reduceIte, reduceCtorEq, encS_eq, ex_St, St_eta, hp, hs, Bool.not_false, Bool.not_true]; (repeat (refine And.intro ?_ ?_; focus (first | omega | assumption | with_reducible rfl | (simp only [go_sem, ↓upd_def, ↓evT, ↓aop, ↓aopc, ↓aopd, Nat.reduceEqDiff, Nat.reduceAdd, Nat.reduceLeDiff, Nat.reduceLT, Nat.reduceSub, Int.reduceToNat, ↓reduceIte, reduceCtorEq, encS_eq, ex_St, St_eta, hp, hs, Bool.not_false, Bool.not_true]; done)))); intros; apply hk; clear hk K) | ((first | apply qg1 rfl | apply qcd); focus (simp only [go_sem, ↓upd_def, ↓evT, ↓aop, ↓aopc, ↓aopd, Nat.reduceEqDiff, Nat.reduceAdd, Nat.reduceLeDiff, Nat.reduceLT, Nat.reduceSub, Int.reduceToNat, ↓reduceIte, reduceCtorEq, encS_eq, ex_St, St_eta, hp, hs, Bool.not_false, Bool.not_true]; exact rfl)) | (refine qj6 ?_ ?_ <;> intro hc <;> (try simp only [hc]) <;> (try simp only [decide_eq_true_eq, decide_eq_false_iff_not, Bool.not_eq_true', Bool.not_eq_false', Bool.not_eq_true, reduceCtorEq] at hc) <;> (try (exfalso; omega))) | (refine qk1 ?_ ?_; focus (repeat (first | exact qsub0 | (refine qsub1 ?_ ?_; focus (simp only [go_sem, ↓upd_def, ↓evT, ↓aop, ↓aopc, ↓aopd, Nat.reduceEqDiff, Nat.reduceAdd, Nat.reduceLeDiff, Nat.reduceLT, Nat.reduceSub, Int.reduceToNat, ↓reduceIte, reduceCtorEq, encS_eq, ex_St, St_eta, hp, hs, Bool.not_false, Bool.not_true]))))) | (refine qt7 ?_ ?_; focus decide) | (refine qw7 ?_ ?_ ?_; (focus (decide +kernel)); (focus (decide +kernel))))
  ((first | refine fin_ret ?_ | refine fin_end ?_); simp only [go_sem, ↓upd_def, Nat.reduceEqDiff, Nat.reduceAdd, ↓reduceIte, reduceCtorEq])
  exact ⟨by omega, hK⟩
theorem ok_of0 {xs : List PartD} (hb : wtL xs ≤ 4294967280) (hp : partsB xs = true) : wtL xs ≤ 1099511627776 ∧ stV st0 = true ∧ ∃ d b, gdL d b xs = true := ok_of stV_st0 hb hp
theorem ts_i : PureOk Try.prog 52 (parV fun x => .bool (safeM x)) := by
  refine pure_rel 1 (tab_cons chk_ic (tab_cons pv_i tab_nil)) mixed [.tmp 2] Try.func52 rfl rfl (by kernel_rfl) (by kernel_rfl) (fun _ => rfl) (by kernel_rfl) ?_
  rintro xs K hb hK
  unfold safeM at hK
  unfold entry
  cases hp : partsB xs
  · repeat' (first | (refine qwd fun K hk => ?_; simp only [lvS10_52, mkT, go_sem, ↓upd_def, ↓evT, ↓aop, ↓aopc, ↓aopd, Nat.reduceEqDiff, Nat.reduceAdd, Nat.reduceLeDiff, Nat.reduceLT, Nat.reduceSub, Int.reduceToNat, ↓reduceIte, reduceCtorEq, encS_st0, ex_St, St_eta, hp, Bool.not_false]; apply hk; clear hk K) | refine qw8 ?_ | refine qw1 ?_ | refine qwc lvS10_52 ?_ | refine qt1 ?_ | refine qw5 ?_ | refine qw2 ?_ | refine qw9 ?_ | refine qt2 ?_ | refine qt3 ?_ | refine qt4 ?_ | refine qt5 ?_ | refine qt6 ?_ | refine qw3 ?_ | refine qw4 ?_ | refine qj1 ?_ | refine qj2 ?_ | refine qj3 ?_ | refine qj4 ?_ | refine qj5 ?_ | refine qu1 ?_ | refine qu2 ?_ | refine qne ?_ | refine qyn ?_ | refine qyz ?_ | refine qy0 ?_ | refine qnt rfl rfl ?_ | refine qnf rfl rfl ?_ | refine qyc rfl ?_ | refine qy1 rfl ?_ | refine qy2 rfl ?_ ?_ | ((first | refine qa1 fun K hk => ?_ | refine qa2 fun K hk => ?_ | refine qa3 fun K hk => ?_ | refine qh1 fun K hk => ?_ | refine qh2 fun K hk => ?_ | refine qm1 fun K hk => ?_ | refine qm2 fun K hk => ?_ | refine qm3 fun K hk => ?_); simp only [go_sem, ↓upd_def, ↓evT, ↓aop, ↓aopc, ↓aopd, Nat.reduceEqDiff, Nat.reduceAdd, Nat.reduceLeDiff, Nat.reduceLT, Nat.reduceSub, Int.reduceToNat, ↓reduceIte, reduceCtorEq, encS_st0, ex_St, St_eta, hp, Bool.not_false]; (repeat (refine And.intro ?_ ?_; focus (first | omega | assumption | with_reducible rfl | (simp only [go_sem, ↓upd_def, ↓evT, ↓aop, ↓aopc, ↓aopd, Nat.reduceEqDiff, Nat.reduceAdd, Nat.reduceLeDiff, Nat.reduceLT, Nat.reduceSub, Int.reduceToNat, ↓reduceIte, reduceCtorEq, encS_st0, ex_St, St_eta, hp, Bool.not_false]; done)))); intros; apply hk; clear hk K) | ((first | apply qg1 rfl | apply qcd); focus (simp only [go_sem, ↓upd_def, ↓evT, ↓aop, ↓aopc, ↓aopd, Nat.reduceEqDiff, Nat.reduceAdd, Nat.reduceLeDiff, Nat.reduceLT, Nat.reduceSub, Int.reduceToNat, ↓reduceIte, reduceCtorEq, encS_st0, ex_St, St_eta, hp, Bool.not_false]; exact rfl)) | (refine qj6 ?_ ?_ <;> intro hc <;> (try simp only [hc]) <;> (try simp only [decide_eq_true_eq, decide_eq_false_iff_not, Bool.not_eq_true', Bool.not_eq_false', Bool.not_eq_true, reduceCtorEq] at hc) <;> (try (exfalso; omega))) | (refine qk1 ?_ ?_; focus (repeat (first | exact qsub0 | (refine qsub1 ?_ ?_; focus (simp only [go_sem, ↓upd_def, ↓evT, ↓aop, ↓aopc, ↓aopd, Nat.reduceEqDiff, Nat.reduceAdd, Nat.reduceLeDiff, Nat.reduceLT, Nat.reduceSub, Int.reduceToNat, ↓reduceIte, reduceCtorEq, encS_st0, ex_St, St_eta, hp, Bool.not_false]))))) | (refine qt7 ?_ ?_; focus decide) | (refine qw7 ?_ ?_ ?_; (focus (decide +kernel)); (focus (decide +kernel))))
    ((first | refine fin_ret ?_ | refine fin_end ?_); simp only [go_sem, ↓upd_def, Nat.reduceEqDiff, Nat.reduceAdd, ↓reduceIte, reduceCtorEq])
    rw [hp] at hK
    exact hK
  rw [hp] at hK
  obtain ⟨hh1, hh2, hh3⟩ := ok_of0 hb hp
  repeat' (first | (refine qwd fun K hk => ?_; simp only [lvS10_52, mkT, go_sem, ↓upd_def, ↓evT, ↓aop, ↓aopc, ↓aopd, Nat.reduceEqDiff, Nat.reduceAdd, Nat.reduceLeDiff, Nat.reduceLT, Nat.reduceSub, Int.reduceToNat, ↓reduceIte, reduceCtorEq, encS_st0, encS_eq, ex_St, St_eta, hp, eqSt, Bool.not_false, Bool.not_true]; apply hk; clear hk K) | refine qw8 ?_ | refine qw1 ?_ | refine qwc lvS10_52 ?_ | refine qt1 ?_ | refine qw5 ?_ | refine qw2 ?_ | refine qw9 ?_ | refine qt2 ?_ | refine qt3 ?_ | refine qt4 ?_ | refine qt5 ?_ | refine qt6 ?_ | refine qw3 ?_ | refine qw4 ?_ | refine qj1 ?_ | refine qj2 ?_ | refine qj3 ?_ | refine qj4 ?_ | refine qj5 ?_ | refine qu1 ?_ | refine qu2 ?_ | refine qne ?_ | refine qyn ?_ | refine qyz ?_ | refine qy0 ?_ | refine qnt rfl rfl ?_ | refine qnf rfl rfl ?_ | refine qyc rfl ?_ | refine qy1 rfl ?_ | refine qy2 rfl ?_ ?_ | ((first | refine qa1 fun K hk => ?_ | refine qa2 fun K hk => ?_ | refine qa3 fun K hk => ?_ | refine qh1 fun K hk => ?_ | refine qh2 fun K hk => ?_ | refine qm1 fun K hk => ?_ | refine qm2 fun K hk => ?_ | refine qm3 fun K hk => ?_); simp only [go_sem, ↓upd_def, ↓evT, ↓aop, ↓aopc, ↓aopd, Nat.reduceEqDiff, Nat.reduceAdd, Nat.reduceLeDiff, Nat.reduceLT, Nat.reduceSub, Int.reduceToNat, ↓reduceIte, reduceCtorEq, encS_st0, encS_eq, ex_St, St_eta, hp, eqSt, Bool.not_false, Bool.not_true]; (repeat (refine And.intro ?_ ?_; focus (first | omega | assumption | with_reducible rfl | (simp only [go_sem, ↓upd_def, ↓evT, ↓aop, ↓aopc, ↓aopd, Nat.reduceEqDiff, Nat.reduceAdd, Nat.reduceLeDiff, Nat.reduceLT, Nat.reduceSub, Int.reduceToNat, ↓reduceIte, reduceCtorEq, encS_st0, encS_eq, ex_St, St_eta, hp, eqSt, Bool.not_false, Bool.not_true]; done)))); intros; apply hk; clear hk K) | ((first | apply qg1 rfl | apply qcd); focus (simp only [go_sem, ↓upd_def, ↓evT, ↓aop, ↓aopc, ↓aopd, Nat.reduceEqDiff, Nat.reduceAdd, Nat.reduceLeDiff, Nat.reduceLT, Nat.reduceSub, Int.reduceToNat, ↓reduceIte, reduceCtorEq, encS_st0, encS_eq, ex_St, St_eta, hp, eqSt, Bool.not_false, Bool.not_true]; exact rfl)) | (refine qj6 ?_ ?_ <;> intro hc <;> (try simp only [hc]) <;> (try simp only [decide_eq_true_eq, decide_eq_false_iff_not, Bool.not_eq_true', Bool.not_eq_false', Bool.not_eq_true, reduceCtorEq] at hc) <;> (try (exfalso; omega))) | (refine qk1 ?_ ?_; focus (repeat (first | exact qsub0 | (refine qsub1 ?_ ?_; focus (simp only [go_sem, ↓upd_def, ↓evT, ↓aop, ↓aopc, ↓aopd, Nat.reduceEqDiff, Nat.reduceAdd, Nat.reduceLeDiff, Nat.reduceLT, Nat.reduceSub, Int.reduceToNat, ↓reduceIte, reduceCtorEq, encS_st0, encS_eq, ex_St, St_eta, hp, eqSt, Bool.not_false, Bool.not_true]))))) | (refine qt7 ?_ ?_; focus decide) | (refine qw7 ?_ ?_ ?_; (focus (decide +kernel)); (focus (decide +kernel))))
  ((first | refine fin_ret ?_ | refine fin_end ?_); simp only [go_sem, ↓upd_def, Nat.reduceEqDiff, Nat.reduceAdd, ↓reduceIte, reduceCtorEq])
  exact hK
theorem ts_s : PureOk Try.prog 51 (parV fun x => .bool (safeM x)) := by
  refine pure_rel 1 (tab_cons cp_s tab_nil) mixed [.tmp 2] Try.func51 rfl rfl (by kernel_rfl) (by kernel_rfl) (fun _ => rfl) (by kernel_rfl) ?_
  rintro xs K hb hK
  unfold safeM at hK
  unfold entry
  have hok : okS st0 := okS_of stV_st0
  repeat' (first | (refine qwd fun K hk => ?_; simp only [lvS10_51, mkT, go_sem, ↓upd_def, ↓evT, ↓aop, ↓aopc, ↓aopd, Nat.reduceEqDiff, Nat.reduceAdd, Nat.reduceLeDiff, Nat.reduceLT, Nat.reduceSub, Int.reduceToNat, ↓reduceIte, reduceCtorEq, encS_st0, encS_eq, ex_St, St_eta, eqSt, Bool.not_false, Bool.not_true]; apply hk; clear hk K) | refine qw8 ?_ | refine qw1 ?_ | refine qwc lvS10_51 ?_ | refine qt1 ?_ | refine qw5 ?_ | refine qw2 ?_ | refine qw9 ?_ | refine qt2 ?_ | refine qt3 ?_ | refine qt4 ?_ | refine qt5 ?_ | refine qt6 ?_ | refine qw3 ?_ | refine qw4 ?_ | refine qj1 ?_ | refine qj2 ?_ | refine qj3 ?_ | refine qj4 ?_ | refine qj5 ?_ | refine qu1 ?_ | refine qu2 ?_ | refine qne ?_ | refine qyn ?_ | refine qyz ?_ | refine qy0 ?_ | refine qnt rfl rfl ?_ | refine qnf rfl rfl ?_ | refine qyc rfl ?_ | refine qy1 rfl ?_ | refine qy2 rfl ?_ ?_ | ((first | refine qa1 fun K hk => ?_ | refine qa2 fun K hk => ?_ | refine qa3 fun K hk => ?_ | refine qh1 fun K hk => ?_ | refine qh2 fun K hk => ?_ | refine qm1 fun K hk => ?_ | refine qm2 fun K hk => ?_ | refine qm3 fun K hk => ?_); simp only [go_sem, ↓upd_def, ↓evT, ↓aop, ↓aopc, ↓aopd, Nat.reduceEqDiff, Nat.reduceAdd, Nat.reduceLeDiff, Nat.reduceLT, Nat.reduceSub, Int.reduceToNat, ↓reduceIte, reduceCtorEq, encS_st0, encS_eq, ex_St, St_eta, eqSt, Bool.not_false, Bool.not_true]; (repeat (refine And.intro ?_ ?_; focus (first | omega | assumption | with_reducible rfl | (simp only [go_sem, ↓upd_def, ↓evT, ↓aop, ↓aopc, ↓aopd, Nat.reduceEqDiff, Nat.reduceAdd, Nat.reduceLeDiff, Nat.reduceLT, Nat.reduceSub, Int.reduceToNat, ↓reduceIte, reduceCtorEq, encS_st0, encS_eq, ex_St, St_eta, eqSt, Bool.not_false, Bool.not_true]; done)))); intros; apply hk; clear hk K) | ((first | apply qg1 rfl | apply qcd); focus (simp only [go_sem, ↓upd_def, ↓evT, ↓aop, ↓aopc, ↓aopd, Nat.reduceEqDiff, Nat.reduceAdd, Nat.reduceLeDiff, Nat.reduceLT, Nat.reduceSub, Int.reduceToNat, ↓reduceIte, reduceCtorEq, encS_st0, encS_eq, ex_St, St_eta, eqSt, Bool.not_false, Bool.not_true]; exact rfl)) | (refine qj6 ?_ ?_ <;> intro hc <;> (try simp only [hc]) <;> (try simp only [decide_eq_true_eq, decide_eq_false_iff_not, Bool.not_eq_true', Bool.not_eq_false', Bool.not_eq_true, reduceCtorEq] at hc) <;> (try (exfalso; omega))) | (refine qk1 ?_ ?_; focus (repeat (first | exact qsub0 | (refine qsub1 ?_ ?_; focus (simp only [go_sem, ↓upd_def, ↓evT, ↓aop, ↓aopc, ↓aopd, Nat.reduceEqDiff, Nat.reduceAdd, Nat.reduceLeDiff, Nat.reduceLT, Nat.reduceSub, Int.reduceToNat, ↓reduceIte, reduceCtorEq, encS_st0, encS_eq, ex_St, St_eta, eqSt, Bool.not_false, Bool.not_true]))))) | (refine qt7 ?_ ?_; focus decide) | (refine qw7 ?_ ?_ ?_; (focus (decide +kernel)); (focus (decide +kernel))))
  ((first | refine fin_ret ?_ | refine fin_end ?_); simp only [go_sem, ↓upd_def, Nat.reduceEqDiff, Nat.reduceAdd, ↓reduceIte, reduceCtorEq])
  refine K_bool hK ?_
  unfold checkM
  rw [stV_st0]
  cases partsB xs
  · simp; decide
  · simp
theorem flt_ic : PureOk Try.prog 111 fliQ := rel_all (fun x : St × List PartD => wtL x.2) flt_i
theorem tf_i : PureOk Try.prog 54 (parV fun x => .int .i64 (faultM x)) := by
  refine pure_rel 1 (tab_cons flt_ic (tab_cons pv_i tab_nil)) mixed [.tmp 2] Try.func54 rfl rfl (by kernel_rfl) (by kernel_rfl) (fun _ => rfl) (by kernel_rfl) ?_
  rintro xs K hb hK
  unfold faultM at hK
  unfold entry
  cases hp : partsB xs
  · repeat' (first | (refine qwd fun K hk => ?_; simp only [lvS10_54, mkT, go_sem, ↓upd_def, ↓evT, ↓aop, ↓aopc, ↓aopd, Nat.reduceEqDiff, Nat.reduceAdd, Nat.reduceLeDiff, Nat.reduceLT, Nat.reduceSub, Int.reduceToNat, ↓reduceIte, reduceCtorEq, encS_st0, ex_St, St_eta, hp, Bool.not_false]; apply hk; clear hk K) | refine qw8 ?_ | refine qw1 ?_ | refine qwc lvS10_54 ?_ | refine qt1 ?_ | refine qw5 ?_ | refine qw2 ?_ | refine qw9 ?_ | refine qt2 ?_ | refine qt3 ?_ | refine qt4 ?_ | refine qt5 ?_ | refine qt6 ?_ | refine qw3 ?_ | refine qw4 ?_ | refine qj1 ?_ | refine qj2 ?_ | refine qj3 ?_ | refine qj4 ?_ | refine qj5 ?_ | refine qu1 ?_ | refine qu2 ?_ | refine qne ?_ | refine qyn ?_ | refine qyz ?_ | refine qy0 ?_ | refine qnt rfl rfl ?_ | refine qnf rfl rfl ?_ | refine qyc rfl ?_ | refine qy1 rfl ?_ | refine qy2 rfl ?_ ?_ | ((first | refine qa1 fun K hk => ?_ | refine qa2 fun K hk => ?_ | refine qa3 fun K hk => ?_ | refine qh1 fun K hk => ?_ | refine qh2 fun K hk => ?_ | refine qm1 fun K hk => ?_ | refine qm2 fun K hk => ?_ | refine qm3 fun K hk => ?_); simp only [go_sem, ↓upd_def, ↓evT, ↓aop, ↓aopc, ↓aopd, Nat.reduceEqDiff, Nat.reduceAdd, Nat.reduceLeDiff, Nat.reduceLT, Nat.reduceSub, Int.reduceToNat, ↓reduceIte, reduceCtorEq, encS_st0, ex_St, St_eta, hp, Bool.not_false]; (repeat (refine And.intro ?_ ?_; focus (first | omega | assumption | with_reducible rfl | (simp only [go_sem, ↓upd_def, ↓evT, ↓aop, ↓aopc, ↓aopd, Nat.reduceEqDiff, Nat.reduceAdd, Nat.reduceLeDiff, Nat.reduceLT, Nat.reduceSub, Int.reduceToNat, ↓reduceIte, reduceCtorEq, encS_st0, ex_St, St_eta, hp, Bool.not_false]; done)))); intros; apply hk; clear hk K) | ((first | apply qg1 rfl | apply qcd); focus (simp only [go_sem, ↓upd_def, ↓evT, ↓aop, ↓aopc, ↓aopd, Nat.reduceEqDiff, Nat.reduceAdd, Nat.reduceLeDiff, Nat.reduceLT, Nat.reduceSub, Int.reduceToNat, ↓reduceIte, reduceCtorEq, encS_st0, ex_St, St_eta, hp, Bool.not_false]; exact rfl)) | (refine qj6 ?_ ?_ <;> intro hc <;> (try simp only [hc]) <;> (try simp only [decide_eq_true_eq, decide_eq_false_iff_not, Bool.not_eq_true', Bool.not_eq_false', Bool.not_eq_true, reduceCtorEq] at hc) <;> (try (exfalso; omega))) | (refine qk1 ?_ ?_; focus (repeat (first | exact qsub0 | (refine qsub1 ?_ ?_; focus (simp only [go_sem, ↓upd_def, ↓evT, ↓aop, ↓aopc, ↓aopd, Nat.reduceEqDiff, Nat.reduceAdd, Nat.reduceLeDiff, Nat.reduceLT, Nat.reduceSub, Int.reduceToNat, ↓reduceIte, reduceCtorEq, encS_st0, ex_St, St_eta, hp, Bool.not_false]))))) | (refine qt7 ?_ ?_; focus decide) | (refine qw7 ?_ ?_ ?_; (focus (decide +kernel)); (focus (decide +kernel))))
    ((first | refine fin_ret ?_ | refine fin_end ?_); simp only [go_sem, ↓upd_def, Nat.reduceEqDiff, Nat.reduceAdd, ↓reduceIte, reduceCtorEq])
    rw [hp] at hK
    exact hK
  rw [hp] at hK
  obtain ⟨hh1, hh2, hh3⟩ := ok_of0 hb hp
  repeat' (first | (refine qwd fun K hk => ?_; simp only [lvS10_54, mkT, go_sem, ↓upd_def, ↓evT, ↓aop, ↓aopc, ↓aopd, Nat.reduceEqDiff, Nat.reduceAdd, Nat.reduceLeDiff, Nat.reduceLT, Nat.reduceSub, Int.reduceToNat, ↓reduceIte, reduceCtorEq, encS_st0, encS_eq, ex_St, St_eta, hp, eqSt, Bool.not_false, Bool.not_true]; apply hk; clear hk K) | refine qw8 ?_ | refine qw1 ?_ | refine qwc lvS10_54 ?_ | refine qt1 ?_ | refine qw5 ?_ | refine qw2 ?_ | refine qw9 ?_ | refine qt2 ?_ | refine qt3 ?_ | refine qt4 ?_ | refine qt5 ?_ | refine qt6 ?_ | refine qw3 ?_ | refine qw4 ?_ | refine qj1 ?_ | refine qj2 ?_ | refine qj3 ?_ | refine qj4 ?_ | refine qj5 ?_ | refine qu1 ?_ | refine qu2 ?_ | refine qne ?_ | refine qyn ?_ | refine qyz ?_ | refine qy0 ?_ | refine qnt rfl rfl ?_ | refine qnf rfl rfl ?_ | refine qyc rfl ?_ | refine qy1 rfl ?_ | refine qy2 rfl ?_ ?_ | ((first | refine qa1 fun K hk => ?_ | refine qa2 fun K hk => ?_ | refine qa3 fun K hk => ?_ | refine qh1 fun K hk => ?_ | refine qh2 fun K hk => ?_ | refine qm1 fun K hk => ?_ | refine qm2 fun K hk => ?_ | refine qm3 fun K hk => ?_); simp only [go_sem, ↓upd_def, ↓evT, ↓aop, ↓aopc, ↓aopd, Nat.reduceEqDiff, Nat.reduceAdd, Nat.reduceLeDiff, Nat.reduceLT, Nat.reduceSub, Int.reduceToNat, ↓reduceIte, reduceCtorEq, encS_st0, encS_eq, ex_St, St_eta, hp, eqSt, Bool.not_false, Bool.not_true]; (repeat (refine And.intro ?_ ?_; focus (first | omega | assumption | with_reducible rfl | (simp only [go_sem, ↓upd_def, ↓evT, ↓aop, ↓aopc, ↓aopd, Nat.reduceEqDiff, Nat.reduceAdd, Nat.reduceLeDiff, Nat.reduceLT, Nat.reduceSub, Int.reduceToNat, ↓reduceIte, reduceCtorEq, encS_st0, encS_eq, ex_St, St_eta, hp, eqSt, Bool.not_false, Bool.not_true]; done)))); intros; apply hk; clear hk K) | ((first | apply qg1 rfl | apply qcd); focus (simp only [go_sem, ↓upd_def, ↓evT, ↓aop, ↓aopc, ↓aopd, Nat.reduceEqDiff, Nat.reduceAdd, Nat.reduceLeDiff, Nat.reduceLT, Nat.reduceSub, Int.reduceToNat, ↓reduceIte, reduceCtorEq, encS_st0, encS_eq, ex_St, St_eta, hp, eqSt, Bool.not_false, Bool.not_true]; exact rfl)) | (refine qj6 ?_ ?_ <;> intro hc <;> (try simp only [hc]) <;> (try simp only [decide_eq_true_eq, decide_eq_false_iff_not, Bool.not_eq_true', Bool.not_eq_false', Bool.not_eq_true, reduceCtorEq] at hc) <;> (try (exfalso; omega))) | (refine qk1 ?_ ?_; focus (repeat (first | exact qsub0 | (refine qsub1 ?_ ?_; focus (simp only [go_sem, ↓upd_def, ↓evT, ↓aop, ↓aopc, ↓aopd, Nat.reduceEqDiff, Nat.reduceAdd, Nat.reduceLeDiff, Nat.reduceLT, Nat.reduceSub, Int.reduceToNat, ↓reduceIte, reduceCtorEq, encS_st0, encS_eq, ex_St, St_eta, hp, eqSt, Bool.not_false, Bool.not_true]))))) | (refine qt7 ?_ ?_; focus decide) | (refine qw7 ?_ ?_ ?_; (focus (decide +kernel)); (focus (decide +kernel))))
  all_goals
    ((first | refine fin_ret ?_ | refine fin_end ?_); simp only [go_sem, ↓upd_def, Nat.reduceEqDiff, Nat.reduceAdd, ↓reduceIte, reduceCtorEq])
    refine K_int hK ?_
    clear hK
    have e0 := stI_ok xs st0
    (repeat' split) <;> first | rfl | omega | (exfalso; simp_all; done)
theorem flt_sc : PureOk Try.prog 110 flsQ := rel_all (fun x : St × List PartD => wtL x.2) flt_s
theorem tf_s : PureOk Try.prog 53 (parV fun x => .int .i64 (faultM x)) := by
  refine pure_rel 1 (tab_cons flt_sc (tab_cons pv_s tab_nil)) mixed [.tmp 2] Try.func53 rfl rfl (by kernel_rfl) (by kernel_rfl) (fun _ => rfl) (by kernel_rfl) ?_
  rintro xs K hb hK
  unfold faultM at hK
  unfold entry
  cases hp : partsB xs
  · repeat' (first | (refine qwd fun K hk => ?_; simp only [lvS10_53, mkT, go_sem, ↓upd_def, ↓evT, ↓aop, ↓aopc, ↓aopd, Nat.reduceEqDiff, Nat.reduceAdd, Nat.reduceLeDiff, Nat.reduceLT, Nat.reduceSub, Int.reduceToNat, ↓reduceIte, reduceCtorEq, encS_st0, ex_St, St_eta, hp, Bool.not_false]; apply hk; clear hk K) | refine qw8 ?_ | refine qw1 ?_ | refine qwc lvS10_53 ?_ | refine qt1 ?_ | refine qw5 ?_ | refine qw2 ?_ | refine qw9 ?_ | refine qt2 ?_ | refine qt3 ?_ | refine qt4 ?_ | refine qt5 ?_ | refine qt6 ?_ | refine qw3 ?_ | refine qw4 ?_ | refine qj1 ?_ | refine qj2 ?_ | refine qj3 ?_ | refine qj4 ?_ | refine qj5 ?_ | refine qu1 ?_ | refine qu2 ?_ | refine qne ?_ | refine qyn ?_ | refine qyz ?_ | refine qy0 ?_ | refine qnt rfl rfl ?_ | refine qnf rfl rfl ?_ | refine qyc rfl ?_ | refine qy1 rfl ?_ | refine qy2 rfl ?_ ?_ | ((first | refine qa1 fun K hk => ?_ | refine qa2 fun K hk => ?_ | refine qa3 fun K hk => ?_ | refine qh1 fun K hk => ?_ | refine qh2 fun K hk => ?_ | refine qm1 fun K hk => ?_ | refine qm2 fun K hk => ?_ | refine qm3 fun K hk => ?_); simp only [go_sem, ↓upd_def, ↓evT, ↓aop, ↓aopc, ↓aopd, Nat.reduceEqDiff, Nat.reduceAdd, Nat.reduceLeDiff, Nat.reduceLT, Nat.reduceSub, Int.reduceToNat, ↓reduceIte, reduceCtorEq, encS_st0, ex_St, St_eta, hp, Bool.not_false]; (repeat (refine And.intro ?_ ?_; focus (first | omega | assumption | with_reducible rfl | (simp only [go_sem, ↓upd_def, ↓evT, ↓aop, ↓aopc, ↓aopd, Nat.reduceEqDiff, Nat.reduceAdd, Nat.reduceLeDiff, Nat.reduceLT, Nat.reduceSub, Int.reduceToNat, ↓reduceIte, reduceCtorEq, encS_st0, ex_St, St_eta, hp, Bool.not_false]; done)))); intros; apply hk; clear hk K) | ((first | apply qg1 rfl | apply qcd); focus (simp only [go_sem, ↓upd_def, ↓evT, ↓aop, ↓aopc, ↓aopd, Nat.reduceEqDiff, Nat.reduceAdd, Nat.reduceLeDiff, Nat.reduceLT, Nat.reduceSub, Int.reduceToNat, ↓reduceIte, reduceCtorEq, encS_st0, ex_St, St_eta, hp, Bool.not_false]; exact rfl)) | (refine qj6 ?_ ?_ <;> intro hc <;> (try simp only [hc]) <;> (try simp only [decide_eq_true_eq, decide_eq_false_iff_not, Bool.not_eq_true', Bool.not_eq_false', Bool.not_eq_true, reduceCtorEq] at hc) <;> (try (exfalso; omega))) | (refine qk1 ?_ ?_; focus (repeat (first | exact qsub0 | (refine qsub1 ?_ ?_; focus (simp only [go_sem, ↓upd_def, ↓evT, ↓aop, ↓aopc, ↓aopd, Nat.reduceEqDiff, Nat.reduceAdd, Nat.reduceLeDiff, Nat.reduceLT, Nat.reduceSub, Int.reduceToNat, ↓reduceIte, reduceCtorEq, encS_st0, ex_St, St_eta, hp, Bool.not_false]))))) | (refine qt7 ?_ ?_; focus decide) | (refine qw7 ?_ ?_ ?_; (focus (decide +kernel)); (focus (decide +kernel))))
    ((first | refine fin_ret ?_ | refine fin_end ?_); simp only [go_sem, ↓upd_def, Nat.reduceEqDiff, Nat.reduceAdd, ↓reduceIte, reduceCtorEq])
    rw [hp] at hK
    exact hK
  rw [hp] at hK
  obtain ⟨hh1, hh2, hh3⟩ := ok_of0 hb hp
  repeat' (first | (refine qwd fun K hk => ?_; simp only [lvS10_53, mkT, go_sem, ↓upd_def, ↓evT, ↓aop, ↓aopc, ↓aopd, Nat.reduceEqDiff, Nat.reduceAdd, Nat.reduceLeDiff, Nat.reduceLT, Nat.reduceSub, Int.reduceToNat, ↓reduceIte, reduceCtorEq, encS_st0, encS_eq, ex_St, St_eta, hp, eqSt, Bool.not_false, Bool.not_true]; apply hk; clear hk K) | refine qw8 ?_ | refine qw1 ?_ | refine qwc lvS10_53 ?_ | refine qt1 ?_ | refine qw5 ?_ | refine qw2 ?_ | refine qw9 ?_ | refine qt2 ?_ | refine qt3 ?_ | refine qt4 ?_ | refine qt5 ?_ | refine qt6 ?_ | refine qw3 ?_ | refine qw4 ?_ | refine qj1 ?_ | refine qj2 ?_ | refine qj3 ?_ | refine qj4 ?_ | refine qj5 ?_ | refine qu1 ?_ | refine qu2 ?_ | refine qne ?_ | refine qyn ?_ | refine qyz ?_ | refine qy0 ?_ | refine qnt rfl rfl ?_ | refine qnf rfl rfl ?_ | refine qyc rfl ?_ | refine qy1 rfl ?_ | refine qy2 rfl ?_ ?_ | ((first | refine qa1 fun K hk => ?_ | refine qa2 fun K hk => ?_ | refine qa3 fun K hk => ?_ | refine qh1 fun K hk => ?_ | refine qh2 fun K hk => ?_ | refine qm1 fun K hk => ?_ | refine qm2 fun K hk => ?_ | refine qm3 fun K hk => ?_); simp only [go_sem, ↓upd_def, ↓evT, ↓aop, ↓aopc, ↓aopd, Nat.reduceEqDiff, Nat.reduceAdd, Nat.reduceLeDiff, Nat.reduceLT, Nat.reduceSub, Int.reduceToNat, ↓reduceIte, reduceCtorEq, encS_st0, encS_eq, ex_St, St_eta, hp, eqSt, Bool.not_false, Bool.not_true]; (repeat (refine And.intro ?_ ?_; focus (first | omega | assumption | with_reducible rfl | (simp only [go_sem, ↓upd_def, ↓evT, ↓aop, ↓aopc, ↓aopd, Nat.reduceEqDiff, Nat.reduceAdd, Nat.reduceLeDiff, Nat.reduceLT, Nat.reduceSub, Int.reduceToNat, ↓reduceIte, reduceCtorEq, encS_st0, encS_eq, ex_St, St_eta, hp, eqSt, Bool.not_false, Bool.not_true]; done)))); intros; apply hk; clear hk K) | ((first | apply qg1 rfl | apply qcd); focus (simp only [go_sem, ↓upd_def, ↓evT, ↓aop, ↓aopc, ↓aopd, Nat.reduceEqDiff, Nat.reduceAdd, Nat.reduceLeDiff, Nat.reduceLT, Nat.reduceSub, Int.reduceToNat, ↓reduceIte, reduceCtorEq, encS_st0, encS_eq, ex_St, St_eta, hp, eqSt, Bool.not_false, Bool.not_true]; exact rfl)) | (refine qj6 ?_ ?_ <;> intro hc <;> (try simp only [hc]) <;> (try simp only [decide_eq_true_eq, decide_eq_false_iff_not, Bool.not_eq_true', Bool.not_eq_false', Bool.not_eq_true, reduceCtorEq] at hc) <;> (try (exfalso; omega))) | (refine qk1 ?_ ?_; focus (repeat (first | exact qsub0 | (refine qsub1 ?_ ?_; focus (simp only [go_sem, ↓upd_def, ↓evT, ↓aop, ↓aopc, ↓aopd, Nat.reduceEqDiff, Nat.reduceAdd, Nat.reduceLeDiff, Nat.reduceLT, Nat.reduceSub, Int.reduceToNat, ↓reduceIte, reduceCtorEq, encS_st0, encS_eq, ex_St, St_eta, hp, eqSt, Bool.not_false, Bool.not_true]))))) | (refine qt7 ?_ ?_; focus decide) | (refine qw7 ?_ ?_ ?_; (focus (decide +kernel)); (focus (decide +kernel))))
  all_goals
    ((first | refine fin_ret ?_ | refine fin_end ?_); simp only [go_sem, ↓upd_def, Nat.reduceEqDiff, Nat.reduceAdd, ↓reduceIte, reduceCtorEq])
    refine K_int hK ?_
    clear hK
    (repeat' split) <;> first | rfl | omega | (exfalso; simp_all; done)
end Go.Proofs.Ytcagfbgplpokkaa
