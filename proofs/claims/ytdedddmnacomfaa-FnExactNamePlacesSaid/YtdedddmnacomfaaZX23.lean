/- Contracts: the reference's l15Places, HolePlaces. -/
import Derived.Test.YtdedddmnacomfaaZK3
import Derived.Test.YtdedddmnacomfaaZS10

namespace Go.Proofs.Ytdedddmnacomfaa
attribute [local irreducible] awp arun acalm FinP Fin AX.then AX.inBlock Again aG gsel amix amixN amixC aop aopc aopd cutK
attribute [local go_sem] aBSliceD aSlice aSliceC boundOf aMk aCall aCallC aLenL aLen aPick_t aPick_f aNil aAlloc aBox aBuild bldPV aBSlice bsPV aApp newsOf destOf drp aConvX aConv aConvInt aLoad cellsAt aStore cellsPV setAt aFld aField aIdx aIndex aUn aBin' aBin aMax aExtract pvOf PV.isCell nmbL PV.nmb List.map_cons List.map_nil List.all_cons List.all_nil Bool.and_true Bool.true_and if_true if_false List.getD_cons_zero List.getD_cons_succ List.getD_nil Option.isSome_some true_and and_true and_self eq_self true_or or_true List.drop_zero List.drop_succ_cons List.drop_nil List.take_zero List.take_succ_cons List.take_nil List.length_cons List.length_nil List.length_map Option.getD_some Option.getD_none List.nil_append List.cons_append List.append_nil Option.some.injEq exists_eq_left' List.getElem?_cons_zero List.getElem?_cons_succ Int.toNat_natCast Int.natCast_inj toNat_succ Nat.zero_add res res1 resC owns owns1 ownsC List.flatMap_cons List.flatMap_nil List.flatten_cons List.flatten_nil List.mem_cons List.not_mem_nil or_false false_or forall_eq forall_eq_or_imp isFro frz frz1 pureC tabA isBld List.cons.injEq PV.seq.injEq PV.int.injEq PV.str.injEq PV.bool.injEq PV.agg.injEq inR tab Γof aRes packR Option.map_some Option.map_none rel Prod.exists exists_and_left exists_eq_left and_assoc beq_self_eq_true Bool.not_true Bool.not_false decide_true decide_false List.set_cons_zero List.set_cons_succ rst_nil rst_cons
attribute [local go_sem ↓] evT upd_def aop aopc aopd
set_option maxRecDepth 100000
set_option linter.unusedVariables false
set_option linter.unusedSimpArgs false
open Go.RowKit
def lvX23_27 : Nat → List Nat
  | 0 => [0]
  | 1 => [0, 5]
  | 2 => [2]
  | 3 => [2]
  | _ => []
def lvX23_65 : Nat → List Nat
  | 0 => [1, 2]
  | 1 => [1, 2, 5]
  | 2 => [1, 2, 5, 6]
  | 3 => [1, 2, 5, 6, 12]
  | 4 => [1, 2, 5, 6]
  | 5 => [1, 2, 5, 6, 7]
  | 6 => [1, 2, 5, 6, 7, 21]
  | 7 => [1, 2, 5, 6, 7]
  | 8 => [1, 2, 5, 6]
  | 9 => [1, 2, 5, 6]
  | 10 => [4]
  | _ => []
--LV=X23
@[go_sem] def plsC (n : Nat) : PC := rel (α := St × List PartD) (fun x => [.agg (encS x.1), .seq (encPs x.2)]) (fun x => wtL x.2 < n ∧ wtL x.2 ≤ 1073741824 ∧ stV x.1 = true ∧ (∃ d b, gdL d b x.2 = true) ∧ (chkL x.1 x.2).mode ≠ 15) (fun x => .seq (ints (plcs (wkL x.1 x.2).1)))
@[go_sem] def plsQ : PC := rel (α := St × List PartD) (fun x => [.agg (encS x.1), .seq (encPs x.2)]) (fun x => wtL x.2 ≤ 1073741824 ∧ stV x.1 = true ∧ (∃ d b, gdL d b x.2 = true) ∧ (chkL x.1 x.2).mode ≠ 15) (fun x => .seq (ints (plcs (wkL x.1 x.2).1)))
theorem ints_ap (a b : List Int) : ints a ++ ints b = ints (a ++ b) := (ints_append a b).symm
theorem ints_pt (a : List Int) (k : Int) : ints a ++ [[.int .i64 k]] = ints (a ++ [k]) := by rw [ints_append, ints_one]
theorem sl_one {xs : List PartD} {k : Nat} {x : PartD} (h : xs[k]? = some x) : List.drop k (List.take (k + 1) (encPs xs)) = encPs [x] := by
  obtain ⟨hk, rfl⟩ := List.getElem?_eq_some_iff.1 h
  rw [encPs_map, encPs_map, ← List.map_take, ← List.map_drop, List.take_succ_eq_append_getElem hk, List.drop_append_of_le_length (by rw [List.length_take]; omega), List.drop_of_length_le (by rw [List.length_take]; omega), List.nil_append]
set_option maxHeartbeats 16000000 in
theorem pls_s : ∀ n, PureOk Try.prog 65 (plsC n) := by
  intro n
  induction n with
  | zero => exact never_rel Try.func65 (by kernel_rfl) (by kernel_rfl) (fun x h => absurd h.1 (Nat.not_lt_zero _))
  | succ n ih =>
  refine pure_rel 2 (tab_cons ih (tab_cons place_s (tab_cons chk_sc tab_nil))) mixed [.tmp 4] Try.func65 rfl rfl (by kernel_rfl) (by kernel_rfl) (fun _ => rfl) (by kernel_rfl) ?_
  rintro ⟨s, xs⟩ K ⟨hn, hb, hv, ⟨d, b, hgd⟩, hm⟩ hK
  dsimp only at *
  clear ih
  have hlw := len_le_wtL xs
  unfold entry
  repeat' (first | ((first | apply qwd | apply qa1 | apply qa2 | apply qa3 | apply qh1 | apply qh2 | apply qm1 | apply qm2 | apply qm3 | apply qg1 rfl | apply qcd); (try intro K hk); focus (simp only [lvX23_65, mkT, go_sem, Nat.reduceEqDiff, Nat.reduceAdd, Nat.reduceLeDiff, Nat.reduceLT, Nat.reduceSub, Int.reduceToNat, ↓reduceIte, reduceCtorEq, encS_eq, ex_St, St_eta, encPs_length]; first | exact rfl | ((repeat (refine And.intro ?_ ?_; focus (first | omega | assumption | with_reducible rfl))); intros; apply hk; clear hk K))) | apply qw8 | apply qw1 | refine qwc lvX23_65 ?_ | apply qt1 | apply qw5 | apply qw2 | apply qw9 | apply qt2 | apply qt3 | apply qt4 | apply qt5 | apply qt6 | apply qw3 | apply qw4 | apply qj1 | apply qj2 | apply qj3 | apply qj4 | apply qj5 | apply qu1 | apply qu2 | apply qne | apply qyn | apply qyz | apply qy0 | refine qnt rfl rfl ?_ | refine qnf rfl rfl ?_ | refine qyc rfl ?_ | refine qy1 rfl ?_ | refine qy2 rfl ?_ ?_ | (refine qj6 ?_ ?_ <;> intro hc <;> (try simp only [hc]) <;> (try simp only [decide_eq_true_eq, decide_eq_false_iff_not, Bool.not_eq_true', Bool.not_eq_false', Bool.not_eq_true, reduceCtorEq] at hc) <;> (try (exfalso; omega))) | (refine qk1 ?_ ?_; focus (repeat (first | exact qsub0 | (refine qsub1 ?_ ?_; focus (simp only [go_sem, Nat.reduceEqDiff, Nat.reduceAdd, Nat.reduceLeDiff, Nat.reduceLT, Nat.reduceSub, Int.reduceToNat, ↓reduceIte, reduceCtorEq, encS_eq, ex_St, St_eta, encPs_length]))))) | (refine qt7 ?_ ?_; focus decide) | (refine qw7 ?_ ?_ ?_; (focus (decide +kernel)); (focus (decide +kernel))))
  refine s_loop (ι := Nat) (fun k => [(1, .seq (encPs xs)), (2, .ref 0 0), (5, .own 1), (6, .int .i64 k)]) (fun k => [(0, .box (encS (chkL s (xs.take k)))), (1, .row 3 1 (ints (plcs (wkL s (xs.take k)).1)))]) 2 (fun k => k ≤ xs.length) (fun k => xs.length - k) 0 (by omega) (Nat.zero_le _) ?_ ?_
  · simp [fits, fitsT, fitsM, upd_def, PV.nmb, nmbL, MB.nmb, List.getD_cons_zero, List.getD_cons_succ, chkL_nil, wkL_nil, plcs, ints, encS]
  intro k hk
  have hvk := stV_chkL (xs.take k) s hv
  simp only [mkS, mkT, mkM]
  by_cases hkl : k < xs.length
  · obtain ⟨⟨kd, t, nm, ps, os⟩, hx⟩ := get_some (xs := xs) (k := k) (by omega)
    have htk := take_snoc' hx
    have ws := wtL_split hx
    rw [wtP_mk] at ws
    have hget := encPs_get xs
    obtain ⟨hgp, hmk, hmp, hwk, hsn, hone⟩ := chk_at hv hgd hm hx
    have hs := wkL_snoc (s := s) hx
    rw [hwk, wk_parts hgp] at hs
    obtain ⟨hm1, hm2⟩ := kids_ok hgp hmk hmp
    obtain ⟨hg1, hg2⟩ := gd_sub hgp
    have ho := okS_of hvk
    have hlp := len_le_wtL ps
    have hlo := len_le_wtL os
    have hw1 := wk_wt xs s
    have hw2 := wk_pre s xs (k + 1)
    have hpl := fun l => plcs_len l
    have hal := ints_all
    have hpa := encPs_all xs
    have n1 : ((k : Int) + 1).toNat = k + 1 := by omega
    have hsl := sl_one hx
    have w1 : wtL [PartD.mk kd t nm ps os] ≤ wtL xs := by rw [wtL_one, wtP_mk]; omega
    have g1 : ∃ d b, gdL d b [PartD.mk kd t nm ps os] = true := ⟨d, false, by rw [gdL, gdL_nil]; simp [hgp]⟩
    generalize hcur : chkL s (xs.take k) = cur at *
    rw [hs] at hw2
    simp only [List.length_append] at hw2
    generalize (wkL s (xs.take k)).1 = evk at *
    have hp1 := hpl evk
    have hp2 := hpl (wkL cur ps).1
    have hp3 := hpl (wkL cur os).1
    by_cases k2 : kd = 2
    · subst k2
      rw [if_pos rfl] at hs hw2
      simp only [List.length_cons, List.length_nil] at hw2
      repeat' (first | (refine qw10 [0, 2] [0, 1, 2, 3, 4, 6, 7, 8, 9, 11] [0, 1, 2, 3, 4, 6, 7, 8, 5, 9, 10, 11] ?_ ?_; focus (decide +kernel)) | (refine s_draw 7 ?_ ?_; focus (decide +kernel)) | (first | ((first | apply qwd | apply qa1 | apply qa2 | apply qa3 | apply qh1 | apply qh2 | apply qm1 | apply qm2 | apply qm3 | apply qg1 rfl | apply qcd); (try intro K hk); focus (simp only [lvX23_65, mkT, go_sem, Nat.reduceEqDiff, Nat.reduceAdd, Nat.reduceLeDiff, Nat.reduceLT, Nat.reduceSub, Int.reduceToNat, ↓reduceIte, reduceCtorEq, encPs_length, hget, hx, encP_mk, encS_eq, ex_St, St_eta, ints_length, hal, hpl, List.length_append, List.length_cons, List.length_nil, ints_ap, ints_pt, n1, hsl, hone, decide_true, Int.toNat_natCast]; first | exact rfl | ((repeat (refine And.intro ?_ ?_; focus (first | omega | assumption | with_reducible rfl))); intros; apply hk; clear hk K))) | apply qw8 | apply qw1 | refine qwc lvX23_65 ?_ | apply qt1 | apply qw5 | apply qw2 | apply qw9 | apply qt2 | apply qt3 | apply qt4 | apply qt5 | apply qt6 | apply qw3 | apply qw4 | apply qj1 | apply qj2 | apply qj3 | apply qj4 | apply qj5 | apply qu1 | apply qu2 | apply qne | apply qyn | apply qyz | apply qy0 | refine qnt rfl rfl ?_ | refine qnf rfl rfl ?_ | refine qyc rfl ?_ | refine qy1 rfl ?_ | refine qy2 rfl ?_ ?_ | (refine qj6 ?_ ?_ <;> intro hc <;> (try simp only [hc]) <;> (try simp only [decide_eq_true_eq, decide_eq_false_iff_not, Bool.not_eq_true', Bool.not_eq_false', Bool.not_eq_true, reduceCtorEq] at hc) <;> (try (exfalso; omega))) | (refine qk1 ?_ ?_; focus (repeat (first | exact qsub0 | (refine qsub1 ?_ ?_; focus (simp only [go_sem, Nat.reduceEqDiff, Nat.reduceAdd, Nat.reduceLeDiff, Nat.reduceLT, Nat.reduceSub, Int.reduceToNat, ↓reduceIte, reduceCtorEq, encPs_length, hget, hx, encP_mk, encS_eq, ex_St, St_eta, ints_length, hal, hpl, List.length_append, List.length_cons, List.length_nil, ints_ap, ints_pt, n1, hsl, hone, decide_true, Int.toNat_natCast]))))) | (refine qt7 ?_ ?_; focus decide) | (refine qw7 ?_ ?_ ?_; (focus (decide +kernel)); (focus (decide +kernel)))))
      refine s_againR (k + 1) (fun i => if i = 1 then 6 else i) ?_ ?_ ?_ ?_ ?_ ?_ <;> (first | omega | (dsimp only; omega) | (intro i hi; (try dsimp only); (repeat' split) <;> omega) | (intro i j hi hj h; (try dsimp only at h); (repeat' split at h) <;> omega) | skip)
      all_goals (simp [fitsTR, fitsMR, PV.ren, renL, MB.ren, upd_def, PV.nmb, nmbL, MB.nmb, List.getD_cons_zero, List.getD_cons_succ, frz, drp, hs, hsn, plcs, ints, encS]; done)
    · rw [if_neg k2] at hs hw2
      simp only [List.length_nil] at hw2
      repeat' (first | (refine qw10 [0, 2] [0, 1, 2, 3, 4, 6, 7, 8, 9, 11] [0, 1, 2, 3, 4, 6, 7, 8, 5, 9, 10, 11] ?_ ?_; focus (decide +kernel)) | (refine s_draw 7 ?_ ?_; focus (decide +kernel)) | (first | ((first | apply qwd | apply qa1 | apply qa2 | apply qa3 | apply qh1 | apply qh2 | apply qm1 | apply qm2 | apply qm3 | apply qg1 rfl | apply qcd); (try intro K hk); focus (simp only [lvX23_65, mkT, go_sem, Nat.reduceEqDiff, Nat.reduceAdd, Nat.reduceLeDiff, Nat.reduceLT, Nat.reduceSub, Int.reduceToNat, ↓reduceIte, reduceCtorEq, encPs_length, hget, hx, encP_mk, encS_eq, ex_St, St_eta, ints_length, hal, hpl, List.length_append, List.length_cons, List.length_nil, ints_ap, ints_pt, n1, hsl, hone, k2, decide_false, Int.toNat_natCast]; first | exact rfl | ((repeat (refine And.intro ?_ ?_; focus (first | omega | assumption | with_reducible rfl))); intros; apply hk; clear hk K))) | apply qw8 | apply qw1 | refine qwc lvX23_65 ?_ | apply qt1 | apply qw5 | apply qw2 | apply qw9 | apply qt2 | apply qt3 | apply qt4 | apply qt5 | apply qt6 | apply qw3 | apply qw4 | apply qj1 | apply qj2 | apply qj3 | apply qj4 | apply qj5 | apply qu1 | apply qu2 | apply qne | apply qyn | apply qyz | apply qy0 | refine qnt rfl rfl ?_ | refine qnf rfl rfl ?_ | refine qyc rfl ?_ | refine qy1 rfl ?_ | refine qy2 rfl ?_ ?_ | (refine qj6 ?_ ?_ <;> intro hc <;> (try simp only [hc]) <;> (try simp only [decide_eq_true_eq, decide_eq_false_iff_not, Bool.not_eq_true', Bool.not_eq_false', Bool.not_eq_true, reduceCtorEq] at hc) <;> (try (exfalso; omega))) | (refine qk1 ?_ ?_; focus (repeat (first | exact qsub0 | (refine qsub1 ?_ ?_; focus (simp only [go_sem, Nat.reduceEqDiff, Nat.reduceAdd, Nat.reduceLeDiff, Nat.reduceLT, Nat.reduceSub, Int.reduceToNat, ↓reduceIte, reduceCtorEq, encPs_length, hget, hx, encP_mk, encS_eq, ex_St, St_eta, ints_length, hal, hpl, List.length_append, List.length_cons, List.length_nil, ints_ap, ints_pt, n1, hsl, hone, k2, decide_false, Int.toNat_natCast]))))) | (refine qt7 ?_ ?_; focus decide) | (refine qw7 ?_ ?_ ?_; (focus (decide +kernel)); (focus (decide +kernel)))))
      refine s_againR (k + 1) (fun i => if i = 1 then 4 else i) ?_ ?_ ?_ ?_ ?_ ?_ <;> (first | omega | (dsimp only; omega) | (intro i hi; (try dsimp only); (repeat' split) <;> omega) | (intro i j hi hj h; (try dsimp only at h); (repeat' split at h) <;> omega) | skip)
      all_goals (simp [fitsTR, fitsMR, PV.ren, renL, MB.ren, upd_def, PV.nmb, nmbL, MB.nmb, List.getD_cons_zero, List.getD_cons_succ, frz, drp, hs, hsn, plcs, ints, encS]; done)
  · obtain rfl : k = xs.length := by omega
    repeat' (first | ((first | apply qwd | apply qa1 | apply qa2 | apply qa3 | apply qh1 | apply qh2 | apply qm1 | apply qm2 | apply qm3 | apply qg1 rfl | apply qcd); (try intro K hk); focus (simp only [lvX23_65, mkT, go_sem, Nat.reduceEqDiff, Nat.reduceAdd, Nat.reduceLeDiff, Nat.reduceLT, Nat.reduceSub, Int.reduceToNat, ↓reduceIte, reduceCtorEq, encPs_length]; first | exact rfl | ((repeat (refine And.intro ?_ ?_; focus (first | omega | assumption | with_reducible rfl))); intros; apply hk; clear hk K))) | apply qw8 | apply qw1 | refine qwc lvX23_65 ?_ | apply qt1 | apply qw5 | apply qw2 | apply qw9 | apply qt2 | apply qt3 | apply qt4 | apply qt5 | apply qt6 | apply qw3 | apply qw4 | apply qj1 | apply qj2 | apply qj3 | apply qj4 | apply qj5 | apply qu1 | apply qu2 | apply qne | apply qyn | apply qyz | apply qy0 | refine qnt rfl rfl ?_ | refine qnf rfl rfl ?_ | refine qyc rfl ?_ | refine qy1 rfl ?_ | refine qy2 rfl ?_ ?_ | (refine qj6 ?_ ?_ <;> intro hc <;> (try simp only [hc]) <;> (try simp only [decide_eq_true_eq, decide_eq_false_iff_not, Bool.not_eq_true', Bool.not_eq_false', Bool.not_eq_true, reduceCtorEq] at hc) <;> (try (exfalso; omega))) | (refine qk1 ?_ ?_; focus (repeat (first | exact qsub0 | (refine qsub1 ?_ ?_; focus (simp only [go_sem, Nat.reduceEqDiff, Nat.reduceAdd, Nat.reduceLeDiff, Nat.reduceLT, Nat.reduceSub, Int.reduceToNat, ↓reduceIte, reduceCtorEq, encPs_length]))))) | (refine qt7 ?_ ?_; focus decide) | (refine qw7 ?_ ?_ ?_; (focus (decide +kernel)); (focus (decide +kernel))))
    ((first | refine fin_ret ?_ | refine fin_end ?_); simp only [go_sem, ↓upd_def, Nat.reduceEqDiff, Nat.reduceAdd, ↓reduceIte, reduceCtorEq])
    rw [List.take_length] at *
    exact hK
theorem pls_sc : PureOk Try.prog 65 plsQ := rel_all (fun x : St × List PartD => wtL x.2) pls_s
@[go_sem] def hplC : PC := rel (α := List PartD) (fun x => [.seq (encPs x)]) (fun x => wtL x ≤ 1073741824) (fun x => .seq (ints (placesM x)))
theorem hp_s : PureOk Try.prog 27 hplC := by
  refine pure_rel 1 (tab_cons pls_sc (tab_cons ts_s tab_nil)) mixed [.tmp 2] Try.func27 rfl rfl (by kernel_rfl) (by kernel_rfl) (fun _ => rfl) (by kernel_rfl) ?_
  rintro xs K hb hK
  unfold entry
  unfold placesM at hK
  cases hs : safeM xs
  · rw [hs] at hK
    repeat' (first | ((first | apply qwd | apply qa1 | apply qa2 | apply qa3 | apply qh1 | apply qh2 | apply qg1 rfl | apply qcd); (try intro K hk); focus (simp only [lvX23_27, mkT, go_sem, Nat.reduceEqDiff, Nat.reduceAdd, Nat.reduceLeDiff, Nat.reduceLT, Nat.reduceSub, Int.reduceToNat, ↓reduceIte, reduceCtorEq, encS_st0, hs, Bool.not_false]; first | exact rfl | ((repeat (refine And.intro ?_ ?_; focus (first | omega | assumption | with_reducible rfl))); intros; apply hk; clear hk K))) | apply qw8 | apply qw1 | refine qwc lvX23_27 ?_ | apply qt1 | apply qw5 | apply qw2 | apply qw9 | apply qt2 | apply qt3 | apply qt4 | apply qt5 | apply qt6 | apply qw3 | apply qw4 | apply qj1 | apply qj2 | apply qj3 | apply qj4 | apply qj5 | apply qu1 | apply qu2 | (refine qj6 ?_ ?_ <;> intro hc <;> (try simp only [hc]) <;> (try simp only [decide_eq_true_eq, decide_eq_false_iff_not, Bool.not_eq_true', Bool.not_eq_false', Bool.not_eq_true, reduceCtorEq] at hc) <;> (try (exfalso; omega))) | (refine qt7 ?_ ?_; focus decide) | (refine qw7 ?_ ?_ ?_; (focus (decide +kernel)); (focus (decide +kernel))))
    ((first | refine fin_ret ?_ | refine fin_end ?_); simp only [go_sem, ↓upd_def, Nat.reduceEqDiff, Nat.reduceAdd, ↓reduceIte, reduceCtorEq])
    exact hK
  · obtain ⟨h1, h2, h3, h4⟩ := safe_parts hs
    rw [hs, if_pos rfl] at hK
    have g1 : ∃ d b, gdL d b xs = true := ⟨_, _, h2⟩
    have st9 := stV_st0
    repeat' (first | ((first | apply qwd | apply qa1 | apply qa2 | apply qa3 | apply qh1 | apply qh2 | apply qg1 rfl | apply qcd); (try intro K hk); focus (simp only [lvX23_27, mkT, go_sem, Nat.reduceEqDiff, Nat.reduceAdd, Nat.reduceLeDiff, Nat.reduceLT, Nat.reduceSub, Int.reduceToNat, ↓reduceIte, reduceCtorEq, encS_st0, encS_eq, ex_St, St_eta, hs, Bool.not_true]; first | exact rfl | ((repeat (refine And.intro ?_ ?_; focus (first | omega | assumption | with_reducible rfl))); intros; apply hk; clear hk K))) | apply qw8 | apply qw1 | refine qwc lvX23_27 ?_ | apply qt1 | apply qw5 | apply qw2 | apply qw9 | apply qt2 | apply qt3 | apply qt4 | apply qt5 | apply qt6 | apply qw3 | apply qw4 | apply qj1 | apply qj2 | apply qj3 | apply qj4 | apply qj5 | apply qu1 | apply qu2 | (refine qj6 ?_ ?_ <;> intro hc <;> (try simp only [hc]) <;> (try simp only [decide_eq_true_eq, decide_eq_false_iff_not, Bool.not_eq_true', Bool.not_eq_false', Bool.not_eq_true, reduceCtorEq] at hc) <;> (try (exfalso; omega))) | (refine qt7 ?_ ?_; focus decide) | (refine qw7 ?_ ?_ ?_; (focus (decide +kernel)); (focus (decide +kernel))))
    ((first | refine fin_ret ?_ | refine fin_end ?_); simp only [go_sem, ↓upd_def, Nat.reduceEqDiff, Nat.reduceAdd, ↓reduceIte, reduceCtorEq])
    exact hK
end Go.Proofs.Ytdedddmnacomfaa
