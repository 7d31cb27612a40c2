/- Contracts: the reference's l23Places, NamePlaces. -/
import Derived.Test.YtdedddmnacomfaaZX23
import Derived.Test.YtdedddmnacomfaaZX20

namespace Go.Proofs.Ytdedddmnacomfaa
attribute [local irreducible] awp arun acalm FinP Fin AX.then AX.inBlock Again aG gsel amix amixN amixC aop aopc aopd cutK
attribute [local go_sem] aBSliceD aSlice aSliceC boundOf aMk aCall aCallC aLenL aLen aPick_t aPick_f aNil aAlloc aBox aBuild bldPV aBSlice bsPV aApp newsOf destOf drp aConvX aConv aConvInt aLoad cellsAt aStore cellsPV setAt aFld aField aIdx aIndex aUn aBin' aBin aMax aExtract pvOf PV.isCell nmbL PV.nmb List.map_cons List.map_nil List.all_cons List.all_nil Bool.and_true Bool.true_and if_true if_false List.getD_cons_zero List.getD_cons_succ List.getD_nil Option.isSome_some true_and and_true and_self eq_self true_or or_true List.drop_zero List.drop_succ_cons List.drop_nil List.take_zero List.take_succ_cons List.take_nil List.length_cons List.length_nil List.length_map Option.getD_some Option.getD_none List.nil_append List.cons_append List.append_nil Option.some.injEq exists_eq_left' List.getElem?_cons_zero List.getElem?_cons_succ Int.toNat_natCast Int.natCast_inj toNat_succ Nat.zero_add res res1 resC owns owns1 ownsC List.flatMap_cons List.flatMap_nil List.flatten_cons List.flatten_nil List.mem_cons List.not_mem_nil or_false false_or forall_eq forall_eq_or_imp isFro frz frz1 pureC tabA isBld List.cons.injEq PV.seq.injEq PV.int.injEq PV.str.injEq PV.bool.injEq PV.agg.injEq inR tab Γof aRes packR Option.map_some Option.map_none rel Prod.exists exists_and_left exists_eq_left and_assoc beq_self_eq_true Bool.not_true Bool.not_false decide_true decide_false List.set_cons_zero List.set_cons_succ rst_nil rst_cons
attribute [local go_sem ↓] evT upd_def aop aopc aopd
set_option maxRecDepth 100000
set_option linter.unusedVariables false
set_option linter.unusedSimpArgs false
open Go.RowKit
def lvX34_32 : Nat → List Nat
  | 0 => [0, 1]
  | 1 => [0, 1, 7]
  | 2 => [4]
  | 3 => [4]
  | _ => []
def lvX34_70 : Nat → List Nat
  | 0 => [1, 2, 3]
  | 1 => [1, 2, 3, 7]
  | 2 => [1, 2, 3, 7, 8]
  | 3 => [1, 2, 3, 7, 8, 14]
  | 4 => [1, 2, 3, 7, 8]
  | 5 => [1, 2, 3, 7, 8, 9]
  | 6 => [1, 2, 3, 7, 8, 9, 29]
  | 7 => [1, 2, 3, 7, 8, 9]
  | 8 => [1, 2, 3, 7, 8]
  | 9 => [1, 2, 3, 7, 8]
  | 10 => [6]
  | _ => []
--LV=X34
@[go_sem] def npsC (n : Nat) : PC := rel (α := St × List PartD × Bs) (fun x => [.agg (encS x.1), .seq (encPs x.2.1), .str x.2.2]) (fun x => wtL x.2.1 < n ∧ wtL x.2.1 ≤ 1073741824 ∧ stV x.1 = true ∧ (∃ d b, gdL d b x.2.1 = true) ∧ (chkL x.1 x.2.1).mode ≠ 15 ∧ x.2.2.length ≤ 9223372036854775807) (fun x => .seq (ints (plcN x.2.2 (wkL x.1 x.2.1).1)))
@[go_sem] def npsQ : PC := rel (α := St × List PartD × Bs) (fun x => [.agg (encS x.1), .seq (encPs x.2.1), .str x.2.2]) (fun x => wtL x.2.1 ≤ 1073741824 ∧ stV x.1 = true ∧ (∃ d b, gdL d b x.2.1 = true) ∧ (chkL x.1 x.2.1).mode ≠ 15 ∧ x.2.2.length ≤ 9223372036854775807) (fun x => .seq (ints (plcN x.2.2 (wkL x.1 x.2.1).1)))
theorem plcN_cons34 (n : Bs) (x : Bs × St) (l : List (Bs × St)) : plcN n (x :: l) = (if x.1 = n then [placeM x.2] else []) ++ plcN n l := by
  rw [show x :: l = [x] ++ l from rfl, plcN_append]
  obtain ⟨a, b⟩ := x
  rw [plcN_one]
set_option maxHeartbeats 16000000 in
theorem nps_s : ∀ n, PureOk Try.prog 70 (npsC n) := by
  intro n
  induction n with
  | zero => exact never_rel Try.func70 (by kernel_rfl) (by kernel_rfl) (fun x h => absurd h.1 (Nat.not_lt_zero _))
  | succ n ih =>
  refine pure_rel 3 (tab_cons ih (tab_cons place_s (tab_cons chk_sc tab_nil))) mixed [.tmp 6] Try.func70 rfl rfl (by kernel_rfl) (by kernel_rfl) (fun _ => rfl) (by kernel_rfl) ?_
  rintro ⟨s, xs, m⟩ K ⟨hn, hb, hv, ⟨d, b, hgd⟩, hm, hml⟩ hK
  dsimp only at *
  clear ih
  have hlw := len_le_wtL xs
  unfold entry
  repeat' (first | ((first | apply qwd | apply qa1 | apply qa2 | apply qa3 | apply qh1 | apply qh2 | apply qm1 | apply qm2 | apply qm3 | apply qg1 rfl | apply qcd); (try intro K hk); focus (simp only [lvX34_70, mkT, go_sem, Nat.reduceEqDiff, Nat.reduceAdd, Nat.reduceLeDiff, Nat.reduceLT, Nat.reduceSub, Int.reduceToNat, ↓reduceIte, reduceCtorEq, encS_eq, ex_St, St_eta, encPs_length]; first | exact rfl | ((repeat (refine And.intro ?_ ?_; focus (first | omega | assumption | with_reducible rfl))); intros; apply hk; clear hk K))) | apply qw8 | apply qw1 | refine qwc lvX34_70 ?_ | apply qt1 | apply qw5 | apply qw2 | apply qw9 | apply qt2 | apply qt3 | apply qt4 | apply qt5 | apply qt6 | apply qw3 | apply qw4 | apply qj1 | apply qj2 | apply qj3 | apply qj4 | apply qj5 | apply qu1 | apply qu2 | apply qne | apply qyn | apply qyz | apply qy0 | refine qnt rfl rfl ?_ | refine qnf rfl rfl ?_ | refine qyc rfl ?_ | refine qy1 rfl ?_ | refine qy2 rfl ?_ ?_ | (refine qj6 ?_ ?_ <;> intro hc <;> (try simp only [hc]) <;> (try simp only [decide_eq_true_eq, decide_eq_false_iff_not, Bool.not_eq_true', Bool.not_eq_false', Bool.not_eq_true, reduceCtorEq] at hc) <;> (try (exfalso; omega))) | (refine qk1 ?_ ?_; focus (repeat (first | exact qsub0 | (refine qsub1 ?_ ?_; focus (simp only [go_sem, Nat.reduceEqDiff, Nat.reduceAdd, Nat.reduceLeDiff, Nat.reduceLT, Nat.reduceSub, Int.reduceToNat, ↓reduceIte, reduceCtorEq, encS_eq, ex_St, St_eta, encPs_length]))))) | (refine qt7 ?_ ?_; focus decide) | (refine qw7 ?_ ?_ ?_; (focus (decide +kernel)); (focus (decide +kernel))))
  refine s_loop (ι := Nat) (fun k => [(1, .seq (encPs xs)), (2, .str m), (3, .ref 0 0), (7, .own 1), (8, .int .i64 k)]) (fun k => [(0, .box (encS (chkL s (xs.take k)))), (1, .row 3 1 (ints (plcN m (wkL s (xs.take k)).1)))]) 2 (fun k => k ≤ xs.length) (fun k => xs.length - k) 0 (by omega) (Nat.zero_le _) ?_ ?_
  · simp [fits, fitsT, fitsM, upd_def, PV.nmb, nmbL, MB.nmb, List.getD_cons_zero, List.getD_cons_succ, chkL_nil, wkL_nil, plcN, ints, encS]
  intro k hk
  have hvk := stV_chkL (xs.take k) s hv
  simp only [mkS, mkT, mkM]
  by_cases hkl : k < xs.length
  · obtain ⟨⟨kd, t, nm, ps, os⟩, hx⟩ := get_some (xs := xs) (k := k) (by omega)
    have htk := take_snoc' hx
    have ws := wtL_split hx
    rw [wtP_mk] at ws
    have hget := encPs_get xs
    obtain ⟨hgp, hmk, hmp, hwk, hsn, hone⟩ := chk_at hv hgd hm hx
    have hs := wkL_snoc (s := s) hx
    rw [hwk, wk_parts hgp] at hs
    obtain ⟨hm1, hm2⟩ := kids_ok hgp hmk hmp
    obtain ⟨hg1, hg2⟩ := gd_sub hgp
    have ho := okS_of hvk
    have hlp := len_le_wtL ps
    have hlo := len_le_wtL os
    have hw1 := wk_wt xs s
    have hw2 := wk_pre s xs (k + 1)
    have hpl := fun l => plcN_len m l
    have hal := ints_all
    have hpa := encPs_all xs
    have n1 : ((k : Int) + 1).toNat = k + 1 := by omega
    have hsl := sl_one hx
    have w1 : wtL [PartD.mk kd t nm ps os] ≤ wtL xs := by rw [wtL_one, wtP_mk]; omega
    have g1 : ∃ d b, gdL d b [PartD.mk kd t nm ps os] = true := ⟨d, false, by rw [gdL, gdL_nil]; simp [hgp]⟩
    generalize hcur : chkL s (xs.take k) = cur at *
    rw [hs] at hw2
    simp only [List.length_append] at hw2
    generalize (wkL s (xs.take k)).1 = evk at *
    have hp1 := hpl evk
    have hp2 := hpl (wkL cur ps).1
    have hp3 := hpl (wkL cur os).1
    by_cases k2 : kd = 2
    · subst k2
      rw [if_pos rfl] at hs hw2
      simp only [List.length_cons, List.length_nil] at hw2
      by_cases hnm : nm = m
      · have hd1 : decide (nm = m) = true := by simp [hnm]
        repeat' (first | (refine qw10 [0, 2] [0, 1, 2, 3, 4, 5, 7, 8, 9, 10, 11, 13] [0, 1, 2, 3, 4, 5, 7, 8, 9, 10, 6, 11, 12, 13] ?_ ?_; focus (decide +kernel)) | (refine s_draw 7 ?_ ?_; focus (decide +kernel)) | (first | ((first | apply qwd | apply qa1 | apply qa2 | apply qa3 | apply qh1 | apply qh2 | apply qm1 | apply qm2 | apply qm3 | apply qg1 rfl | apply qcd); (try intro K hk); focus (simp only [lvX34_70, mkT, go_sem, Nat.reduceEqDiff, Nat.reduceAdd, Nat.reduceLeDiff, Nat.reduceLT, Nat.reduceSub, Int.reduceToNat, ↓reduceIte, reduceCtorEq, encPs_length, hget, hx, encP_mk, encS_eq, ex_St, St_eta, ints_length, hal, List.length_append, List.length_cons, List.length_nil, ints_ap, ints_pt, n1, hsl, hone, hd1, decide_true, Int.toNat_natCast]; first | exact rfl | ((repeat (refine And.intro ?_ ?_; focus (first | omega | assumption | with_reducible rfl))); intros; apply hk; clear hk K))) | apply qw8 | apply qw1 | refine qwc lvX34_70 ?_ | apply qt1 | apply qw5 | apply qw2 | apply qw9 | apply qt2 | apply qt3 | apply qt4 | apply qt5 | apply qt6 | apply qw3 | apply qw4 | apply qj1 | apply qj2 | apply qj3 | apply qj4 | apply qj5 | apply qu1 | apply qu2 | apply qne | apply qyn | apply qyz | apply qy0 | refine qnt rfl rfl ?_ | refine qnf rfl rfl ?_ | refine qyc rfl ?_ | refine qy1 rfl ?_ | refine qy2 rfl ?_ ?_ | (refine qj6 ?_ ?_ <;> intro hc <;> (try simp only [hc]) <;> (try simp only [decide_eq_true_eq, decide_eq_false_iff_not, Bool.not_eq_true', Bool.not_eq_false', Bool.not_eq_true, reduceCtorEq] at hc) <;> (try (exfalso; omega))) | (refine qk1 ?_ ?_; focus (repeat (first | exact qsub0 | (refine qsub1 ?_ ?_; focus (simp only [go_sem, Nat.reduceEqDiff, Nat.reduceAdd, Nat.reduceLeDiff, Nat.reduceLT, Nat.reduceSub, Int.reduceToNat, ↓reduceIte, reduceCtorEq, encPs_length, hget, hx, encP_mk, encS_eq, ex_St, St_eta, ints_length, hal, List.length_append, List.length_cons, List.length_nil, ints_ap, ints_pt, n1, hsl, hone, hd1, decide_true, Int.toNat_natCast]))))) | (refine qt7 ?_ ?_; focus decide) | (refine qw7 ?_ ?_ ?_; (focus (decide +kernel)); (focus (decide +kernel)))))
        refine s_againR (k + 1) (fun i => if i = 1 then 6 else i) ?_ ?_ ?_ ?_ ?_ ?_ <;> (first | omega | (dsimp only; omega) | (intro i hi; (try dsimp only); (repeat' split) <;> omega) | (intro i j hi hj h; (try dsimp only at h); (repeat' split at h) <;> omega) | skip)
        all_goals (simp [fitsTR, fitsMR, PV.ren, renL, MB.ren, upd_def, PV.nmb, nmbL, MB.nmb, List.getD_cons_zero, List.getD_cons_succ, frz, drp, hs, hsn, plcN_append, plcN_cons34, hnm, ints, encS]; done)
      · have hd1 : decide (nm = m) = false := by simp [hnm]
        repeat' (first | (refine qw10 [0, 2] [0, 1, 2, 3, 4, 5, 7, 8, 9, 10, 11, 13] [0, 1, 2, 3, 4, 5, 7, 8, 9, 10, 6, 11, 12, 13] ?_ ?_; focus (decide +kernel)) | (refine s_draw 7 ?_ ?_; focus (decide +kernel)) | (first | ((first | apply qwd | apply qa1 | apply qa2 | apply qa3 | apply qh1 | apply qh2 | apply qm1 | apply qm2 | apply qm3 | apply qg1 rfl | apply qcd); (try intro K hk); focus (simp only [lvX34_70, mkT, go_sem, Nat.reduceEqDiff, Nat.reduceAdd, Nat.reduceLeDiff, Nat.reduceLT, Nat.reduceSub, Int.reduceToNat, ↓reduceIte, reduceCtorEq, encPs_length, hget, hx, encP_mk, encS_eq, ex_St, St_eta, ints_length, hal, List.length_append, List.length_cons, List.length_nil, ints_ap, ints_pt, n1, hsl, hone, hd1, decide_true, Int.toNat_natCast]; first | exact rfl | ((repeat (refine And.intro ?_ ?_; focus (first | omega | assumption | with_reducible rfl))); intros; apply hk; clear hk K))) | apply qw8 | apply qw1 | refine qwc lvX34_70 ?_ | apply qt1 | apply qw5 | apply qw2 | apply qw9 | apply qt2 | apply qt3 | apply qt4 | apply qt5 | apply qt6 | apply qw3 | apply qw4 | apply qj1 | apply qj2 | apply qj3 | apply qj4 | apply qj5 | apply qu1 | apply qu2 | apply qne | apply qyn | apply qyz | apply qy0 | refine qnt rfl rfl ?_ | refine qnf rfl rfl ?_ | refine qyc rfl ?_ | refine qy1 rfl ?_ | refine qy2 rfl ?_ ?_ | (refine qj6 ?_ ?_ <;> intro hc <;> (try simp only [hc]) <;> (try simp only [decide_eq_true_eq, decide_eq_false_iff_not, Bool.not_eq_true', Bool.not_eq_false', Bool.not_eq_true, reduceCtorEq] at hc) <;> (try (exfalso; omega))) | (refine qk1 ?_ ?_; focus (repeat (first | exact qsub0 | (refine qsub1 ?_ ?_; focus (simp only [go_sem, Nat.reduceEqDiff, Nat.reduceAdd, Nat.reduceLeDiff, Nat.reduceLT, Nat.reduceSub, Int.reduceToNat, ↓reduceIte, reduceCtorEq, encPs_length, hget, hx, encP_mk, encS_eq, ex_St, St_eta, ints_length, hal, List.length_append, List.length_cons, List.length_nil, ints_ap, ints_pt, n1, hsl, hone, hd1, decide_true, Int.toNat_natCast]))))) | (refine qt7 ?_ ?_; focus decide) | (refine qw7 ?_ ?_ ?_; (focus (decide +kernel)); (focus (decide +kernel)))))
        refine s_againR (k + 1) (fun i => if i = 1 then 4 else i) ?_ ?_ ?_ ?_ ?_ ?_ <;> (first | omega | (dsimp only; omega) | (intro i hi; (try dsimp only); (repeat' split) <;> omega) | (intro i j hi hj h; (try dsimp only at h); (repeat' split at h) <;> omega) | skip)
        all_goals (simp [fitsTR, fitsMR, PV.ren, renL, MB.ren, upd_def, PV.nmb, nmbL, MB.nmb, List.getD_cons_zero, List.getD_cons_succ, frz, drp, hs, hsn, plcN_append, plcN_cons34, hnm, ints, encS]; done)
    · rw [if_neg k2] at hs hw2
      simp only [List.length_nil] at hw2
      have e0 : plcN m [] = [] := rfl
      repeat' (first | (refine qw10 [0, 2] [0, 1, 2, 3, 4, 5, 7, 8, 9, 10, 11, 13] [0, 1, 2, 3, 4, 5, 7, 8, 9, 10, 6, 11, 12, 13] ?_ ?_; focus (decide +kernel)) | (refine s_draw 7 ?_ ?_; focus (decide +kernel)) | (first | ((first | apply qwd | apply qa1 | apply qa2 | apply qa3 | apply qh1 | apply qh2 | apply qm1 | apply qm2 | apply qm3 | apply qg1 rfl | apply qcd); (try intro K hk); focus (simp only [lvX34_70, mkT, go_sem, Nat.reduceEqDiff, Nat.reduceAdd, Nat.reduceLeDiff, Nat.reduceLT, Nat.reduceSub, Int.reduceToNat, ↓reduceIte, reduceCtorEq, encPs_length, hget, hx, encP_mk, encS_eq, ex_St, St_eta, ints_length, hal, List.length_append, List.length_cons, List.length_nil, ints_ap, ints_pt, n1, hsl, hone, k2, decide_false, Int.toNat_natCast]; first | exact rfl | ((repeat (refine And.intro ?_ ?_; focus (first | omega | assumption | with_reducible rfl))); intros; apply hk; clear hk K))) | apply qw8 | apply qw1 | refine qwc lvX34_70 ?_ | apply qt1 | apply qw5 | apply qw2 | apply qw9 | apply qt2 | apply qt3 | apply qt4 | apply qt5 | apply qt6 | apply qw3 | apply qw4 | apply qj1 | apply qj2 | apply qj3 | apply qj4 | apply qj5 | apply qu1 | apply qu2 | apply qne | apply qyn | apply qyz | apply qy0 | refine qnt rfl rfl ?_ | refine qnf rfl rfl ?_ | refine qyc rfl ?_ | refine qy1 rfl ?_ | refine qy2 rfl ?_ ?_ | (refine qj6 ?_ ?_ <;> intro hc <;> (try simp only [hc]) <;> (try simp only [decide_eq_true_eq, decide_eq_false_iff_not, Bool.not_eq_true', Bool.not_eq_false', Bool.not_eq_true, reduceCtorEq] at hc) <;> (try (exfalso; omega))) | (refine qk1 ?_ ?_; focus (repeat (first | exact qsub0 | (refine qsub1 ?_ ?_; focus (simp only [go_sem, Nat.reduceEqDiff, Nat.reduceAdd, Nat.reduceLeDiff, Nat.reduceLT, Nat.reduceSub, Int.reduceToNat, ↓reduceIte, reduceCtorEq, encPs_length, hget, hx, encP_mk, encS_eq, ex_St, St_eta, ints_length, hal, List.length_append, List.length_cons, List.length_nil, ints_ap, ints_pt, n1, hsl, hone, k2, decide_false, Int.toNat_natCast]))))) | (refine qt7 ?_ ?_; focus decide) | (refine qw7 ?_ ?_ ?_; (focus (decide +kernel)); (focus (decide +kernel)))))
      refine s_againR (k + 1) (fun i => if i = 1 then 4 else i) ?_ ?_ ?_ ?_ ?_ ?_ <;> (first | omega | (dsimp only; omega) | (intro i hi; (try dsimp only); (repeat' split) <;> omega) | (intro i j hi hj h; (try dsimp only at h); (repeat' split at h) <;> omega) | skip)
      all_goals (simp [fitsTR, fitsMR, PV.ren, renL, MB.ren, upd_def, PV.nmb, nmbL, MB.nmb, List.getD_cons_zero, List.getD_cons_succ, frz, drp, hs, hsn, plcN_append, e0, ints, encS]; done)
  · obtain rfl : k = xs.length := by omega
    repeat' (first | ((first | apply qwd | apply qa1 | apply qa2 | apply qa3 | apply qh1 | apply qh2 | apply qm1 | apply qm2 | apply qm3 | apply qg1 rfl | apply qcd); (try intro K hk); focus (simp only [lvX34_70, mkT, go_sem, Nat.reduceEqDiff, Nat.reduceAdd, Nat.reduceLeDiff, Nat.reduceLT, Nat.reduceSub, Int.reduceToNat, ↓reduceIte, reduceCtorEq, encPs_length]; first | exact rfl | ((repeat (refine And.intro ?_ ?_; focus (first | omega | assumption | with_reducible rfl))); intros; apply hk; clear hk K))) | apply qw8 | apply qw1 | refine qwc lvX34_70 ?_ | apply qt1 | apply qw5 | apply qw2 | apply qw9 | apply qt2 | apply qt3 | apply qt4 | apply qt5 | apply qt6 | apply qw3 | apply qw4 | apply qj1 | apply qj2 | apply qj3 | apply qj4 | apply qj5 | apply qu1 | apply qu2 | apply qne | apply qyn | apply qyz | apply qy0 | refine qnt rfl rfl ?_ | refine qnf rfl rfl ?_ | refine qyc rfl ?_ | refine qy1 rfl ?_ | refine qy2 rfl ?_ ?_ | (refine qj6 ?_ ?_ <;> intro hc <;> (try simp only [hc]) <;> (try simp only [decide_eq_true_eq, decide_eq_false_iff_not, Bool.not_eq_true', Bool.not_eq_false', Bool.not_eq_true, reduceCtorEq] at hc) <;> (try (exfalso; omega))) | (refine qk1 ?_ ?_; focus (repeat (first | exact qsub0 | (refine qsub1 ?_ ?_; focus (simp only [go_sem, Nat.reduceEqDiff, Nat.reduceAdd, Nat.reduceLeDiff, Nat.reduceLT, Nat.reduceSub, Int.reduceToNat, ↓reduceIte, reduceCtorEq, encPs_length]))))) | (refine qt7 ?_ ?_; focus decide) | (refine qw7 ?_ ?_ ?_; (focus (decide +kernel)); (focus (decide +kernel))))
    ((first | refine fin_ret ?_ | refine fin_end ?_); simp only [go_sem, ↓upd_def, Nat.reduceEqDiff, Nat.reduceAdd, ↓reduceIte, reduceCtorEq])
    rw [List.take_length] at *
    exact hK
theorem nps_sc : PureOk Try.prog 70 npsQ := rel_all (fun x : St × List PartD × Bs => wtL x.2.1) nps_s
theorem np_s : PureOk Try.prog 32 nplI := by
  refine pure_rel 2 (tab_cons nps_sc (tab_cons ts_s tab_nil)) mixed [.tmp 4] Try.func32 rfl rfl (by kernel_rfl) (by kernel_rfl) (fun _ => rfl) (by kernel_rfl) ?_
  rintro ⟨xs, m⟩ K ⟨hb, hml⟩ hK
  dsimp only at *
  unfold entry
  unfold namePl at hK
  cases hs : safeM xs
  · rw [hs] at hK
    repeat' (first | ((first | apply qwd | apply qa1 | apply qa2 | apply qa3 | apply qh1 | apply qh2 | apply qg1 rfl | apply qcd); (try intro K hk); focus (simp only [lvX34_32, mkT, go_sem, Nat.reduceEqDiff, Nat.reduceAdd, Nat.reduceLeDiff, Nat.reduceLT, Nat.reduceSub, Int.reduceToNat, ↓reduceIte, reduceCtorEq, encS_st0, hs, Bool.not_false]; first | exact rfl | ((repeat (refine And.intro ?_ ?_; focus (first | omega | assumption | with_reducible rfl))); intros; apply hk; clear hk K))) | apply qw8 | apply qw1 | refine qwc lvX34_32 ?_ | apply qt1 | apply qw5 | apply qw2 | apply qw9 | apply qt2 | apply qt3 | apply qt4 | apply qt5 | apply qt6 | apply qw3 | apply qw4 | apply qj1 | apply qj2 | apply qj3 | apply qj4 | apply qj5 | apply qu1 | apply qu2 | (refine qj6 ?_ ?_ <;> intro hc <;> (try simp only [hc]) <;> (try simp only [decide_eq_true_eq, decide_eq_false_iff_not, Bool.not_eq_true', Bool.not_eq_false', Bool.not_eq_true, reduceCtorEq] at hc) <;> (try (exfalso; omega))) | (refine qt7 ?_ ?_; focus decide) | (refine qw7 ?_ ?_ ?_; (focus (decide +kernel)); (focus (decide +kernel))))
    ((first | refine fin_ret ?_ | refine fin_end ?_); simp only [go_sem, ↓upd_def, Nat.reduceEqDiff, Nat.reduceAdd, ↓reduceIte, reduceCtorEq])
    exact hK
  · obtain ⟨h1, h2, h3, h4⟩ := safe_parts hs
    rw [hs, if_pos rfl] at hK
    have g1 : ∃ d b, gdL d b xs = true := ⟨_, _, h2⟩
    have st9 := stV_st0
    repeat' (first | ((first | apply qwd | apply qa1 | apply qa2 | apply qa3 | apply qh1 | apply qh2 | apply qg1 rfl | apply qcd); (try intro K hk); focus (simp only [lvX34_32, mkT, go_sem, Nat.reduceEqDiff, Nat.reduceAdd, Nat.reduceLeDiff, Nat.reduceLT, Nat.reduceSub, Int.reduceToNat, ↓reduceIte, reduceCtorEq, encS_st0, encS_eq, ex_St, St_eta, hs, Bool.not_true]; first | exact rfl | ((repeat (refine And.intro ?_ ?_; focus (first | omega | assumption | with_reducible rfl))); intros; apply hk; clear hk K))) | apply qw8 | apply qw1 | refine qwc lvX34_32 ?_ | apply qt1 | apply qw5 | apply qw2 | apply qw9 | apply qt2 | apply qt3 | apply qt4 | apply qt5 | apply qt6 | apply qw3 | apply qw4 | apply qj1 | apply qj2 | apply qj3 | apply qj4 | apply qj5 | apply qu1 | apply qu2 | (refine qj6 ?_ ?_ <;> intro hc <;> (try simp only [hc]) <;> (try simp only [decide_eq_true_eq, decide_eq_false_iff_not, Bool.not_eq_true', Bool.not_eq_false', Bool.not_eq_true, reduceCtorEq] at hc) <;> (try (exfalso; omega))) | (refine qt7 ?_ ?_; focus decide) | (refine qw7 ?_ ?_ ?_; (focus (decide +kernel)); (focus (decide +kernel))))
    ((first | refine fin_ret ?_ | refine fin_end ?_); simp only [go_sem, ↓upd_def, Nat.reduceEqDiff, Nat.reduceAdd, ↓reduceIte, reduceCtorEq])
    exact hK
end Go.Proofs.Ytdedddmnacomfaa
