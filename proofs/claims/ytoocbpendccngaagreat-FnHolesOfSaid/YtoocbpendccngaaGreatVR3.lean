/- Contracts: drawn parts, deeper. -/
import Derived.Test.YtoocbpendccngaaGreatVR2

namespace Go.Proofs.YtoocbpendccngaaGreat
attribute [local irreducible] awp arun acalm FinP Fin AX.then AX.inBlock Again aG gsel amix amixN amixC aop aopc aopd cutK
attribute [local go_sem] aBSliceD aSlice aSliceC boundOf aMk aCall aCallC aLenL aLen aPick_t aPick_f aNil aAlloc aBox aBuild bldPV aBSlice bsPV aApp newsOf destOf drp aConvX aConv aConvInt aLoad cellsAt aStore cellsPV setAt aFld aField aIdx aIndex aUn aBin' aBin aMax aExtract pvOf PV.isCell nmbL PV.nmb List.map_cons List.map_nil List.all_cons List.all_nil Bool.and_true Bool.true_and if_true if_false List.getD_cons_zero List.getD_cons_succ List.getD_nil Option.isSome_some true_and and_true and_self eq_self true_or or_true List.drop_zero List.drop_succ_cons List.drop_nil List.take_zero List.take_succ_cons List.take_nil List.length_cons List.length_nil List.length_map Option.getD_some Option.getD_none List.nil_append List.cons_append List.append_nil Option.some.injEq exists_eq_left' List.getElem?_cons_zero List.getElem?_cons_succ Int.toNat_natCast Int.natCast_inj toNat_succ Nat.zero_add res res1 resC owns owns1 ownsC List.flatMap_cons List.flatMap_nil List.flatten_cons List.flatten_nil List.mem_cons List.not_mem_nil or_false false_or forall_eq forall_eq_or_imp isFro frz frz1 pureC tabA isBld List.cons.injEq PV.seq.injEq PV.int.injEq PV.str.injEq PV.bool.injEq PV.agg.injEq inR tab Γof aRes packR Option.map_some Option.map_none rel Prod.exists exists_and_left exists_eq_left and_assoc beq_self_eq_true Bool.not_true Bool.not_false decide_true decide_false List.set_cons_zero List.set_cons_succ rst_nil rst_cons
attribute [local go_sem ↓] evT upd_def aop aopc aopd
set_option maxRecDepth 100000
set_option linter.unusedVariables false
set_option linter.unusedSimpArgs false
open Go.RowKit
def lvR3_67 : Nat → List Nat
  | 0 => [0, 1]
  | 1 => [0, 1, 5]
  | 2 => [0, 1, 5, 6]
  | 3 => [0, 1, 5, 6, 14]
  | 4 => [0, 1, 5, 6]
  | 5 => [0, 1, 5, 6, 7]
  | 6 => [0, 1, 5, 6, 7, 21]
  | 7 => [0, 1, 5, 6, 23]
  | 8 => [0, 1, 5, 6]
  | 9 => [0, 1, 5, 6, 7, 21, 36]
  | 10 => [0, 1, 5, 6]
  | 11 => [0, 1, 5, 6, 7, 21, 40]
  | 12 => [0, 1, 5, 6]
  | 13 => [0, 1, 5, 6]
  | 14 => [0, 1, 5, 6, 7, 21, 49]
  | 15 => [0, 1, 5, 6]
  | 16 => [0, 1, 5, 6]
  | 17 => [0, 1, 5, 6, 7, 21, 58]
  | 18 => [0, 1, 5, 6]
  | 19 => [0, 1, 5, 6]
  | 20 => [0, 1, 5, 6, 7, 21, 67]
  | 21 => [0, 1, 5, 6]
  | 22 => [0, 1, 5, 6]
  | 23 => [0, 1, 5, 6, 7, 21, 76]
  | 24 => [0, 1, 5, 6]
  | 25 => [0, 1, 5, 6]
  | 26 => [0, 1, 5, 6, 7, 21, 85]
  | 27 => [0, 1, 5, 6]
  | 28 => [0, 1, 5, 6, 91]
  | 29 => [0, 1, 5, 6, 94]
  | 30 => [0, 1, 5, 6, 8]
  | 31 => [0, 1, 5, 6, 8, 104]
  | 32 => [0, 1, 5, 6, 8]
  | 33 => [0, 1, 5, 6]
  | 34 => [4]
  | _ => []
--LV=R3
theorem put_ok' : ACok Tryz.prog 106 (frz2 putC) := frz2_ok put_ok
set_option maxHeartbeats 16000000 in
theorem prt1 : ACok Tryz.prog 67 (prtC0 1 780 100) := by
  refine locO_ok 2 (tabA_cons pick_ok (tabA_cons nmD_ok (tabA_cons add_ok (tabA_cons prt0' (tabA_cons put_ok' (tabA_nil (Γof_ok tab_nil))))))) tab_nil mixed [.tmp 4] Tryz.func67 rfl rfl (by kernel_rfl) (by kernel_rfl) (fun _ => rfl) (by kernel_rfl) (fun x => by simp [nmbL, PV.nmb]) (fun x => by simp [go_sem, MB.nmb, nmbL, PV.nmb]) ?_
  rintro ⟨l, p⟩ K ⟨hl, h0, h1⟩ hK
  dsimp only at *
  unfold entry
  simp only [mkM, rdB] at *
  repeat' (first | ((first | apply qwd | apply qa1 | apply qa2 | apply qa3 | apply qh1 | apply qh2 | apply qm1 | apply qm2 | apply qm3 | apply qg1 rfl | apply qcd); (try intro K hk); focus (simp only [lvR3_67, mkT, go_sem, Nat.reduceEqDiff, Nat.reduceAdd, Nat.reduceLeDiff, Nat.reduceLT, Nat.reduceSub, Int.reduceToNat, ↓reduceIte, reduceCtorEq, exl, enc_nil]; first | exact rfl | ((repeat (refine And.intro ?_ ?_; focus (first | omega | assumption | with_reducible rfl))); intros; apply hk; clear hk K))) | apply qw8 | apply qw1 | refine qwc lvR3_67 ?_ | apply qt1 | apply qw5 | apply qw2 | apply qw9 | apply qt2 | apply qt3 | apply qt4 | apply qt5 | apply qt6 | apply qw3 | apply qw4 | apply qj1 | apply qj2 | apply qj3 | apply qj4 | apply qj5 | apply qu1 | apply qu2 | apply qne | apply qyn | apply qyz | apply qy0 | refine qnt rfl rfl ?_ | refine qnf rfl rfl ?_ | refine qyc rfl ?_ | refine qy1 rfl ?_ | refine qy2 rfl ?_ ?_ | (refine qj6 ?_ ?_ <;> intro hc <;> (try simp only [hc]) <;> (try simp only [decide_eq_true_eq, decide_eq_false_iff_not, Bool.not_eq_true', Bool.not_eq_false', Bool.not_eq_true, reduceCtorEq] at hc) <;> (try (exfalso; omega))) | (refine qk1 ?_ ?_; focus (repeat (first | exact qsub0 | (refine qsub1 ?_ ?_; focus (simp only [go_sem, Nat.reduceEqDiff, Nat.reduceAdd, Nat.reduceLeDiff, Nat.reduceLT, Nat.reduceSub, Int.reduceToNat, ↓reduceIte, reduceCtorEq, exl, enc_nil]))))) | (refine qt7 ?_ ?_; focus decide) | (refine qw7 ?_ ?_ ?_; (focus (decide +kernel)); (focus (decide +kernel))))
  rename_i k0 k1 k2
  refine s_loop (ι := Int × List PartD × Int) (fun i => [(0, .ref 0 0), (1, .int .i64 1), (5, .own 1), (6, .int .i64 i.1)]) (fun i => [(0, .box [.seq (l.map bc), .int .i64 i.2.2]), (1, .row 93 5 (encPs i.2.1))]) 2 (fun i => 0 ≤ i.1 ∧ i.1 ≤ 3 ∧ (wtL i.2.1 : Int) ≤ (3 - i.1) * 260 ∧ p ≤ i.2.2 ∧ i.2.2 ≤ p + 1 + (3 - i.1) * 33) (fun i => i.1.toNat) (1 + k0, [], p + 1) (by omega) ⟨by dsimp only; omega, by dsimp only; omega, by simp [wtL_nil]; omega, by dsimp only; omega, by dsimp only; omega⟩ ?_ ?_
  · simp [fits, fitsT, fitsM, upd_def, PV.nmb, nmbL, MB.nmb, List.getD_cons_zero, List.getD_cons_succ, encPs_nil]
  rintro ⟨m, xs, p2⟩ ⟨g0, g1, g2, g3, g4⟩
  dsimp only at *
  have hxa := encPs_all xs
  have hxl := len_le_wtL xs
  simp only [mkS, mkT, mkM]
  repeat' (first | ((first | apply qwd | apply qa1 | apply qa2 | apply qa3 | apply qh1 | apply qh2 | apply qm1 | apply qm2 | apply qm3 | apply qg1 rfl | apply qcd); (try intro K hk); focus (simp only [lvR3_67, mkT, go_sem, Nat.reduceEqDiff, Nat.reduceAdd, Nat.reduceLeDiff, Nat.reduceLT, Nat.reduceSub, Int.reduceToNat, ↓reduceIte, reduceCtorEq, exl, enc_nil, enc_snoc0, enc_snoc1, enc_snoc, encPs_iff, wtL_append, wtL_one, wtP_mk, wtL_nil]; first | exact rfl | ((repeat (refine And.intro ?_ ?_; focus (first | omega | assumption | with_reducible rfl))); intros; apply hk; clear hk K))) | apply qw8 | apply qw1 | refine qwc lvR3_67 ?_ | apply qt1 | apply qw5 | apply qw2 | apply qw9 | apply qt2 | apply qt3 | apply qt4 | apply qt5 | apply qt6 | apply qw3 | apply qw4 | apply qj1 | apply qj2 | apply qj3 | apply qj4 | apply qj5 | apply qu1 | apply qu2 | apply qne | apply qyn | apply qyz | apply qy0 | refine qnt rfl rfl ?_ | refine qnf rfl rfl ?_ | refine qyc rfl ?_ | refine qy1 rfl ?_ | refine qy2 rfl ?_ ?_ | (refine qj6 ?_ ?_ <;> intro hc <;> (try simp only [hc]) <;> (try simp only [decide_eq_true_eq, decide_eq_false_iff_not, Bool.not_eq_true', Bool.not_eq_false', Bool.not_eq_true, reduceCtorEq] at hc) <;> (try (exfalso; omega))) | (refine qk1 ?_ ?_; focus (repeat (first | exact qsub0 | (refine qsub1 ?_ ?_; focus (simp only [go_sem, Nat.reduceEqDiff, Nat.reduceAdd, Nat.reduceLeDiff, Nat.reduceLT, Nat.reduceSub, Int.reduceToNat, ↓reduceIte, reduceCtorEq, exl, enc_nil, enc_snoc0, enc_snoc1, enc_snoc, encPs_iff, wtL_append, wtL_one, wtP_mk, wtL_nil]))))) | (refine qt7 ?_ ?_; focus decide) | (refine qw7 ?_ ?_ ?_; (focus (decide +kernel)); (focus (decide +kernel))))
  all_goals (try (refine qw10 [2] [0, 2, 3, 5] [0, 2, 3, 1, 4, 5] ?_ ?_; focus (decide +kernel)))
  all_goals repeat' (first | ((first | apply qwd | apply qa1 | apply qa2 | apply qa3 | apply qh1 | apply qh2 | apply qm1 | apply qm2 | apply qm3 | apply qg1 rfl | apply qcd); (try intro K hk); focus (simp only [lvR3_67, mkT, go_sem, Nat.reduceEqDiff, Nat.reduceAdd, Nat.reduceLeDiff, Nat.reduceLT, Nat.reduceSub, Int.reduceToNat, ↓reduceIte, reduceCtorEq, exl, enc_nil, enc_snoc0, enc_snoc1, enc_snoc, encPs_iff, wtL_append, wtL_one, wtP_mk, wtL_nil]; first | exact rfl | ((repeat (refine And.intro ?_ ?_; focus (first | omega | assumption | with_reducible rfl))); intros; apply hk; clear hk K))) | apply qw8 | apply qw1 | refine qwc lvR3_67 ?_ | apply qt1 | apply qw5 | apply qw2 | apply qw9 | apply qt2 | apply qt3 | apply qt4 | apply qt5 | apply qt6 | apply qw3 | apply qw4 | apply qj1 | apply qj2 | apply qj3 | apply qj4 | apply qj5 | apply qu1 | apply qu2 | apply qne | apply qyn | apply qyz | apply qy0 | refine qnt rfl rfl ?_ | refine qnf rfl rfl ?_ | refine qyc rfl ?_ | refine qy1 rfl ?_ | refine qy2 rfl ?_ ?_ | (refine qj6 ?_ ?_ <;> intro hc <;> (try simp only [hc]) <;> (try simp only [decide_eq_true_eq, decide_eq_false_iff_not, Bool.not_eq_true', Bool.not_eq_false', Bool.not_eq_true, reduceCtorEq] at hc) <;> (try (exfalso; omega))) | (refine qk1 ?_ ?_; focus (repeat (first | exact qsub0 | (refine qsub1 ?_ ?_; focus (simp only [go_sem, Nat.reduceEqDiff, Nat.reduceAdd, Nat.reduceLeDiff, Nat.reduceLT, Nat.reduceSub, Int.reduceToNat, ↓reduceIte, reduceCtorEq, exl, enc_nil, enc_snoc0, enc_snoc1, enc_snoc, encPs_iff, wtL_append, wtL_one, wtP_mk, wtL_nil]))))) | (refine qt7 ?_ ?_; focus decide) | (refine qw7 ?_ ?_ ?_; (focus (decide +kernel)); (focus (decide +kernel))))
  rotate_right
  · ((first | refine fin_V ?_ | refine fin_Ve ?_ | refine fin_O ?_ | refine fin_Oe ?_ | refine fin_X ?_ | refine fin_Xe ?_ | refine fin_B ?_ | refine fin_Be ?_); simp only [go_sem, PV.own.injEq, MB.row.injEq, MB.nmb, not_false_eq_true, ne_eq, ↓upd_def, Nat.reduceEqDiff, Nat.reduceAdd, ↓reduceIte, reduceCtorEq])
    exact hK _ _ ⟨_, _, rfl, rfl, by omega, by omega, by omega⟩
  · rename p2 ≤ _ => hp9; obtain ⟨q9, hq9, _⟩ := le_ex hp9; subst hq9; rename Bs => s9; rename List PartD => y9
    refine s_againR ((m - 1, y9, q9 + 1)) (fun i => if i = 1 then 3 else i) ?_ ?_ ?_ ?_ ?_ ?_ <;> (first | omega | (dsimp only; omega) | (intro i hi; (try dsimp only); (repeat' split) <;> omega) | (intro i j hi hj h; (try dsimp only at h); (repeat' split at h) <;> omega) | skip)
    all_goals (simp [fitsTR, fitsMR, PV.ren, renL, MB.ren, upd_def, PV.nmb, nmbL, MB.nmb, List.getD_cons_zero, List.getD_cons_succ, frz, drp, enc_snoc, enc_snoc0, enc_snoc1]; done)
  · rename p2 ≤ _ => hp9; obtain ⟨q9, hq9, _⟩ := le_ex hp9; subst hq9; rename Bs => s9; rename List PartD => y9
    refine s_againR ((m - 1, y9, q9 + 1)) (fun i => if i = 1 then 5 else i) ?_ ?_ ?_ ?_ ?_ ?_ <;> (first | omega | (dsimp only; omega) | (intro i hi; (try dsimp only); (repeat' split) <;> omega) | (intro i j hi hj h; (try dsimp only at h); (repeat' split at h) <;> omega) | skip)
    all_goals (simp [fitsTR, fitsMR, PV.ren, renL, MB.ren, upd_def, PV.nmb, nmbL, MB.nmb, List.getD_cons_zero, List.getD_cons_succ, frz, drp, enc_snoc, enc_snoc0, enc_snoc1]; done)
  · rename p2 ≤ _ => hp9; obtain ⟨q9, hq9, _⟩ := le_ex hp9; subst hq9; rename Bs => s9; rename List PartD => y9
    refine s_againR ((m - 1, y9, q9 + 1)) (fun i => if i = 1 then 5 else i) ?_ ?_ ?_ ?_ ?_ ?_ <;> (first | omega | (dsimp only; omega) | (intro i hi; (try dsimp only); (repeat' split) <;> omega) | (intro i j hi hj h; (try dsimp only at h); (repeat' split at h) <;> omega) | skip)
    all_goals (simp [fitsTR, fitsMR, PV.ren, renL, MB.ren, upd_def, PV.nmb, nmbL, MB.nmb, List.getD_cons_zero, List.getD_cons_succ, frz, drp, enc_snoc, enc_snoc0, enc_snoc1]; done)
  · rename p2 ≤ _ => hp9; obtain ⟨q9, hq9, _⟩ := le_ex hp9; subst hq9; rename Bs => s9; rename List PartD => y9
    refine s_againR ((m - 1, y9, q9 + 1)) (fun i => if i = 1 then 5 else i) ?_ ?_ ?_ ?_ ?_ ?_ <;> (first | omega | (dsimp only; omega) | (intro i hi; (try dsimp only); (repeat' split) <;> omega) | (intro i j hi hj h; (try dsimp only at h); (repeat' split at h) <;> omega) | skip)
    all_goals (simp [fitsTR, fitsMR, PV.ren, renL, MB.ren, upd_def, PV.nmb, nmbL, MB.nmb, List.getD_cons_zero, List.getD_cons_succ, frz, drp, enc_snoc, enc_snoc0, enc_snoc1]; done)
  · rename p2 ≤ _ => hp9; obtain ⟨q9, hq9, _⟩ := le_ex hp9; subst hq9; rename Bs => s9; rename List PartD => y9
    refine s_againR ((m - 1, y9, q9 + 1)) (fun i => if i = 1 then 5 else i) ?_ ?_ ?_ ?_ ?_ ?_ <;> (first | omega | (dsimp only; omega) | (intro i hi; (try dsimp only); (repeat' split) <;> omega) | (intro i j hi hj h; (try dsimp only at h); (repeat' split at h) <;> omega) | skip)
    all_goals (simp [fitsTR, fitsMR, PV.ren, renL, MB.ren, upd_def, PV.nmb, nmbL, MB.nmb, List.getD_cons_zero, List.getD_cons_succ, frz, drp, enc_snoc, enc_snoc0, enc_snoc1]; done)
  · rename p2 ≤ _ => hp9; obtain ⟨q9, hq9, _⟩ := le_ex hp9; subst hq9; rename Bs => s9; rename List PartD => y9
    refine s_againR ((m - 1, y9, q9 + 1)) (fun i => if i = 1 then 5 else i) ?_ ?_ ?_ ?_ ?_ ?_ <;> (first | omega | (dsimp only; omega) | (intro i hi; (try dsimp only); (repeat' split) <;> omega) | (intro i j hi hj h; (try dsimp only at h); (repeat' split at h) <;> omega) | skip)
    all_goals (simp [fitsTR, fitsMR, PV.ren, renL, MB.ren, upd_def, PV.nmb, nmbL, MB.nmb, List.getD_cons_zero, List.getD_cons_succ, frz, drp, enc_snoc, enc_snoc0, enc_snoc1]; done)
  · rename p2 ≤ _ => hp9; obtain ⟨q9, hq9, _⟩ := le_ex hp9; subst hq9; rename Bs => s9; rename List PartD => y9
    refine s_againR ((m - 1, y9 ++ [.mk 2 [] s9 [] []], q9 + 1)) (fun i => if i = 1 then 4 else i) ?_ ?_ ?_ ?_ ?_ ?_ <;> (first | omega | (dsimp only; omega) | (intro i hi; (try dsimp only); (repeat' split) <;> omega) | (intro i j hi hj h; (try dsimp only at h); (repeat' split at h) <;> omega) | skip)
    · simp only [wtL_append, wtL_one, wtP_mk, wtL_nil]; dsimp only [List.length_nil]; omega
    all_goals (simp [fitsTR, fitsMR, PV.ren, renL, MB.ren, upd_def, PV.nmb, nmbL, MB.nmb, List.getD_cons_zero, List.getD_cons_succ, frz, drp, enc_snoc, enc_snoc0, enc_snoc1]; done)
  · rename_i s9 q1 _ _ _ y1 q2 _ _ _ _ k9 _ _ y2 q3 _ _ _ _
    refine s_againR ((m - 1, xs ++ [.mk 3 [] s9 y1 y2], q3)) (fun i => if i = 1 then 7 else i) ?_ ?_ ?_ ?_ ?_ ?_ <;> (first | omega | (dsimp only; omega) | (intro i hi; (try dsimp only); (repeat' split) <;> omega) | (intro i j hi hj h; (try dsimp only at h); (repeat' split at h) <;> omega) | skip)
    · simp only [wtL_append, wtL_one, wtP_mk, wtL_nil]; dsimp only [List.length_nil]; omega
    all_goals (simp [fitsTR, fitsMR, PV.ren, renL, MB.ren, upd_def, PV.nmb, nmbL, MB.nmb, List.getD_cons_zero, List.getD_cons_succ, frz, drp, enc_snoc, enc_snoc0, enc_snoc1]; done)
  · rename_i s9 q1 _ _ _ y1 q2 _ _ _ _ k9 _ _
    refine s_againR ((m - 1, xs ++ [.mk 3 [] s9 y1 []], q2 + 1)) (fun i => if i = 1 then 6 else i) ?_ ?_ ?_ ?_ ?_ ?_ <;> (first | omega | (dsimp only; omega) | (intro i hi; (try dsimp only); (repeat' split) <;> omega) | (intro i j hi hj h; (try dsimp only at h); (repeat' split at h) <;> omega) | skip)
    · simp only [wtL_append, wtL_one, wtP_mk, wtL_nil]; dsimp only [List.length_nil]; omega
    all_goals (simp [fitsTR, fitsMR, PV.ren, renL, MB.ren, upd_def, PV.nmb, nmbL, MB.nmb, List.getD_cons_zero, List.getD_cons_succ, frz, drp, enc_snoc, enc_snoc0, enc_snoc1]; done)
  · rename_i s9 q1 _ _ _ y1 q2 _ _ _ _ y2 _ _
    refine s_againR ((m - 1, xs ++ [.mk 4 [] s9 y2 []], q2)) (fun i => if i = 1 then 7 else i) ?_ ?_ ?_ ?_ ?_ ?_ <;> (first | omega | (dsimp only; omega) | (intro i hi; (try dsimp only); (repeat' split) <;> omega) | (intro i j hi hj h; (try dsimp only at h); (repeat' split at h) <;> omega) | skip)
    · simp only [wtL_append, wtL_one, wtP_mk, wtL_nil]; dsimp only [List.length_nil]; omega
    all_goals (simp [fitsTR, fitsMR, PV.ren, renL, MB.ren, upd_def, PV.nmb, nmbL, MB.nmb, List.getD_cons_zero, List.getD_cons_succ, frz, drp, enc_snoc, enc_snoc0, enc_snoc1]; done)
theorem prt1' : ACok Tryz.prog 67 (prtC 1 780 100) := prt_of prt1
set_option maxHeartbeats 16000000 in
theorem prt2 : ACok Tryz.prog 67 (prtC0 2 4800 700) := by
  refine locO_ok 2 (tabA_cons pick_ok (tabA_cons nmD_ok (tabA_cons add_ok (tabA_cons prt1' (tabA_cons put_ok' (tabA_nil (Γof_ok tab_nil))))))) tab_nil mixed [.tmp 4] Tryz.func67 rfl rfl (by kernel_rfl) (by kernel_rfl) (fun _ => rfl) (by kernel_rfl) (fun x => by simp [nmbL, PV.nmb]) (fun x => by simp [go_sem, MB.nmb, nmbL, PV.nmb]) ?_
  rintro ⟨l, p⟩ K ⟨hl, h0, h1⟩ hK
  dsimp only at *
  unfold entry
  simp only [mkM, rdB] at *
  repeat' (first | ((first | apply qwd | apply qa1 | apply qa2 | apply qa3 | apply qh1 | apply qh2 | apply qm1 | apply qm2 | apply qm3 | apply qg1 rfl | apply qcd); (try intro K hk); focus (simp only [lvR3_67, mkT, go_sem, Nat.reduceEqDiff, Nat.reduceAdd, Nat.reduceLeDiff, Nat.reduceLT, Nat.reduceSub, Int.reduceToNat, ↓reduceIte, reduceCtorEq, exl, enc_nil]; first | exact rfl | ((repeat (refine And.intro ?_ ?_; focus (first | omega | assumption | with_reducible rfl))); intros; apply hk; clear hk K))) | apply qw8 | apply qw1 | refine qwc lvR3_67 ?_ | apply qt1 | apply qw5 | apply qw2 | apply qw9 | apply qt2 | apply qt3 | apply qt4 | apply qt5 | apply qt6 | apply qw3 | apply qw4 | apply qj1 | apply qj2 | apply qj3 | apply qj4 | apply qj5 | apply qu1 | apply qu2 | apply qne | apply qyn | apply qyz | apply qy0 | refine qnt rfl rfl ?_ | refine qnf rfl rfl ?_ | refine qyc rfl ?_ | refine qy1 rfl ?_ | refine qy2 rfl ?_ ?_ | (refine qj6 ?_ ?_ <;> intro hc <;> (try simp only [hc]) <;> (try simp only [decide_eq_true_eq, decide_eq_false_iff_not, Bool.not_eq_true', Bool.not_eq_false', Bool.not_eq_true, reduceCtorEq] at hc) <;> (try (exfalso; omega))) | (refine qk1 ?_ ?_; focus (repeat (first | exact qsub0 | (refine qsub1 ?_ ?_; focus (simp only [go_sem, Nat.reduceEqDiff, Nat.reduceAdd, Nat.reduceLeDiff, Nat.reduceLT, Nat.reduceSub, Int.reduceToNat, ↓reduceIte, reduceCtorEq, exl, enc_nil]))))) | (refine qt7 ?_ ?_; focus decide) | (refine qw7 ?_ ?_ ?_; (focus (decide +kernel)); (focus (decide +kernel))))
  rename_i k0 k1 k2
  refine s_loop (ι := Int × List PartD × Int) (fun i => [(0, .ref 0 0), (1, .int .i64 2), (5, .own 1), (6, .int .i64 i.1)]) (fun i => [(0, .box [.seq (l.map bc), .int .i64 i.2.2]), (1, .row 93 5 (encPs i.2.1))]) 2 (fun i => 0 ≤ i.1 ∧ i.1 ≤ 3 ∧ (wtL i.2.1 : Int) ≤ (3 - i.1) * 1600 ∧ p ≤ i.2.2 ∧ i.2.2 ≤ p + 1 + (3 - i.1) * 220) (fun i => i.1.toNat) (1 + k0, [], p + 1) (by omega) ⟨by dsimp only; omega, by dsimp only; omega, by simp [wtL_nil]; omega, by dsimp only; omega, by dsimp only; omega⟩ ?_ ?_
  · simp [fits, fitsT, fitsM, upd_def, PV.nmb, nmbL, MB.nmb, List.getD_cons_zero, List.getD_cons_succ, encPs_nil]
  rintro ⟨m, xs, p2⟩ ⟨g0, g1, g2, g3, g4⟩
  dsimp only at *
  have hxa := encPs_all xs
  have hxl := len_le_wtL xs
  simp only [mkS, mkT, mkM]
  repeat' (first | ((first | apply qwd | apply qa1 | apply qa2 | apply qa3 | apply qh1 | apply qh2 | apply qm1 | apply qm2 | apply qm3 | apply qg1 rfl | apply qcd); (try intro K hk); focus (simp only [lvR3_67, mkT, go_sem, Nat.reduceEqDiff, Nat.reduceAdd, Nat.reduceLeDiff, Nat.reduceLT, Nat.reduceSub, Int.reduceToNat, ↓reduceIte, reduceCtorEq, exl, enc_nil, enc_snoc0, enc_snoc1, enc_snoc, encPs_iff, wtL_append, wtL_one, wtP_mk, wtL_nil]; first | exact rfl | ((repeat (refine And.intro ?_ ?_; focus (first | omega | assumption | with_reducible rfl))); intros; apply hk; clear hk K))) | apply qw8 | apply qw1 | refine qwc lvR3_67 ?_ | apply qt1 | apply qw5 | apply qw2 | apply qw9 | apply qt2 | apply qt3 | apply qt4 | apply qt5 | apply qt6 | apply qw3 | apply qw4 | apply qj1 | apply qj2 | apply qj3 | apply qj4 | apply qj5 | apply qu1 | apply qu2 | apply qne | apply qyn | apply qyz | apply qy0 | refine qnt rfl rfl ?_ | refine qnf rfl rfl ?_ | refine qyc rfl ?_ | refine qy1 rfl ?_ | refine qy2 rfl ?_ ?_ | (refine qj6 ?_ ?_ <;> intro hc <;> (try simp only [hc]) <;> (try simp only [decide_eq_true_eq, decide_eq_false_iff_not, Bool.not_eq_true', Bool.not_eq_false', Bool.not_eq_true, reduceCtorEq] at hc) <;> (try (exfalso; omega))) | (refine qk1 ?_ ?_; focus (repeat (first | exact qsub0 | (refine qsub1 ?_ ?_; focus (simp only [go_sem, Nat.reduceEqDiff, Nat.reduceAdd, Nat.reduceLeDiff, Nat.reduceLT, Nat.reduceSub, Int.reduceToNat, ↓reduceIte, reduceCtorEq, exl, enc_nil, enc_snoc0, enc_snoc1, enc_snoc, encPs_iff, wtL_append, wtL_one, wtP_mk, wtL_nil]))))) | (refine qt7 ?_ ?_; focus decide) | (refine qw7 ?_ ?_ ?_; (focus (decide +kernel)); (focus (decide +kernel))))
  all_goals (try (refine qw10 [2] [0, 2, 3, 5] [0, 2, 3, 1, 4, 5] ?_ ?_; focus (decide +kernel)))
  all_goals repeat' (first | ((first | apply qwd | apply qa1 | apply qa2 | apply qa3 | apply qh1 | apply qh2 | apply qm1 | apply qm2 | apply qm3 | apply qg1 rfl | apply qcd); (try intro K hk); focus (simp only [lvR3_67, mkT, go_sem, Nat.reduceEqDiff, Nat.reduceAdd, Nat.reduceLeDiff, Nat.reduceLT, Nat.reduceSub, Int.reduceToNat, ↓reduceIte, reduceCtorEq, exl, enc_nil, enc_snoc0, enc_snoc1, enc_snoc, encPs_iff, wtL_append, wtL_one, wtP_mk, wtL_nil]; first | exact rfl | ((repeat (refine And.intro ?_ ?_; focus (first | omega | assumption | with_reducible rfl))); intros; apply hk; clear hk K))) | apply qw8 | apply qw1 | refine qwc lvR3_67 ?_ | apply qt1 | apply qw5 | apply qw2 | apply qw9 | apply qt2 | apply qt3 | apply qt4 | apply qt5 | apply qt6 | apply qw3 | apply qw4 | apply qj1 | apply qj2 | apply qj3 | apply qj4 | apply qj5 | apply qu1 | apply qu2 | apply qne | apply qyn | apply qyz | apply qy0 | refine qnt rfl rfl ?_ | refine qnf rfl rfl ?_ | refine qyc rfl ?_ | refine qy1 rfl ?_ | refine qy2 rfl ?_ ?_ | (refine qj6 ?_ ?_ <;> intro hc <;> (try simp only [hc]) <;> (try simp only [decide_eq_true_eq, decide_eq_false_iff_not, Bool.not_eq_true', Bool.not_eq_false', Bool.not_eq_true, reduceCtorEq] at hc) <;> (try (exfalso; omega))) | (refine qk1 ?_ ?_; focus (repeat (first | exact qsub0 | (refine qsub1 ?_ ?_; focus (simp only [go_sem, Nat.reduceEqDiff, Nat.reduceAdd, Nat.reduceLeDiff, Nat.reduceLT, Nat.reduceSub, Int.reduceToNat, ↓reduceIte, reduceCtorEq, exl, enc_nil, enc_snoc0, enc_snoc1, enc_snoc, encPs_iff, wtL_append, wtL_one, wtP_mk, wtL_nil]))))) | (refine qt7 ?_ ?_; focus decide) | (refine qw7 ?_ ?_ ?_; (focus (decide +kernel)); (focus (decide +kernel))))
  rotate_right
  · ((first | refine fin_V ?_ | refine fin_Ve ?_ | refine fin_O ?_ | refine fin_Oe ?_ | refine fin_X ?_ | refine fin_Xe ?_ | refine fin_B ?_ | refine fin_Be ?_); simp only [go_sem, PV.own.injEq, MB.row.injEq, MB.nmb, not_false_eq_true, ne_eq, ↓upd_def, Nat.reduceEqDiff, Nat.reduceAdd, ↓reduceIte, reduceCtorEq])
    exact hK _ _ ⟨_, _, rfl, rfl, by omega, by omega, by omega⟩
  · rename p2 ≤ _ => hp9; obtain ⟨q9, hq9, _⟩ := le_ex hp9; subst hq9; rename Bs => s9; rename List PartD => y9
    refine s_againR ((m - 1, y9, q9 + 1)) (fun i => if i = 1 then 3 else i) ?_ ?_ ?_ ?_ ?_ ?_ <;> (first | omega | (dsimp only; omega) | (intro i hi; (try dsimp only); (repeat' split) <;> omega) | (intro i j hi hj h; (try dsimp only at h); (repeat' split at h) <;> omega) | skip)
    all_goals (simp [fitsTR, fitsMR, PV.ren, renL, MB.ren, upd_def, PV.nmb, nmbL, MB.nmb, List.getD_cons_zero, List.getD_cons_succ, frz, drp, enc_snoc, enc_snoc0, enc_snoc1]; done)
  · rename p2 ≤ _ => hp9; obtain ⟨q9, hq9, _⟩ := le_ex hp9; subst hq9; rename Bs => s9; rename List PartD => y9
    refine s_againR ((m - 1, y9, q9 + 1)) (fun i => if i = 1 then 5 else i) ?_ ?_ ?_ ?_ ?_ ?_ <;> (first | omega | (dsimp only; omega) | (intro i hi; (try dsimp only); (repeat' split) <;> omega) | (intro i j hi hj h; (try dsimp only at h); (repeat' split at h) <;> omega) | skip)
    all_goals (simp [fitsTR, fitsMR, PV.ren, renL, MB.ren, upd_def, PV.nmb, nmbL, MB.nmb, List.getD_cons_zero, List.getD_cons_succ, frz, drp, enc_snoc, enc_snoc0, enc_snoc1]; done)
  · rename p2 ≤ _ => hp9; obtain ⟨q9, hq9, _⟩ := le_ex hp9; subst hq9; rename Bs => s9; rename List PartD => y9
    refine s_againR ((m - 1, y9, q9 + 1)) (fun i => if i = 1 then 5 else i) ?_ ?_ ?_ ?_ ?_ ?_ <;> (first | omega | (dsimp only; omega) | (intro i hi; (try dsimp only); (repeat' split) <;> omega) | (intro i j hi hj h; (try dsimp only at h); (repeat' split at h) <;> omega) | skip)
    all_goals (simp [fitsTR, fitsMR, PV.ren, renL, MB.ren, upd_def, PV.nmb, nmbL, MB.nmb, List.getD_cons_zero, List.getD_cons_succ, frz, drp, enc_snoc, enc_snoc0, enc_snoc1]; done)
  · rename p2 ≤ _ => hp9; obtain ⟨q9, hq9, _⟩ := le_ex hp9; subst hq9; rename Bs => s9; rename List PartD => y9
    refine s_againR ((m - 1, y9, q9 + 1)) (fun i => if i = 1 then 5 else i) ?_ ?_ ?_ ?_ ?_ ?_ <;> (first | omega | (dsimp only; omega) | (intro i hi; (try dsimp only); (repeat' split) <;> omega) | (intro i j hi hj h; (try dsimp only at h); (repeat' split at h) <;> omega) | skip)
    all_goals (simp [fitsTR, fitsMR, PV.ren, renL, MB.ren, upd_def, PV.nmb, nmbL, MB.nmb, List.getD_cons_zero, List.getD_cons_succ, frz, drp, enc_snoc, enc_snoc0, enc_snoc1]; done)
  · rename p2 ≤ _ => hp9; obtain ⟨q9, hq9, _⟩ := le_ex hp9; subst hq9; rename Bs => s9; rename List PartD => y9
    refine s_againR ((m - 1, y9, q9 + 1)) (fun i => if i = 1 then 5 else i) ?_ ?_ ?_ ?_ ?_ ?_ <;> (first | omega | (dsimp only; omega) | (intro i hi; (try dsimp only); (repeat' split) <;> omega) | (intro i j hi hj h; (try dsimp only at h); (repeat' split at h) <;> omega) | skip)
    all_goals (simp [fitsTR, fitsMR, PV.ren, renL, MB.ren, upd_def, PV.nmb, nmbL, MB.nmb, List.getD_cons_zero, List.getD_cons_succ, frz, drp, enc_snoc, enc_snoc0, enc_snoc1]; done)
  · rename p2 ≤ _ => hp9; obtain ⟨q9, hq9, _⟩ := le_ex hp9; subst hq9; rename Bs => s9; rename List PartD => y9
    refine s_againR ((m - 1, y9, q9 + 1)) (fun i => if i = 1 then 5 else i) ?_ ?_ ?_ ?_ ?_ ?_ <;> (first | omega | (dsimp only; omega) | (intro i hi; (try dsimp only); (repeat' split) <;> omega) | (intro i j hi hj h; (try dsimp only at h); (repeat' split at h) <;> omega) | skip)
    all_goals (simp [fitsTR, fitsMR, PV.ren, renL, MB.ren, upd_def, PV.nmb, nmbL, MB.nmb, List.getD_cons_zero, List.getD_cons_succ, frz, drp, enc_snoc, enc_snoc0, enc_snoc1]; done)
  · rename p2 ≤ _ => hp9; obtain ⟨q9, hq9, _⟩ := le_ex hp9; subst hq9; rename Bs => s9; rename List PartD => y9
    refine s_againR ((m - 1, y9 ++ [.mk 2 [] s9 [] []], q9 + 1)) (fun i => if i = 1 then 4 else i) ?_ ?_ ?_ ?_ ?_ ?_ <;> (first | omega | (dsimp only; omega) | (intro i hi; (try dsimp only); (repeat' split) <;> omega) | (intro i j hi hj h; (try dsimp only at h); (repeat' split at h) <;> omega) | skip)
    · simp only [wtL_append, wtL_one, wtP_mk, wtL_nil]; dsimp only [List.length_nil]; omega
    all_goals (simp [fitsTR, fitsMR, PV.ren, renL, MB.ren, upd_def, PV.nmb, nmbL, MB.nmb, List.getD_cons_zero, List.getD_cons_succ, frz, drp, enc_snoc, enc_snoc0, enc_snoc1]; done)
  · rename_i s9 q1 _ _ _ y1 q2 _ _ _ _ k9 _ _ y2 q3 _ _ _ _
    refine s_againR ((m - 1, xs ++ [.mk 3 [] s9 y1 y2], q3)) (fun i => if i = 1 then 7 else i) ?_ ?_ ?_ ?_ ?_ ?_ <;> (first | omega | (dsimp only; omega) | (intro i hi; (try dsimp only); (repeat' split) <;> omega) | (intro i j hi hj h; (try dsimp only at h); (repeat' split at h) <;> omega) | skip)
    · simp only [wtL_append, wtL_one, wtP_mk, wtL_nil]; dsimp only [List.length_nil]; omega
    all_goals (simp [fitsTR, fitsMR, PV.ren, renL, MB.ren, upd_def, PV.nmb, nmbL, MB.nmb, List.getD_cons_zero, List.getD_cons_succ, frz, drp, enc_snoc, enc_snoc0, enc_snoc1]; done)
  · rename_i s9 q1 _ _ _ y1 q2 _ _ _ _ k9 _ _
    refine s_againR ((m - 1, xs ++ [.mk 3 [] s9 y1 []], q2 + 1)) (fun i => if i = 1 then 6 else i) ?_ ?_ ?_ ?_ ?_ ?_ <;> (first | omega | (dsimp only; omega) | (intro i hi; (try dsimp only); (repeat' split) <;> omega) | (intro i j hi hj h; (try dsimp only at h); (repeat' split at h) <;> omega) | skip)
    · simp only [wtL_append, wtL_one, wtP_mk, wtL_nil]; dsimp only [List.length_nil]; omega
    all_goals (simp [fitsTR, fitsMR, PV.ren, renL, MB.ren, upd_def, PV.nmb, nmbL, MB.nmb, List.getD_cons_zero, List.getD_cons_succ, frz, drp, enc_snoc, enc_snoc0, enc_snoc1]; done)
  · rename_i s9 q1 _ _ _ y1 q2 _ _ _ _ y2 _ _
    refine s_againR ((m - 1, xs ++ [.mk 4 [] s9 y2 []], q2)) (fun i => if i = 1 then 7 else i) ?_ ?_ ?_ ?_ ?_ ?_ <;> (first | omega | (dsimp only; omega) | (intro i hi; (try dsimp only); (repeat' split) <;> omega) | (intro i j hi hj h; (try dsimp only at h); (repeat' split at h) <;> omega) | skip)
    · simp only [wtL_append, wtL_one, wtP_mk, wtL_nil]; dsimp only [List.length_nil]; omega
    all_goals (simp [fitsTR, fitsMR, PV.ren, renL, MB.ren, upd_def, PV.nmb, nmbL, MB.nmb, List.getD_cons_zero, List.getD_cons_succ, frz, drp, enc_snoc, enc_snoc0, enc_snoc1]; done)
theorem prt2' : ACok Tryz.prog 67 (prtC 2 4800 700) := prt_of prt2
end Go.Proofs.YtoocbpendccngaaGreat

/- Contracts: drawn templates. -/
namespace Go.Proofs.YtoocbpendccngaaGreat
attribute [local irreducible] awp arun acalm FinP Fin AX.then AX.inBlock Again aG gsel amix amixN amixC aop aopc aopd cutK
attribute [local go_sem] aBSliceD aSlice aSliceC boundOf aMk aCall aCallC aLenL aLen aPick_t aPick_f aNil aAlloc aBox aBuild bldPV aBSlice bsPV aApp newsOf destOf drp aConvX aConv aConvInt aLoad cellsAt aStore cellsPV setAt aFld aField aIdx aIndex aUn aBin' aBin aMax aExtract pvOf PV.isCell nmbL PV.nmb List.map_cons List.map_nil List.all_cons List.all_nil Bool.and_true Bool.true_and if_true if_false List.getD_cons_zero List.getD_cons_succ List.getD_nil Option.isSome_some true_and and_true and_self eq_self true_or or_true List.drop_zero List.drop_succ_cons List.drop_nil List.take_zero List.take_succ_cons List.take_nil List.length_cons List.length_nil List.length_map Option.getD_some Option.getD_none List.nil_append List.cons_append List.append_nil Option.some.injEq exists_eq_left' List.getElem?_cons_zero List.getElem?_cons_succ Int.toNat_natCast Int.natCast_inj toNat_succ Nat.zero_add res res1 resC owns owns1 ownsC List.flatMap_cons List.flatMap_nil List.flatten_cons List.flatten_nil List.mem_cons List.not_mem_nil or_false false_or forall_eq forall_eq_or_imp isFro frz frz1 pureC tabA isBld List.cons.injEq PV.seq.injEq PV.int.injEq PV.str.injEq PV.bool.injEq PV.agg.injEq inR tab Γof aRes packR Option.map_some Option.map_none rel Prod.exists exists_and_left exists_eq_left and_assoc beq_self_eq_true Bool.not_true Bool.not_false decide_true decide_false List.set_cons_zero List.set_cons_succ rst_nil rst_cons
attribute [local go_sem ↓] evT upd_def aop aopc aopd
set_option maxRecDepth 100000
set_option linter.unusedVariables false
set_option linter.unusedSimpArgs false
open Go.RowKit
def lvR4_29 : Nat → List Nat
  | 0 => [0, 1]
  | 1 => [0, 1, 5]
  | 2 => [0, 5, 10]
  | 3 => [0, 5, 12]
  | 4 => [5]
  | 5 => [0, 5, 12, 20]
  | 6 => [5]
  | 7 => [0, 5, 12, 24]
  | 8 => [5]
  | 9 => [5]
  | 10 => [0, 5, 12, 33]
  | 11 => [5]
  | 12 => [5]
  | 13 => [0, 5, 12, 42]
  | 14 => [5]
  | 15 => [0, 5, 12, 52]
  | 16 => [5]
  | 17 => [0, 5, 12, 60]
  | 18 => [5]
  | 19 => [0, 5, 12, 66]
  | 20 => [5]
  | 21 => [5, 77]
  | 22 => [5]
  | 23 => [4]
  | _ => []
--LV=R4
theorem encPs_two (a b : PartD) : encPs [a, b] = [encP a, encP b] := by simp [encPs]
theorem wtL_two (a b : PartD) : wtL [a, b] = 1 + wtP a + (1 + wtP b) := by simp [wtL, Nat.add_assoc]
@[go_sem] def tplC0 (w : Nat) (q : Int) : AC := locO 93 5 (α := (Bs × Int) × Int) (fun x => [.int .i64 x.2]) (fun x => rdB x.1.1 x.1.2) (fun x => x.1.1.length ≤ 2000 ∧ 0 ≤ x.1.2 ∧ x.1.2 + q ≤ 1000000 ∧ 0 ≤ x.2 ∧ x.2 ≤ 1000) (fun x es b' => ∃ xs p', es = encPs xs ∧ b' = rdB x.1.1 p' ∧ wtL xs ≤ w ∧ x.1.2 ≤ p' ∧ p' ≤ x.1.2 + q)
@[go_sem] def tplC (w : Nat) (q : Int) : AC := fun args mem n K => match args with
  | [.ref i o, .int .i64 m] => 0 ≤ m ∧ m ≤ 1000 ∧ (match mem i with
    | some (.box [.seq es, .int .i64 p]) => o = 0 ∧ (∃ l : Bs, es = l.map bc ∧ l.length ≤ 2000) ∧ 0 ≤ p ∧ p + q ≤ 1000000 ∧ ∀ (xs : List PartD) (p' : Int), wtL xs ≤ w → xs.length ≤ w → p ≤ p' → p' ≤ p + q → K (.own n) (upd (upd mem i (some (.box [.seq es, .int .i64 p']))) n (some (.row 93 5 (encPs xs)))) (n + 1)
    | _ => False)
  | _ => False
theorem tpl_of {f : FuncId} {w : Nat} {q : Int} (hp : ACok Tryz.prog f (tplC0 w q)) : ACok Tryz.prog f (tplC w q) := hp.mono fun args mem n K h => by
  clear hp
  unfold tplC at h
  split at h
  · rename_i i o m
    obtain ⟨hm0, hm1, h⟩ := h
    split at h
    · rename_i es p hm
      obtain ⟨rfl, ⟨l, rfl, hl⟩, h0, h1, hK⟩ := h
      refine ⟨((l, p), m), i, rfl, ⟨hl, h0, h1, hm0, hm1⟩, hm, ?_⟩
      rintro es b' ⟨xs, p', rfl, rfl, h1, h2, h3⟩
      exact hK xs p' h1 (Nat.le_trans (len_le_wtL xs) h1) h2 h3
    · exact h.elim
  · exact h.elim
set_option maxHeartbeats 16000000 in
theorem tpl_ok0 : ACok Tryz.prog 29 (tplC0 5000 1000) := by
  refine locO_ok 2 (tabA_cons pick_ok (tabA_cons odd_ok (tabA_cons add_ok (tabA_cons prt2' (tabA_nil (Γof_ok tab_nil)))))) tab_nil mixed [.tmp 4] Tryz.func29 rfl rfl (by kernel_rfl) (by kernel_rfl) (fun _ => rfl) (by kernel_rfl) (fun x => by simp [nmbL, PV.nmb]) (fun x => by simp [go_sem, MB.nmb, nmbL, PV.nmb]) ?_
  rintro ⟨⟨l, p⟩, m⟩ K ⟨hl, h0, h1, h2, h3⟩ hK
  dsimp only at *
  unfold entry
  simp only [mkM, rdB] at *
  repeat' (first | ((first | apply qwd | apply qa1 | apply qa2 | apply qa3 | apply qh1 | apply qh2 | apply qg1 rfl | apply qcd); (try intro K hk); focus (simp only [lvR4_29, mkT, go_sem, Nat.reduceEqDiff, Nat.reduceAdd, Nat.reduceLeDiff, Nat.reduceLT, Nat.reduceSub, Int.reduceToNat, ↓reduceIte, reduceCtorEq, exl, enc_nil, enc_snoc0, enc_snoc1, enc_snoc, encPs_iff, wtL_append, wtL_one, wtP_mk, wtL_nil]; first | exact rfl | ((repeat (refine And.intro ?_ ?_; focus (first | omega | assumption | with_reducible rfl))); intros; apply hk; clear hk K))) | apply qw8 | apply qw1 | refine qwc lvR4_29 ?_ | apply qt1 | apply qw5 | apply qw2 | apply qw9 | apply qt2 | apply qt3 | apply qt4 | apply qt5 | apply qt6 | apply qw3 | apply qw4 | apply qj1 | apply qj2 | apply qj3 | apply qj4 | apply qj5 | apply qu1 | apply qu2 | (refine qj6 ?_ ?_ <;> intro hc <;> (try simp only [hc]) <;> (try simp only [decide_eq_true_eq, decide_eq_false_iff_not, Bool.not_eq_true', Bool.not_eq_false', Bool.not_eq_true, reduceCtorEq] at hc) <;> (try (exfalso; omega))) | (refine qt7 ?_ ?_; focus decide) | (refine qw7 ?_ ?_ ?_; (focus (decide +kernel)); (focus (decide +kernel))))
  · rename List PartD => y9
    ((first | refine fin_V ?_ | refine fin_Ve ?_ | refine fin_O ?_ | refine fin_Oe ?_ | refine fin_X ?_ | refine fin_Xe ?_ | refine fin_B ?_ | refine fin_Be ?_); simp only [go_sem, PV.own.injEq, MB.row.injEq, MB.nmb, not_false_eq_true, ne_eq, ↓upd_def, Nat.reduceEqDiff, Nat.reduceAdd, ↓reduceIte, reduceCtorEq])
    exact hK _ _ ⟨y9, _, by simp [encPs_append, encPs_one, encP_mk, encPs_nil, encPs_two], rfl, by (try simp only [wtL_append, wtL_one, wtP_mk, wtL_nil, wtL_two, List.length_nil, List.length_cons]); omega, by omega, by omega⟩
  · rename List PartD => y9
    ((first | refine fin_V ?_ | refine fin_Ve ?_ | refine fin_O ?_ | refine fin_Oe ?_ | refine fin_X ?_ | refine fin_Xe ?_ | refine fin_B ?_ | refine fin_Be ?_); simp only [go_sem, PV.own.injEq, MB.row.injEq, MB.nmb, not_false_eq_true, ne_eq, ↓upd_def, Nat.reduceEqDiff, Nat.reduceAdd, ↓reduceIte, reduceCtorEq])
    exact hK _ _ ⟨y9, _, by simp [encPs_append, encPs_one, encP_mk, encPs_nil, encPs_two], rfl, by (try simp only [wtL_append, wtL_one, wtP_mk, wtL_nil, wtL_two, List.length_nil, List.length_cons]); omega, by omega, by omega⟩
  · rename List PartD => y9
    ((first | refine fin_V ?_ | refine fin_Ve ?_ | refine fin_O ?_ | refine fin_Oe ?_ | refine fin_X ?_ | refine fin_Xe ?_ | refine fin_B ?_ | refine fin_Be ?_); simp only [go_sem, PV.own.injEq, MB.row.injEq, MB.nmb, not_false_eq_true, ne_eq, ↓upd_def, Nat.reduceEqDiff, Nat.reduceAdd, ↓reduceIte, reduceCtorEq])
    exact hK _ _ ⟨y9, _, by simp [encPs_append, encPs_one, encP_mk, encPs_nil, encPs_two], rfl, by (try simp only [wtL_append, wtL_one, wtP_mk, wtL_nil, wtL_two, List.length_nil, List.length_cons]); omega, by omega, by omega⟩
  · rename List PartD => y9
    ((first | refine fin_V ?_ | refine fin_Ve ?_ | refine fin_O ?_ | refine fin_Oe ?_ | refine fin_X ?_ | refine fin_Xe ?_ | refine fin_B ?_ | refine fin_Be ?_); simp only [go_sem, PV.own.injEq, MB.row.injEq, MB.nmb, not_false_eq_true, ne_eq, ↓upd_def, Nat.reduceEqDiff, Nat.reduceAdd, ↓reduceIte, reduceCtorEq])
    exact hK _ _ ⟨y9 ++ [.mk 3 [] [102, 108, 97, 103] [.mk 1 [60, 97, 32, 116, 105, 116, 108, 101, 61, 34] [] [] []] [.mk 1 [60, 98, 32, 116, 105, 116, 108, 101, 61, 34] [] [] []]], _, by simp [encPs_append, encPs_one, encP_mk, encPs_nil, encPs_two], rfl, by (try simp only [wtL_append, wtL_one, wtP_mk, wtL_nil, wtL_two, List.length_nil, List.length_cons]); omega, by omega, by omega⟩
  · rename List PartD => y9
    ((first | refine fin_V ?_ | refine fin_Ve ?_ | refine fin_O ?_ | refine fin_Oe ?_ | refine fin_X ?_ | refine fin_Xe ?_ | refine fin_B ?_ | refine fin_Be ?_); simp only [go_sem, PV.own.injEq, MB.row.injEq, MB.nmb, not_false_eq_true, ne_eq, ↓upd_def, Nat.reduceEqDiff, Nat.reduceAdd, ↓reduceIte, reduceCtorEq])
    exact hK _ _ ⟨y9 ++ [.mk 4 [] [108, 105, 115, 116] [.mk 1 [60, 97, 32, 116, 105, 116, 108, 101, 61, 34] [] [] []] []], _, by simp [encPs_append, encPs_one, encP_mk, encPs_nil, encPs_two], rfl, by (try simp only [wtL_append, wtL_one, wtP_mk, wtL_nil, wtL_two, List.length_nil, List.length_cons]); omega, by omega, by omega⟩
  · rename List PartD => y9
    ((first | refine fin_V ?_ | refine fin_Ve ?_ | refine fin_O ?_ | refine fin_Oe ?_ | refine fin_X ?_ | refine fin_Xe ?_ | refine fin_B ?_ | refine fin_Be ?_); simp only [go_sem, PV.own.injEq, MB.row.injEq, MB.nmb, not_false_eq_true, ne_eq, ↓upd_def, Nat.reduceEqDiff, Nat.reduceAdd, ↓reduceIte, reduceCtorEq])
    exact hK _ _ ⟨y9 ++ [.mk 1 [97, 123, 123, 98] [] [] []], _, by simp [encPs_append, encPs_one, encP_mk, encPs_nil, encPs_two], rfl, by (try simp only [wtL_append, wtL_one, wtP_mk, wtL_nil, wtL_two, List.length_nil, List.length_cons]); omega, by omega, by omega⟩
  · (refine qa1 fun K hk => ?_; apply qload 3; (focus (simp only [go_sem, ↓upd_def, ↓evT, Nat.reduceEqDiff, Nat.reduceAdd, Nat.reduceLeDiff, Nat.reduceLT, Nat.reduceSub, Int.reduceToNat, ↓reduceIte, reduceCtorEq]; exact rfl)); (focus (simp only [go_sem, ↓upd_def, ↓evT, Nat.reduceEqDiff, Nat.reduceAdd, Nat.reduceLeDiff, Nat.reduceLT, Nat.reduceSub, Int.reduceToNat, ↓reduceIte, reduceCtorEq]; exact rfl)); (focus (simp only [go_sem])); (focus (simp only [List.length_cons, List.length_nil]; omega)); (focus kernel_rfl); intro tx htx; apply hk; clear hk K)
    repeat' (first | ((first | apply qwd | apply qa1 | apply qa2 | apply qa3 | apply qh1 | apply qh2 | apply qg1 rfl | apply qcd); (try intro K hk); focus (simp only [lvR4_29, mkT, go_sem, Nat.reduceEqDiff, Nat.reduceAdd, Nat.reduceLeDiff, Nat.reduceLT, Nat.reduceSub, Int.reduceToNat, ↓reduceIte, reduceCtorEq, exl]; first | exact rfl | ((repeat (refine And.intro ?_ ?_; focus (first | omega | assumption | with_reducible rfl))); intros; apply hk; clear hk K))) | apply qw8 | apply qw1 | refine qwc lvR4_29 ?_ | apply qt1 | apply qw5 | apply qw2 | apply qw9 | apply qt2 | apply qt3 | apply qt4 | apply qt5 | apply qt6 | apply qw3 | apply qw4 | apply qj1 | apply qj2 | apply qj3 | apply qj4 | apply qj5 | apply qu1 | apply qu2 | (refine qj6 ?_ ?_ <;> intro hc <;> (try simp only [hc]) <;> (try simp only [decide_eq_true_eq, decide_eq_false_iff_not, Bool.not_eq_true', Bool.not_eq_false', Bool.not_eq_true, reduceCtorEq] at hc) <;> (try (exfalso; omega))) | (refine qt7 ?_ ?_; focus decide) | (refine qw7 ?_ ?_ ?_; (focus (decide +kernel)); (focus (decide +kernel))))
    rename List PartD => y9
    ((first | refine fin_V ?_ | refine fin_Ve ?_ | refine fin_O ?_ | refine fin_Oe ?_ | refine fin_X ?_ | refine fin_Xe ?_ | refine fin_B ?_ | refine fin_Be ?_); simp only [go_sem, PV.own.injEq, MB.row.injEq, MB.nmb, not_false_eq_true, ne_eq, ↓upd_def, Nat.reduceEqDiff, Nat.reduceAdd, ↓reduceIte, reduceCtorEq])
    exact hK _ _ ⟨y9 ++ [.mk 2 [] tx [] []], _, by simp [encPs_append, encPs_one, encP_mk, encPs_nil, encPs_two], rfl, by (try simp only [wtL_append, wtL_one, wtP_mk, wtL_nil, wtL_two, List.length_nil, List.length_cons]); omega, by omega, by omega⟩
  · rename List PartD => y9
    ((first | refine fin_V ?_ | refine fin_Ve ?_ | refine fin_O ?_ | refine fin_Oe ?_ | refine fin_X ?_ | refine fin_Xe ?_ | refine fin_B ?_ | refine fin_Be ?_); simp only [go_sem, PV.own.injEq, MB.row.injEq, MB.nmb, not_false_eq_true, ne_eq, ↓upd_def, Nat.reduceEqDiff, Nat.reduceAdd, ↓reduceIte, reduceCtorEq])
    exact hK _ _ ⟨y9 ++ [.mk 5 [] [] [] []], _, by simp [encPs_append, encPs_one, encP_mk, encPs_nil, encPs_two], rfl, by (try simp only [wtL_append, wtL_one, wtP_mk, wtL_nil, wtL_two, List.length_nil, List.length_cons]); omega, by omega, by omega⟩
  · rename List PartD => y9
    ((first | refine fin_V ?_ | refine fin_Ve ?_ | refine fin_O ?_ | refine fin_Oe ?_ | refine fin_X ?_ | refine fin_Xe ?_ | refine fin_B ?_ | refine fin_Be ?_); simp only [go_sem, PV.own.injEq, MB.row.injEq, MB.nmb, not_false_eq_true, ne_eq, ↓upd_def, Nat.reduceEqDiff, Nat.reduceAdd, ↓reduceIte, reduceCtorEq])
    exact hK _ _ ⟨y9 ++ [.mk 1 [] [] [] [], .mk 4 [] [120] [] [.mk 2 [] [97] [] []]], _, by simp [encPs_append, encPs_one, encP_mk, encPs_nil, encPs_two], rfl, by (try simp only [wtL_append, wtL_one, wtP_mk, wtL_nil, wtL_two, List.length_nil, List.length_cons]); omega, by omega, by omega⟩
  · rename List PartD => y9
    ((first | refine fin_V ?_ | refine fin_Ve ?_ | refine fin_O ?_ | refine fin_Oe ?_ | refine fin_X ?_ | refine fin_Xe ?_ | refine fin_B ?_ | refine fin_Be ?_); simp only [go_sem, PV.own.injEq, MB.row.injEq, MB.nmb, not_false_eq_true, ne_eq, ↓upd_def, Nat.reduceEqDiff, Nat.reduceAdd, ↓reduceIte, reduceCtorEq])
    exact hK _ _ ⟨y9, _, by simp [encPs_append, encPs_one, encP_mk, encPs_nil, encPs_two], rfl, by (try simp only [wtL_append, wtL_one, wtP_mk, wtL_nil, wtL_two, List.length_nil, List.length_cons]); omega, by omega, by omega⟩
theorem tpl_ok : ACok Tryz.prog 29 (tplC 5000 1000) := tpl_of tpl_ok0
end Go.Proofs.YtoocbpendccngaaGreat

/- Drawn inputs of the laws over parts: what comes back is frozen, behind it any memory. -/
namespace Go.Proofs.YtoocbpendccngaaGreat
attribute [local irreducible] awp arun acalm FinP Fin AX.then AX.inBlock Again aG gsel amix amixN amixC aop aopc aopd cutK
attribute [local go_sem] aBSliceD aSlice aSliceC boundOf aMk aCall aCallC aLenL aLen aPick_t aPick_f aNil aAlloc aBox aBuild bldPV aBSlice bsPV aApp newsOf destOf drp aConvX aConv aConvInt aLoad cellsAt aStore cellsPV setAt aFld aField aIdx aIndex aUn aBin' aBin aMax aExtract pvOf PV.isCell nmbL PV.nmb List.map_cons List.map_nil List.all_cons List.all_nil Bool.and_true Bool.true_and if_true if_false List.getD_cons_zero List.getD_cons_succ List.getD_nil Option.isSome_some true_and and_true and_self eq_self true_or or_true List.drop_zero List.drop_succ_cons List.drop_nil List.take_zero List.take_succ_cons List.take_nil List.length_cons List.length_nil List.length_map Option.getD_some Option.getD_none List.nil_append List.cons_append List.append_nil Option.some.injEq exists_eq_left' List.getElem?_cons_zero List.getElem?_cons_succ Int.toNat_natCast Int.natCast_inj toNat_succ Nat.zero_add res res1 resC owns owns1 ownsC List.flatMap_cons List.flatMap_nil List.flatten_cons List.flatten_nil List.mem_cons List.not_mem_nil or_false false_or forall_eq forall_eq_or_imp isFro frz frz1 pureC tabA isBld List.cons.injEq PV.seq.injEq PV.int.injEq PV.str.injEq PV.bool.injEq PV.agg.injEq inR tab Γof aRes packR Option.map_some Option.map_none rel Prod.exists exists_and_left exists_eq_left and_assoc beq_self_eq_true Bool.not_true Bool.not_false decide_true decide_false List.set_cons_zero List.set_cons_succ rst_nil rst_cons
attribute [local go_sem ↓] evT upd_def aop aopc aopd
set_option maxRecDepth 100000
set_option linter.unusedVariables false
set_option linter.unusedSimpArgs false
open Go.RowKit
--LV=R9
/-- A drawing function: some good input, whose memory is frozen; behind it any memory. -/
def drwO {α : Type} (good : α → Prop) (enc : α → PV) : AC := fun args mem n K => match args with
  | [.seq es] => (∃ l : Bs, es = l.map bc ∧ l.length ≤ 1048576) ∧ ∀ x r m' n', good x → res m' r = enc x → n ≤ n' → K r m' n'
  | _ => False
@[go_sem] def drwG {α : Type} (good : α → Prop) (enc : α → PV) : AC := fun args mem n K => match args with
  | [.seq es] => (∃ l : Bs, es = l.map bc ∧ l.length ≤ 1048576) ∧ ∀ x, good x → ∀ m' n', n ≤ n' → K (enc x) m' n'
  | _ => False
theorem frzR_ok9 {P : Program} {f : FuncId} {C : AC} (h : ACok P f C) : ACok P f (fun args mem n K => C args mem n fun r mem' n' => K (res mem' r) (frz mem' (owns r)) n') := by
  refine ⟨h.fn, fun c mem n args vs K hI hn hr hC => ?_⟩
  refine (h.run c mem n args vs _ hI hn hr hC).mono ?_
  rintro e w' ⟨v', r, c', mem', n', rfl, hw, hK, st', hrep⟩
  obtain ⟨c1, w1, r1, st⟩ := Step.frz (owns r) st'.inv st'.free
  exact ⟨v', res mem' r, c1, frz mem' (owns r), n', rfl, w1.trans hw, hK, st'.trans st, rep_res st.inv (frz_fits mem' (owns r)) (Rep.mono _ st.le hrep)⟩
theorem drw_of {f : FuncId} {α : Type} {good : α → Prop} {enc : α → PV} (h : ACok Tryz.prog f (drwO good enc)) : ACok Tryz.prog f (drwG good enc) := (frzR_ok9 h).mono fun args mem n K h => by
  unfold drwG at h
  split at h
  · rename_i es
    obtain ⟨he, hK⟩ := h
    refine ⟨he, fun x r m' n' hx hr hn => ?_⟩
    show K (res m' r) _ _
    rw [hr]
    exact hK x hx _ _ hn
  · exact h.elim
theorem drw_args {α : Type} {good : α → Prop} {enc : α → PV} {args : List PV} {mem : Mem} {n : Nat} {K : PV → Mem → Nat → Prop} (h : drwO good enc args mem n K) : ∃ es, args = [.seq es] ∧ (∃ l : Bs, es = l.map bc ∧ l.length ≤ 1048576) ∧ ∀ x r m' n', good x → res m' r = enc x → n ≤ n' → K r m' n' := by
  unfold drwO at h
  split at h
  · exact ⟨_, rfl, h⟩
  · exact h.elim
theorem q_1 {n : Nat} : (n = n + 1) = False := by simp
theorem q_2 {n : Nat} : (n + 1 = n) = False := by simp
theorem q_3 {n : Nat} : (n = n + 1 + 1) = False := by simp <;> omega
theorem q_4 {n : Nat} : (n + 1 + 1 = n) = False := by simp <;> omega
theorem q_5 {n : Nat} : (n + 1 = n + 1 + 1) = False := by simp
theorem q_6 {n : Nat} : (n + 1 + 1 = n + 1) = False := by simp
theorem q_7 {n : Nat} : (n = n + 2) = False := by simp
theorem q_8 {n : Nat} : (n + 2 = n) = False := by simp
theorem q_9 {n : Nat} : (n = n + 3) = False := by simp
theorem q_10 {n : Nat} : (n + 3 = n) = False := by simp
def gdX (xs : List PartD) : Prop := wtL xs ≤ 6000 ∧ xs.length ≤ 6000
end Go.Proofs.YtoocbpendccngaaGreat

/- Drawn inputs of the law SimplerParts. -/
namespace Go.Proofs.YtoocbpendccngaaGreat
set_option maxRecDepth 100000
set_option linter.unusedVariables false
set_option linter.unusedSimpArgs false
open Go.RowKit
--LV=R10
theorem q_19 {n : Nat} : (n + 1 = n + 2) = False := by simp
theorem q_20 {n : Nat} : (n + 2 = n + 1) = False := by simp
end Go.Proofs.YtoocbpendccngaaGreat
