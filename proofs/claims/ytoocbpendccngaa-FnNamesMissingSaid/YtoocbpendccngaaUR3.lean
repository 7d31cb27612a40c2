/- Contracts: drawn parts, deeper. -/
import Derived.Test.YtoocbpendccngaaUR2

namespace Go.Proofs.Ytoocbpendccngaa
attribute [local irreducible] awp arun acalm FinP Fin AX.then AX.inBlock Again aG gsel amix amixN amixC aop aopc aopd cutK
attribute [local go_sem] aBSliceD aSlice aSliceC boundOf aMk aCall aCallC aLenL aLen aPick_t aPick_f aNil aAlloc aBox aBuild bldPV aBSlice bsPV aApp newsOf destOf drp aConvX aConv aConvInt aLoad cellsAt aStore cellsPV setAt aFld aField aIdx aIndex aUn aBin' aBin aMax aExtract pvOf PV.isCell nmbL PV.nmb List.map_cons List.map_nil List.all_cons List.all_nil Bool.and_true Bool.true_and if_true if_false List.getD_cons_zero List.getD_cons_succ List.getD_nil Option.isSome_some true_and and_true and_self eq_self true_or or_true List.drop_zero List.drop_succ_cons List.drop_nil List.take_zero List.take_succ_cons List.take_nil List.length_cons List.length_nil List.length_map Option.getD_some Option.getD_none List.nil_append List.cons_append List.append_nil Option.some.injEq exists_eq_left' List.getElem?_cons_zero List.getElem?_cons_succ Int.toNat_natCast Int.natCast_inj toNat_succ Nat.zero_add res res1 resC owns owns1 ownsC List.flatMap_cons List.flatMap_nil List.flatten_cons List.flatten_nil List.mem_cons List.not_mem_nil or_false false_or forall_eq forall_eq_or_imp isFro frz frz1 pureC tabA isBld List.cons.injEq PV.seq.injEq PV.int.injEq PV.str.injEq PV.bool.injEq PV.agg.injEq inR tab Γof aRes packR Option.map_some Option.map_none rel Prod.exists exists_and_left exists_eq_left and_assoc beq_self_eq_true Bool.not_true Bool.not_false decide_true decide_false List.set_cons_zero List.set_cons_succ rst_nil rst_cons
attribute [local go_sem ↓] evT upd_def aop aopc aopd
set_option maxRecDepth 100000
set_option linter.unusedVariables false
set_option linter.unusedSimpArgs false
open Go.RowKit
def lvR3_73 : Nat → List Nat
  | 0 => [0, 1]
  | 1 => [0, 1, 5]
  | 2 => [0, 1, 5, 6]
  | 3 => [0, 1, 5, 6, 14]
  | 4 => [0, 1, 5, 6]
  | 5 => [0, 1, 5, 6, 7]
  | 6 => [0, 1, 5, 6, 7, 21]
  | 7 => [0, 1, 5, 6, 23]
  | 8 => [0, 1, 5, 6]
  | 9 => [0, 1, 5, 6, 7, 21, 36]
  | 10 => [0, 1, 5, 6]
  | 11 => [0, 1, 5, 6, 7, 21, 40]
  | 12 => [0, 1, 5, 6]
  | 13 => [0, 1, 5, 6]
  | 14 => [0, 1, 5, 6, 7, 21, 49]
  | 15 => [0, 1, 5, 6]
  | 16 => [0, 1, 5, 6]
  | 17 => [0, 1, 5, 6, 7, 21, 58]
  | 18 => [0, 1, 5, 6]
  | 19 => [0, 1, 5, 6]
  | 20 => [0, 1, 5, 6, 7, 21, 67]
  | 21 => [0, 1, 5, 6]
  | 22 => [0, 1, 5, 6]
  | 23 => [0, 1, 5, 6, 7, 21, 76]
  | 24 => [0, 1, 5, 6]
  | 25 => [0, 1, 5, 6]
  | 26 => [0, 1, 5, 6, 7, 21, 85]
  | 27 => [0, 1, 5, 6]
  | 28 => [0, 1, 5, 6, 91]
  | 29 => [0, 1, 5, 6, 94]
  | 30 => [0, 1, 5, 6, 8]
  | 31 => [0, 1, 5, 6, 8, 104]
  | 32 => [0, 1, 5, 6, 8]
  | 33 => [0, 1, 5, 6]
  | 34 => [4]
  | _ => []
--LV=R3
theorem put_ok' : ACok Try.prog 122 (frz2 putC) := frz2_ok put_ok
set_option maxHeartbeats 16000000 in
theorem prt1 : ACok Try.prog 73 (prtC0 1 780 100) := by
  refine locO_ok 2 (tabA_cons pick_ok (tabA_cons nmD_ok (tabA_cons add_ok (tabA_cons prt0' (tabA_cons put_ok' (tabA_nil (Γof_ok tab_nil))))))) tab_nil mixed [.tmp 4] Try.func73 rfl rfl (by kernel_rfl) (by kernel_rfl) (fun _ => rfl) (by kernel_rfl) (fun x => by simp [nmbL, PV.nmb]) (fun x => by simp [go_sem, MB.nmb, nmbL, PV.nmb]) ?_
  rintro ⟨l, p⟩ K ⟨hl, h0, h1⟩ hK
  dsimp only at *
  unfold entry
  simp only [mkM, rdB] at *
  repeat' (first | (refine qwd fun K hk => ?_; simp only [lvR3_73, mkT, go_sem, Nat.reduceEqDiff, Nat.reduceAdd, Nat.reduceLeDiff, Nat.reduceLT, Nat.reduceSub, Int.reduceToNat, ↓reduceIte, reduceCtorEq, exl, enc_nil]; apply hk; clear hk K) | apply qw8 | apply qw1 | refine qwc lvR3_73 ?_ | apply qt1 | apply qw5 | apply qw2 | apply qw9 | apply qt2 | apply qt3 | apply qt4 | apply qt5 | apply qt6 | apply qw3 | apply qw4 | apply qj1 | apply qj2 | apply qj3 | apply qj4 | apply qj5 | apply qu1 | apply qu2 | apply qne | apply qyn | apply qyz | apply qy0 | refine qnt rfl rfl ?_ | refine qnf rfl rfl ?_ | refine qyc rfl ?_ | refine qy1 rfl ?_ | refine qy2 rfl ?_ ?_ | ((first | apply qa1 | apply qa2 | apply qa3 | apply qh1 | apply qh2 | apply qm1 | apply qm2 | apply qm3); intro K hk; simp only [go_sem, Nat.reduceEqDiff, Nat.reduceAdd, Nat.reduceLeDiff, Nat.reduceLT, Nat.reduceSub, Int.reduceToNat, ↓reduceIte, reduceCtorEq, exl, enc_nil]; (repeat (refine And.intro ?_ ?_; focus (first | omega | assumption | with_reducible rfl | (simp only [go_sem, Nat.reduceEqDiff, Nat.reduceAdd, Nat.reduceLeDiff, Nat.reduceLT, Nat.reduceSub, Int.reduceToNat, ↓reduceIte, reduceCtorEq, exl, enc_nil]; done)))); intros; apply hk; clear hk K) | ((first | apply qg1 rfl | apply qcd); focus (simp only [go_sem, Nat.reduceEqDiff, Nat.reduceAdd, Nat.reduceLeDiff, Nat.reduceLT, Nat.reduceSub, Int.reduceToNat, ↓reduceIte, reduceCtorEq, exl, enc_nil]; exact rfl)) | (refine qj6 ?_ ?_ <;> intro hc <;> (try simp only [hc]) <;> (try simp only [decide_eq_true_eq, decide_eq_false_iff_not, Bool.not_eq_true', Bool.not_eq_false', Bool.not_eq_true, reduceCtorEq] at hc) <;> (try (exfalso; omega))) | (refine qk1 ?_ ?_; focus (repeat (first | exact qsub0 | (refine qsub1 ?_ ?_; focus (simp only [go_sem, Nat.reduceEqDiff, Nat.reduceAdd, Nat.reduceLeDiff, Nat.reduceLT, Nat.reduceSub, Int.reduceToNat, ↓reduceIte, reduceCtorEq, exl, enc_nil]))))) | (refine qt7 ?_ ?_; focus decide) | (refine qw7 ?_ ?_ ?_; (focus (decide +kernel)); (focus (decide +kernel))))
  rename_i k0 k1 k2
  refine s_loop (ι := Int × List PartD × Int) (fun i => [(0, .ref 0 0), (1, .int .i64 1), (5, .own 1), (6, .int .i64 i.1)]) (fun i => [(0, .box [.seq (l.map bc), .int .i64 i.2.2]), (1, .row 63 5 (encPs i.2.1))]) 2 (fun i => 0 ≤ i.1 ∧ i.1 ≤ 3 ∧ (wtL i.2.1 : Int) ≤ (3 - i.1) * 260 ∧ p ≤ i.2.2 ∧ i.2.2 ≤ p + 1 + (3 - i.1) * 33) (fun i => i.1.toNat) (1 + k0, [], p + 1) (by omega) ⟨by dsimp only; omega, by dsimp only; omega, by simp [wtL_nil]; omega, by dsimp only; omega, by dsimp only; omega⟩ ?_ ?_
  · simp [fits, fitsT, fitsM, upd_def, PV.nmb, nmbL, MB.nmb, List.getD_cons_zero, List.getD_cons_succ, encPs_nil]
  rintro ⟨m, xs, p2⟩ ⟨g0, g1, g2, g3, g4⟩
  dsimp only at *
  have hxa := encPs_all xs
  have hxl := len_le_wtL xs
  simp only [mkS, mkT, mkM]
  repeat' (first | (refine qwd fun K hk => ?_; simp only [lvR3_73, mkT, go_sem, Nat.reduceEqDiff, Nat.reduceAdd, Nat.reduceLeDiff, Nat.reduceLT, Nat.reduceSub, Int.reduceToNat, ↓reduceIte, reduceCtorEq, exl, enc_nil, enc_snoc0, enc_snoc1, enc_snoc, encPs_iff, wtL_append, wtL_one, wtP_mk, wtL_nil]; apply hk; clear hk K) | apply qw8 | apply qw1 | refine qwc lvR3_73 ?_ | apply qt1 | apply qw5 | apply qw2 | apply qw9 | apply qt2 | apply qt3 | apply qt4 | apply qt5 | apply qt6 | apply qw3 | apply qw4 | apply qj1 | apply qj2 | apply qj3 | apply qj4 | apply qj5 | apply qu1 | apply qu2 | apply qne | apply qyn | apply qyz | apply qy0 | refine qnt rfl rfl ?_ | refine qnf rfl rfl ?_ | refine qyc rfl ?_ | refine qy1 rfl ?_ | refine qy2 rfl ?_ ?_ | ((first | apply qa1 | apply qa2 | apply qa3 | apply qh1 | apply qh2 | apply qm1 | apply qm2 | apply qm3); intro K hk; simp only [go_sem, Nat.reduceEqDiff, Nat.reduceAdd, Nat.reduceLeDiff, Nat.reduceLT, Nat.reduceSub, Int.reduceToNat, ↓reduceIte, reduceCtorEq, exl, enc_nil, enc_snoc0, enc_snoc1, enc_snoc, encPs_iff, wtL_append, wtL_one, wtP_mk, wtL_nil]; (repeat (refine And.intro ?_ ?_; focus (first | omega | assumption | with_reducible rfl | (simp only [go_sem, Nat.reduceEqDiff, Nat.reduceAdd, Nat.reduceLeDiff, Nat.reduceLT, Nat.reduceSub, Int.reduceToNat, ↓reduceIte, reduceCtorEq, exl, enc_nil, enc_snoc0, enc_snoc1, enc_snoc, encPs_iff, wtL_append, wtL_one, wtP_mk, wtL_nil]; done)))); intros; apply hk; clear hk K) | ((first | apply qg1 rfl | apply qcd); focus (simp only [go_sem, Nat.reduceEqDiff, Nat.reduceAdd, Nat.reduceLeDiff, Nat.reduceLT, Nat.reduceSub, Int.reduceToNat, ↓reduceIte, reduceCtorEq, exl, enc_nil, enc_snoc0, enc_snoc1, enc_snoc, encPs_iff, wtL_append, wtL_one, wtP_mk, wtL_nil]; exact rfl)) | (refine qj6 ?_ ?_ <;> intro hc <;> (try simp only [hc]) <;> (try simp only [decide_eq_true_eq, decide_eq_false_iff_not, Bool.not_eq_true', Bool.not_eq_false', Bool.not_eq_true, reduceCtorEq] at hc) <;> (try (exfalso; omega))) | (refine qk1 ?_ ?_; focus (repeat (first | exact qsub0 | (refine qsub1 ?_ ?_; focus (simp only [go_sem, Nat.reduceEqDiff, Nat.reduceAdd, Nat.reduceLeDiff, Nat.reduceLT, Nat.reduceSub, Int.reduceToNat, ↓reduceIte, reduceCtorEq, exl, enc_nil, enc_snoc0, enc_snoc1, enc_snoc, encPs_iff, wtL_append, wtL_one, wtP_mk, wtL_nil]))))) | (refine qt7 ?_ ?_; focus decide) | (refine qw7 ?_ ?_ ?_; (focus (decide +kernel)); (focus (decide +kernel))))
  all_goals (try (refine qw10 [2] [0, 2, 3, 5] [0, 2, 3, 1, 4, 5] ?_ ?_; focus (decide +kernel)))
  all_goals repeat' (first | (refine qwd fun K hk => ?_; simp only [lvR3_73, mkT, go_sem, Nat.reduceEqDiff, Nat.reduceAdd, Nat.reduceLeDiff, Nat.reduceLT, Nat.reduceSub, Int.reduceToNat, ↓reduceIte, reduceCtorEq, exl, enc_nil, enc_snoc0, enc_snoc1, enc_snoc, encPs_iff, wtL_append, wtL_one, wtP_mk, wtL_nil]; apply hk; clear hk K) | apply qw8 | apply qw1 | refine qwc lvR3_73 ?_ | apply qt1 | apply qw5 | apply qw2 | apply qw9 | apply qt2 | apply qt3 | apply qt4 | apply qt5 | apply qt6 | apply qw3 | apply qw4 | apply qj1 | apply qj2 | apply qj3 | apply qj4 | apply qj5 | apply qu1 | apply qu2 | apply qne | apply qyn | apply qyz | apply qy0 | refine qnt rfl rfl ?_ | refine qnf rfl rfl ?_ | refine qyc rfl ?_ | refine qy1 rfl ?_ | refine qy2 rfl ?_ ?_ | ((first | apply qa1 | apply qa2 | apply qa3 | apply qh1 | apply qh2 | apply qm1 | apply qm2 | apply qm3); intro K hk; simp only [go_sem, Nat.reduceEqDiff, Nat.reduceAdd, Nat.reduceLeDiff, Nat.reduceLT, Nat.reduceSub, Int.reduceToNat, ↓reduceIte, reduceCtorEq, exl, enc_nil, enc_snoc0, enc_snoc1, enc_snoc, encPs_iff, wtL_append, wtL_one, wtP_mk, wtL_nil]; (repeat (refine And.intro ?_ ?_; focus (first | omega | assumption | with_reducible rfl | (simp only [go_sem, Nat.reduceEqDiff, Nat.reduceAdd, Nat.reduceLeDiff, Nat.reduceLT, Nat.reduceSub, Int.reduceToNat, ↓reduceIte, reduceCtorEq, exl, enc_nil, enc_snoc0, enc_snoc1, enc_snoc, encPs_iff, wtL_append, wtL_one, wtP_mk, wtL_nil]; done)))); intros; apply hk; clear hk K) | ((first | apply qg1 rfl | apply qcd); focus (simp only [go_sem, Nat.reduceEqDiff, Nat.reduceAdd, Nat.reduceLeDiff, Nat.reduceLT, Nat.reduceSub, Int.reduceToNat, ↓reduceIte, reduceCtorEq, exl, enc_nil, enc_snoc0, enc_snoc1, enc_snoc, encPs_iff, wtL_append, wtL_one, wtP_mk, wtL_nil]; exact rfl)) | (refine qj6 ?_ ?_ <;> intro hc <;> (try simp only [hc]) <;> (try simp only [decide_eq_true_eq, decide_eq_false_iff_not, Bool.not_eq_true', Bool.not_eq_false', Bool.not_eq_true, reduceCtorEq] at hc) <;> (try (exfalso; omega))) | (refine qk1 ?_ ?_; focus (repeat (first | exact qsub0 | (refine qsub1 ?_ ?_; focus (simp only [go_sem, Nat.reduceEqDiff, Nat.reduceAdd, Nat.reduceLeDiff, Nat.reduceLT, Nat.reduceSub, Int.reduceToNat, ↓reduceIte, reduceCtorEq, exl, enc_nil, enc_snoc0, enc_snoc1, enc_snoc, encPs_iff, wtL_append, wtL_one, wtP_mk, wtL_nil]))))) | (refine qt7 ?_ ?_; focus decide) | (refine qw7 ?_ ?_ ?_; (focus (decide +kernel)); (focus (decide +kernel))))
  rotate_right
  · ((first | refine fin_V ?_ | refine fin_Ve ?_ | refine fin_O ?_ | refine fin_Oe ?_ | refine fin_X ?_ | refine fin_Xe ?_ | refine fin_B ?_ | refine fin_Be ?_); simp only [go_sem, PV.own.injEq, MB.row.injEq, MB.nmb, not_false_eq_true, ne_eq, ↓upd_def, Nat.reduceEqDiff, Nat.reduceAdd, ↓reduceIte, reduceCtorEq])
    exact hK _ _ ⟨_, _, rfl, rfl, by omega, by omega, by omega⟩
  · rename p2 ≤ _ => hp9; obtain ⟨q9, hq9, _⟩ := le_ex hp9; subst hq9; rename Bs => s9; rename List PartD => y9
    refine s_againR ((m - 1, y9, q9 + 1)) (fun i => if i = 1 then 3 else i) ?_ ?_ ?_ ?_ ?_ ?_ <;> (first | omega | (dsimp only; omega) | (intro i hi; (try dsimp only); (repeat' split) <;> omega) | (intro i j hi hj h; (try dsimp only at h); (repeat' split at h) <;> omega) | skip)
    all_goals (simp [fitsTR, fitsMR, PV.ren, renL, MB.ren, upd_def, PV.nmb, nmbL, MB.nmb, List.getD_cons_zero, List.getD_cons_succ, frz, drp, enc_snoc, enc_snoc0, enc_snoc1]; done)
  · rename p2 ≤ _ => hp9; obtain ⟨q9, hq9, _⟩ := le_ex hp9; subst hq9; rename Bs => s9; rename List PartD => y9
    refine s_againR ((m - 1, y9, q9 + 1)) (fun i => if i = 1 then 5 else i) ?_ ?_ ?_ ?_ ?_ ?_ <;> (first | omega | (dsimp only; omega) | (intro i hi; (try dsimp only); (repeat' split) <;> omega) | (intro i j hi hj h; (try dsimp only at h); (repeat' split at h) <;> omega) | skip)
    all_goals (simp [fitsTR, fitsMR, PV.ren, renL, MB.ren, upd_def, PV.nmb, nmbL, MB.nmb, List.getD_cons_zero, List.getD_cons_succ, frz, drp, enc_snoc, enc_snoc0, enc_snoc1]; done)
  · rename p2 ≤ _ => hp9; obtain ⟨q9, hq9, _⟩ := le_ex hp9; subst hq9; rename Bs => s9; rename List PartD => y9
    refine s_againR ((m - 1, y9, q9 + 1)) (fun i => if i = 1 then 5 else i) ?_ ?_ ?_ ?_ ?_ ?_ <;> (first | omega | (dsimp only; omega) | (intro i hi; (try dsimp only); (repeat' split) <;> omega) | (intro i j hi hj h; (try dsimp only at h); (repeat' split at h) <;> omega) | skip)
    all_goals (simp [fitsTR, fitsMR, PV.ren, renL, MB.ren, upd_def, PV.nmb, nmbL, MB.nmb, List.getD_cons_zero, List.getD_cons_succ, frz, drp, enc_snoc, enc_snoc0, enc_snoc1]; done)
  · rename p2 ≤ _ => hp9; obtain ⟨q9, hq9, _⟩ := le_ex hp9; subst hq9; rename Bs => s9; rename List PartD => y9
    refine s_againR ((m - 1, y9, q9 + 1)) (fun i => if i = 1 then 5 else i) ?_ ?_ ?_ ?_ ?_ ?_ <;> (first | omega | (dsimp only; omega) | (intro i hi; (try dsimp only); (repeat' split) <;> omega) | (intro i j hi hj h; (try dsimp only at h); (repeat' split at h) <;> omega) | skip)
    all_goals (simp [fitsTR, fitsMR, PV.ren, renL, MB.ren, upd_def, PV.nmb, nmbL, MB.nmb, List.getD_cons_zero, List.getD_cons_succ, frz, drp, enc_snoc, enc_snoc0, enc_snoc1]; done)
  · rename p2 ≤ _ => hp9; obtain ⟨q9, hq9, _⟩ := le_ex hp9; subst hq9; rename Bs => s9; rename List PartD => y9
    refine s_againR ((m - 1, y9, q9 + 1)) (fun i => if i = 1 then 5 else i) ?_ ?_ ?_ ?_ ?_ ?_ <;> (first | omega | (dsimp only; omega) | (intro i hi; (try dsimp only); (repeat' split) <;> omega) | (intro i j hi hj h; (try dsimp only at h); (repeat' split at h) <;> omega) | skip)
    all_goals (simp [fitsTR, fitsMR, PV.ren, renL, MB.ren, upd_def, PV.nmb, nmbL, MB.nmb, List.getD_cons_zero, List.getD_cons_succ, frz, drp, enc_snoc, enc_snoc0, enc_snoc1]; done)
  · rename p2 ≤ _ => hp9; obtain ⟨q9, hq9, _⟩ := le_ex hp9; subst hq9; rename Bs => s9; rename List PartD => y9
    refine s_againR ((m - 1, y9, q9 + 1)) (fun i => if i = 1 then 5 else i) ?_ ?_ ?_ ?_ ?_ ?_ <;> (first | omega | (dsimp only; omega) | (intro i hi; (try dsimp only); (repeat' split) <;> omega) | (intro i j hi hj h; (try dsimp only at h); (repeat' split at h) <;> omega) | skip)
    all_goals (simp [fitsTR, fitsMR, PV.ren, renL, MB.ren, upd_def, PV.nmb, nmbL, MB.nmb, List.getD_cons_zero, List.getD_cons_succ, frz, drp, enc_snoc, enc_snoc0, enc_snoc1]; done)
  · rename p2 ≤ _ => hp9; obtain ⟨q9, hq9, _⟩ := le_ex hp9; subst hq9; rename Bs => s9; rename List PartD => y9
    refine s_againR ((m - 1, y9 ++ [.mk 2 [] s9 [] []], q9 + 1)) (fun i => if i = 1 then 4 else i) ?_ ?_ ?_ ?_ ?_ ?_ <;> (first | omega | (dsimp only; omega) | (intro i hi; (try dsimp only); (repeat' split) <;> omega) | (intro i j hi hj h; (try dsimp only at h); (repeat' split at h) <;> omega) | skip)
    · simp only [wtL_append, wtL_one, wtP_mk, wtL_nil]; dsimp only [List.length_nil]; omega
    all_goals (simp [fitsTR, fitsMR, PV.ren, renL, MB.ren, upd_def, PV.nmb, nmbL, MB.nmb, List.getD_cons_zero, List.getD_cons_succ, frz, drp, enc_snoc, enc_snoc0, enc_snoc1]; done)
  · rename_i s9 q1 _ _ _ y1 q2 _ _ _ _ k9 _ _ y2 q3 _ _ _ _
    refine s_againR ((m - 1, xs ++ [.mk 3 [] s9 y1 y2], q3)) (fun i => if i = 1 then 7 else i) ?_ ?_ ?_ ?_ ?_ ?_ <;> (first | omega | (dsimp only; omega) | (intro i hi; (try dsimp only); (repeat' split) <;> omega) | (intro i j hi hj h; (try dsimp only at h); (repeat' split at h) <;> omega) | skip)
    · simp only [wtL_append, wtL_one, wtP_mk, wtL_nil]; dsimp only [List.length_nil]; omega
    all_goals (simp [fitsTR, fitsMR, PV.ren, renL, MB.ren, upd_def, PV.nmb, nmbL, MB.nmb, List.getD_cons_zero, List.getD_cons_succ, frz, drp, enc_snoc, enc_snoc0, enc_snoc1]; done)
  · rename_i s9 q1 _ _ _ y1 q2 _ _ _ _ k9 _ _
    refine s_againR ((m - 1, xs ++ [.mk 3 [] s9 y1 []], q2 + 1)) (fun i => if i = 1 then 6 else i) ?_ ?_ ?_ ?_ ?_ ?_ <;> (first | omega | (dsimp only; omega) | (intro i hi; (try dsimp only); (repeat' split) <;> omega) | (intro i j hi hj h; (try dsimp only at h); (repeat' split at h) <;> omega) | skip)
    · simp only [wtL_append, wtL_one, wtP_mk, wtL_nil]; dsimp only [List.length_nil]; omega
    all_goals (simp [fitsTR, fitsMR, PV.ren, renL, MB.ren, upd_def, PV.nmb, nmbL, MB.nmb, List.getD_cons_zero, List.getD_cons_succ, frz, drp, enc_snoc, enc_snoc0, enc_snoc1]; done)
  · rename_i s9 q1 _ _ _ y1 q2 _ _ _ _ y2 _ _
    refine s_againR ((m - 1, xs ++ [.mk 4 [] s9 y2 []], q2)) (fun i => if i = 1 then 7 else i) ?_ ?_ ?_ ?_ ?_ ?_ <;> (first | omega | (dsimp only; omega) | (intro i hi; (try dsimp only); (repeat' split) <;> omega) | (intro i j hi hj h; (try dsimp only at h); (repeat' split at h) <;> omega) | skip)
    · simp only [wtL_append, wtL_one, wtP_mk, wtL_nil]; dsimp only [List.length_nil]; omega
    all_goals (simp [fitsTR, fitsMR, PV.ren, renL, MB.ren, upd_def, PV.nmb, nmbL, MB.nmb, List.getD_cons_zero, List.getD_cons_succ, frz, drp, enc_snoc, enc_snoc0, enc_snoc1]; done)
theorem prt1' : ACok Try.prog 73 (prtC 1 780 100) := prt_of prt1
set_option maxHeartbeats 16000000 in
theorem prt2 : ACok Try.prog 73 (prtC0 2 4800 700) := by
  refine locO_ok 2 (tabA_cons pick_ok (tabA_cons nmD_ok (tabA_cons add_ok (tabA_cons prt1' (tabA_cons put_ok' (tabA_nil (Γof_ok tab_nil))))))) tab_nil mixed [.tmp 4] Try.func73 rfl rfl (by kernel_rfl) (by kernel_rfl) (fun _ => rfl) (by kernel_rfl) (fun x => by simp [nmbL, PV.nmb]) (fun x => by simp [go_sem, MB.nmb, nmbL, PV.nmb]) ?_
  rintro ⟨l, p⟩ K ⟨hl, h0, h1⟩ hK
  dsimp only at *
  unfold entry
  simp only [mkM, rdB] at *
  repeat' (first | (refine qwd fun K hk => ?_; simp only [lvR3_73, mkT, go_sem, Nat.reduceEqDiff, Nat.reduceAdd, Nat.reduceLeDiff, Nat.reduceLT, Nat.reduceSub, Int.reduceToNat, ↓reduceIte, reduceCtorEq, exl, enc_nil]; apply hk; clear hk K) | apply qw8 | apply qw1 | refine qwc lvR3_73 ?_ | apply qt1 | apply qw5 | apply qw2 | apply qw9 | apply qt2 | apply qt3 | apply qt4 | apply qt5 | apply qt6 | apply qw3 | apply qw4 | apply qj1 | apply qj2 | apply qj3 | apply qj4 | apply qj5 | apply qu1 | apply qu2 | apply qne | apply qyn | apply qyz | apply qy0 | refine qnt rfl rfl ?_ | refine qnf rfl rfl ?_ | refine qyc rfl ?_ | refine qy1 rfl ?_ | refine qy2 rfl ?_ ?_ | ((first | apply qa1 | apply qa2 | apply qa3 | apply qh1 | apply qh2 | apply qm1 | apply qm2 | apply qm3); intro K hk; simp only [go_sem, Nat.reduceEqDiff, Nat.reduceAdd, Nat.reduceLeDiff, Nat.reduceLT, Nat.reduceSub, Int.reduceToNat, ↓reduceIte, reduceCtorEq, exl, enc_nil]; (repeat (refine And.intro ?_ ?_; focus (first | omega | assumption | with_reducible rfl | (simp only [go_sem, Nat.reduceEqDiff, Nat.reduceAdd, Nat.reduceLeDiff, Nat.reduceLT, Nat.reduceSub, Int.reduceToNat, ↓reduceIte, reduceCtorEq, exl, enc_nil]; done)))); intros; apply hk; clear hk K) | ((first | apply qg1 rfl | apply qcd); focus (simp only [go_sem, Nat.reduceEqDiff, Nat.reduceAdd, Nat.reduceLeDiff, Nat.reduceLT, Nat.reduceSub, Int.reduceToNat, ↓reduceIte, reduceCtorEq, exl, enc_nil]; exact rfl)) | (refine qj6 ?_ ?_ <;> intro hc <;> (try simp only [hc]) <;> (try simp only [decide_eq_true_eq, decide_eq_false_iff_not, Bool.not_eq_true', Bool.not_eq_false', Bool.not_eq_true, reduceCtorEq] at hc) <;> (try (exfalso; omega))) | (refine qk1 ?_ ?_; focus (repeat (first | exact qsub0 | (refine qsub1 ?_ ?_; focus (simp only [go_sem, Nat.reduceEqDiff, Nat.reduceAdd, Nat.reduceLeDiff, Nat.reduceLT, Nat.reduceSub, Int.reduceToNat, ↓reduceIte, reduceCtorEq, exl, enc_nil]))))) | (refine qt7 ?_ ?_; focus decide) | (refine qw7 ?_ ?_ ?_; (focus (decide +kernel)); (focus (decide +kernel))))
  rename_i k0 k1 k2
  refine s_loop (ι := Int × List PartD × Int) (fun i => [(0, .ref 0 0), (1, .int .i64 2), (5, .own 1), (6, .int .i64 i.1)]) (fun i => [(0, .box [.seq (l.map bc), .int .i64 i.2.2]), (1, .row 63 5 (encPs i.2.1))]) 2 (fun i => 0 ≤ i.1 ∧ i.1 ≤ 3 ∧ (wtL i.2.1 : Int) ≤ (3 - i.1) * 1600 ∧ p ≤ i.2.2 ∧ i.2.2 ≤ p + 1 + (3 - i.1) * 220) (fun i => i.1.toNat) (1 + k0, [], p + 1) (by omega) ⟨by dsimp only; omega, by dsimp only; omega, by simp [wtL_nil]; omega, by dsimp only; omega, by dsimp only; omega⟩ ?_ ?_
  · simp [fits, fitsT, fitsM, upd_def, PV.nmb, nmbL, MB.nmb, List.getD_cons_zero, List.getD_cons_succ, encPs_nil]
  rintro ⟨m, xs, p2⟩ ⟨g0, g1, g2, g3, g4⟩
  dsimp only at *
  have hxa := encPs_all xs
  have hxl := len_le_wtL xs
  simp only [mkS, mkT, mkM]
  repeat' (first | (refine qwd fun K hk => ?_; simp only [lvR3_73, mkT, go_sem, Nat.reduceEqDiff, Nat.reduceAdd, Nat.reduceLeDiff, Nat.reduceLT, Nat.reduceSub, Int.reduceToNat, ↓reduceIte, reduceCtorEq, exl, enc_nil, enc_snoc0, enc_snoc1, enc_snoc, encPs_iff, wtL_append, wtL_one, wtP_mk, wtL_nil]; apply hk; clear hk K) | apply qw8 | apply qw1 | refine qwc lvR3_73 ?_ | apply qt1 | apply qw5 | apply qw2 | apply qw9 | apply qt2 | apply qt3 | apply qt4 | apply qt5 | apply qt6 | apply qw3 | apply qw4 | apply qj1 | apply qj2 | apply qj3 | apply qj4 | apply qj5 | apply qu1 | apply qu2 | apply qne | apply qyn | apply qyz | apply qy0 | refine qnt rfl rfl ?_ | refine qnf rfl rfl ?_ | refine qyc rfl ?_ | refine qy1 rfl ?_ | refine qy2 rfl ?_ ?_ | ((first | apply qa1 | apply qa2 | apply qa3 | apply qh1 | apply qh2 | apply qm1 | apply qm2 | apply qm3); intro K hk; simp only [go_sem, Nat.reduceEqDiff, Nat.reduceAdd, Nat.reduceLeDiff, Nat.reduceLT, Nat.reduceSub, Int.reduceToNat, ↓reduceIte, reduceCtorEq, exl, enc_nil, enc_snoc0, enc_snoc1, enc_snoc, encPs_iff, wtL_append, wtL_one, wtP_mk, wtL_nil]; (repeat (refine And.intro ?_ ?_; focus (first | omega | assumption | with_reducible rfl | (simp only [go_sem, Nat.reduceEqDiff, Nat.reduceAdd, Nat.reduceLeDiff, Nat.reduceLT, Nat.reduceSub, Int.reduceToNat, ↓reduceIte, reduceCtorEq, exl, enc_nil, enc_snoc0, enc_snoc1, enc_snoc, encPs_iff, wtL_append, wtL_one, wtP_mk, wtL_nil]; done)))); intros; apply hk; clear hk K) | ((first | apply qg1 rfl | apply qcd); focus (simp only [go_sem, Nat.reduceEqDiff, Nat.reduceAdd, Nat.reduceLeDiff, Nat.reduceLT, Nat.reduceSub, Int.reduceToNat, ↓reduceIte, reduceCtorEq, exl, enc_nil, enc_snoc0, enc_snoc1, enc_snoc, encPs_iff, wtL_append, wtL_one, wtP_mk, wtL_nil]; exact rfl)) | (refine qj6 ?_ ?_ <;> intro hc <;> (try simp only [hc]) <;> (try simp only [decide_eq_true_eq, decide_eq_false_iff_not, Bool.not_eq_true', Bool.not_eq_false', Bool.not_eq_true, reduceCtorEq] at hc) <;> (try (exfalso; omega))) | (refine qk1 ?_ ?_; focus (repeat (first | exact qsub0 | (refine qsub1 ?_ ?_; focus (simp only [go_sem, Nat.reduceEqDiff, Nat.reduceAdd, Nat.reduceLeDiff, Nat.reduceLT, Nat.reduceSub, Int.reduceToNat, ↓reduceIte, reduceCtorEq, exl, enc_nil, enc_snoc0, enc_snoc1, enc_snoc, encPs_iff, wtL_append, wtL_one, wtP_mk, wtL_nil]))))) | (refine qt7 ?_ ?_; focus decide) | (refine qw7 ?_ ?_ ?_; (focus (decide +kernel)); (focus (decide +kernel))))
  all_goals (try (refine qw10 [2] [0, 2, 3, 5] [0, 2, 3, 1, 4, 5] ?_ ?_; focus (decide +kernel)))
  all_goals repeat' (first | (refine qwd fun K hk => ?_; simp only [lvR3_73, mkT, go_sem, Nat.reduceEqDiff, Nat.reduceAdd, Nat.reduceLeDiff, Nat.reduceLT, Nat.reduceSub, Int.reduceToNat, ↓reduceIte, reduceCtorEq, exl, enc_nil, enc_snoc0, enc_snoc1, enc_snoc, encPs_iff, wtL_append, wtL_one, wtP_mk, wtL_nil]; apply hk; clear hk K) | apply qw8 | apply qw1 | refine qwc lvR3_73 ?_ | apply qt1 | apply qw5 | apply qw2 | apply qw9 | apply qt2 | apply qt3 | apply qt4 | apply qt5 | apply qt6 | apply qw3 | apply qw4 | apply qj1 | apply qj2 | apply qj3 | apply qj4 | apply qj5 | apply qu1 | apply qu2 | apply qne | apply qyn | apply qyz | apply qy0 | refine qnt rfl rfl ?_ | refine qnf rfl rfl ?_ | refine qyc rfl ?_ | refine qy1 rfl ?_ | refine qy2 rfl ?_ ?_ | ((first | apply qa1 | apply qa2 | apply qa3 | apply qh1 | apply qh2 | apply qm1 | apply qm2 | apply qm3); intro K hk; simp only [go_sem, Nat.reduceEqDiff, Nat.reduceAdd, Nat.reduceLeDiff, Nat.reduceLT, Nat.reduceSub, Int.reduceToNat, ↓reduceIte, reduceCtorEq, exl, enc_nil, enc_snoc0, enc_snoc1, enc_snoc, encPs_iff, wtL_append, wtL_one, wtP_mk, wtL_nil]; (repeat (refine And.intro ?_ ?_; focus (first | omega | assumption | with_reducible rfl | (simp only [go_sem, Nat.reduceEqDiff, Nat.reduceAdd, Nat.reduceLeDiff, Nat.reduceLT, Nat.reduceSub, Int.reduceToNat, ↓reduceIte, reduceCtorEq, exl, enc_nil, enc_snoc0, enc_snoc1, enc_snoc, encPs_iff, wtL_append, wtL_one, wtP_mk, wtL_nil]; done)))); intros; apply hk; clear hk K) | ((first | apply qg1 rfl | apply qcd); focus (simp only [go_sem, Nat.reduceEqDiff, Nat.reduceAdd, Nat.reduceLeDiff, Nat.reduceLT, Nat.reduceSub, Int.reduceToNat, ↓reduceIte, reduceCtorEq, exl, enc_nil, enc_snoc0, enc_snoc1, enc_snoc, encPs_iff, wtL_append, wtL_one, wtP_mk, wtL_nil]; exact rfl)) | (refine qj6 ?_ ?_ <;> intro hc <;> (try simp only [hc]) <;> (try simp only [decide_eq_true_eq, decide_eq_false_iff_not, Bool.not_eq_true', Bool.not_eq_false', Bool.not_eq_true, reduceCtorEq] at hc) <;> (try (exfalso; omega))) | (refine qk1 ?_ ?_; focus (repeat (first | exact qsub0 | (refine qsub1 ?_ ?_; focus (simp only [go_sem, Nat.reduceEqDiff, Nat.reduceAdd, Nat.reduceLeDiff, Nat.reduceLT, Nat.reduceSub, Int.reduceToNat, ↓reduceIte, reduceCtorEq, exl, enc_nil, enc_snoc0, enc_snoc1, enc_snoc, encPs_iff, wtL_append, wtL_one, wtP_mk, wtL_nil]))))) | (refine qt7 ?_ ?_; focus decide) | (refine qw7 ?_ ?_ ?_; (focus (decide +kernel)); (focus (decide +kernel))))
  rotate_right
  · ((first | refine fin_V ?_ | refine fin_Ve ?_ | refine fin_O ?_ | refine fin_Oe ?_ | refine fin_X ?_ | refine fin_Xe ?_ | refine fin_B ?_ | refine fin_Be ?_); simp only [go_sem, PV.own.injEq, MB.row.injEq, MB.nmb, not_false_eq_true, ne_eq, ↓upd_def, Nat.reduceEqDiff, Nat.reduceAdd, ↓reduceIte, reduceCtorEq])
    exact hK _ _ ⟨_, _, rfl, rfl, by omega, by omega, by omega⟩
  · rename p2 ≤ _ => hp9; obtain ⟨q9, hq9, _⟩ := le_ex hp9; subst hq9; rename Bs => s9; rename List PartD => y9
    refine s_againR ((m - 1, y9, q9 + 1)) (fun i => if i = 1 then 3 else i) ?_ ?_ ?_ ?_ ?_ ?_ <;> (first | omega | (dsimp only; omega) | (intro i hi; (try dsimp only); (repeat' split) <;> omega) | (intro i j hi hj h; (try dsimp only at h); (repeat' split at h) <;> omega) | skip)
    all_goals (simp [fitsTR, fitsMR, PV.ren, renL, MB.ren, upd_def, PV.nmb, nmbL, MB.nmb, List.getD_cons_zero, List.getD_cons_succ, frz, drp, enc_snoc, enc_snoc0, enc_snoc1]; done)
  · rename p2 ≤ _ => hp9; obtain ⟨q9, hq9, _⟩ := le_ex hp9; subst hq9; rename Bs => s9; rename List PartD => y9
    refine s_againR ((m - 1, y9, q9 + 1)) (fun i => if i = 1 then 5 else i) ?_ ?_ ?_ ?_ ?_ ?_ <;> (first | omega | (dsimp only; omega) | (intro i hi; (try dsimp only); (repeat' split) <;> omega) | (intro i j hi hj h; (try dsimp only at h); (repeat' split at h) <;> omega) | skip)
    all_goals (simp [fitsTR, fitsMR, PV.ren, renL, MB.ren, upd_def, PV.nmb, nmbL, MB.nmb, List.getD_cons_zero, List.getD_cons_succ, frz, drp, enc_snoc, enc_snoc0, enc_snoc1]; done)
  · rename p2 ≤ _ => hp9; obtain ⟨q9, hq9, _⟩ := le_ex hp9; subst hq9; rename Bs => s9; rename List PartD => y9
    refine s_againR ((m - 1, y9, q9 + 1)) (fun i => if i = 1 then 5 else i) ?_ ?_ ?_ ?_ ?_ ?_ <;> (first | omega | (dsimp only; omega) | (intro i hi; (try dsimp only); (repeat' split) <;> omega) | (intro i j hi hj h; (try dsimp only at h); (repeat' split at h) <;> omega) | skip)
    all_goals (simp [fitsTR, fitsMR, PV.ren, renL, MB.ren, upd_def, PV.nmb, nmbL, MB.nmb, List.getD_cons_zero, List.getD_cons_succ, frz, drp, enc_snoc, enc_snoc0, enc_snoc1]; done)
  · rename p2 ≤ _ => hp9; obtain ⟨q9, hq9, _⟩ := le_ex hp9; subst hq9; rename Bs => s9; rename List PartD => y9
    refine s_againR ((m - 1, y9, q9 + 1)) (fun i => if i = 1 then 5 else i) ?_ ?_ ?_ ?_ ?_ ?_ <;> (first | omega | (dsimp only; omega) | (intro i hi; (try dsimp only); (repeat' split) <;> omega) | (intro i j hi hj h; (try dsimp only at h); (repeat' split at h) <;> omega) | skip)
    all_goals (simp [fitsTR, fitsMR, PV.ren, renL, MB.ren, upd_def, PV.nmb, nmbL, MB.nmb, List.getD_cons_zero, List.getD_cons_succ, frz, drp, enc_snoc, enc_snoc0, enc_snoc1]; done)
  · rename p2 ≤ _ => hp9; obtain ⟨q9, hq9, _⟩ := le_ex hp9; subst hq9; rename Bs => s9; rename List PartD => y9
    refine s_againR ((m - 1, y9, q9 + 1)) (fun i => if i = 1 then 5 else i) ?_ ?_ ?_ ?_ ?_ ?_ <;> (first | omega | (dsimp only; omega) | (intro i hi; (try dsimp only); (repeat' split) <;> omega) | (intro i j hi hj h; (try dsimp only at h); (repeat' split at h) <;> omega) | skip)
    all_goals (simp [fitsTR, fitsMR, PV.ren, renL, MB.ren, upd_def, PV.nmb, nmbL, MB.nmb, List.getD_cons_zero, List.getD_cons_succ, frz, drp, enc_snoc, enc_snoc0, enc_snoc1]; done)
  · rename p2 ≤ _ => hp9; obtain ⟨q9, hq9, _⟩ := le_ex hp9; subst hq9; rename Bs => s9; rename List PartD => y9
    refine s_againR ((m - 1, y9, q9 + 1)) (fun i => if i = 1 then 5 else i) ?_ ?_ ?_ ?_ ?_ ?_ <;> (first | omega | (dsimp only; omega) | (intro i hi; (try dsimp only); (repeat' split) <;> omega) | (intro i j hi hj h; (try dsimp only at h); (repeat' split at h) <;> omega) | skip)
    all_goals (simp [fitsTR, fitsMR, PV.ren, renL, MB.ren, upd_def, PV.nmb, nmbL, MB.nmb, List.getD_cons_zero, List.getD_cons_succ, frz, drp, enc_snoc, enc_snoc0, enc_snoc1]; done)
  · rename p2 ≤ _ => hp9; obtain ⟨q9, hq9, _⟩ := le_ex hp9; subst hq9; rename Bs => s9; rename List PartD => y9
    refine s_againR ((m - 1, y9 ++ [.mk 2 [] s9 [] []], q9 + 1)) (fun i => if i = 1 then 4 else i) ?_ ?_ ?_ ?_ ?_ ?_ <;> (first | omega | (dsimp only; omega) | (intro i hi; (try dsimp only); (repeat' split) <;> omega) | (intro i j hi hj h; (try dsimp only at h); (repeat' split at h) <;> omega) | skip)
    · simp only [wtL_append, wtL_one, wtP_mk, wtL_nil]; dsimp only [List.length_nil]; omega
    all_goals (simp [fitsTR, fitsMR, PV.ren, renL, MB.ren, upd_def, PV.nmb, nmbL, MB.nmb, List.getD_cons_zero, List.getD_cons_succ, frz, drp, enc_snoc, enc_snoc0, enc_snoc1]; done)
  · rename_i s9 q1 _ _ _ y1 q2 _ _ _ _ k9 _ _ y2 q3 _ _ _ _
    refine s_againR ((m - 1, xs ++ [.mk 3 [] s9 y1 y2], q3)) (fun i => if i = 1 then 7 else i) ?_ ?_ ?_ ?_ ?_ ?_ <;> (first | omega | (dsimp only; omega) | (intro i hi; (try dsimp only); (repeat' split) <;> omega) | (intro i j hi hj h; (try dsimp only at h); (repeat' split at h) <;> omega) | skip)
    · simp only [wtL_append, wtL_one, wtP_mk, wtL_nil]; dsimp only [List.length_nil]; omega
    all_goals (simp [fitsTR, fitsMR, PV.ren, renL, MB.ren, upd_def, PV.nmb, nmbL, MB.nmb, List.getD_cons_zero, List.getD_cons_succ, frz, drp, enc_snoc, enc_snoc0, enc_snoc1]; done)
  · rename_i s9 q1 _ _ _ y1 q2 _ _ _ _ k9 _ _
    refine s_againR ((m - 1, xs ++ [.mk 3 [] s9 y1 []], q2 + 1)) (fun i => if i = 1 then 6 else i) ?_ ?_ ?_ ?_ ?_ ?_ <;> (first | omega | (dsimp only; omega) | (intro i hi; (try dsimp only); (repeat' split) <;> omega) | (intro i j hi hj h; (try dsimp only at h); (repeat' split at h) <;> omega) | skip)
    · simp only [wtL_append, wtL_one, wtP_mk, wtL_nil]; dsimp only [List.length_nil]; omega
    all_goals (simp [fitsTR, fitsMR, PV.ren, renL, MB.ren, upd_def, PV.nmb, nmbL, MB.nmb, List.getD_cons_zero, List.getD_cons_succ, frz, drp, enc_snoc, enc_snoc0, enc_snoc1]; done)
  · rename_i s9 q1 _ _ _ y1 q2 _ _ _ _ y2 _ _
    refine s_againR ((m - 1, xs ++ [.mk 4 [] s9 y2 []], q2)) (fun i => if i = 1 then 7 else i) ?_ ?_ ?_ ?_ ?_ ?_ <;> (first | omega | (dsimp only; omega) | (intro i hi; (try dsimp only); (repeat' split) <;> omega) | (intro i j hi hj h; (try dsimp only at h); (repeat' split at h) <;> omega) | skip)
    · simp only [wtL_append, wtL_one, wtP_mk, wtL_nil]; dsimp only [List.length_nil]; omega
    all_goals (simp [fitsTR, fitsMR, PV.ren, renL, MB.ren, upd_def, PV.nmb, nmbL, MB.nmb, List.getD_cons_zero, List.getD_cons_succ, frz, drp, enc_snoc, enc_snoc0, enc_snoc1]; done)
theorem prt2' : ACok Try.prog 73 (prtC 2 4800 700) := prt_of prt2
end Go.Proofs.Ytoocbpendccngaa
