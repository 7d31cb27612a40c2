/- Contracts: the reference's reader of templates. -/
import Derived.Test.YtoocbpendccngaaZX13
import Derived.Test.YtoocbpendccngaaZK14

namespace Go.Proofs.Ytoocbpendccngaa
attribute [local irreducible] awp arun acalm FinP Fin AX.then AX.inBlock Again aG gsel amix amixN amixC aop aopc aopd cutK
attribute [local go_sem] aBSliceD aSlice aSliceC boundOf aMk aCall aCallC aLenL aLen aPick_t aPick_f aNil aAlloc aBox aBuild bldPV aBSlice bsPV aApp newsOf destOf drp aConvX aConv aConvInt aLoad cellsAt aStore cellsPV setAt aFld aField aIdx aIndex aUn aBin' aBin aMax aExtract pvOf PV.isCell nmbL PV.nmb List.map_cons List.map_nil List.all_cons List.all_nil Bool.and_true Bool.true_and if_true if_false List.getD_cons_zero List.getD_cons_succ List.getD_nil Option.isSome_some true_and and_true and_self eq_self true_or or_true List.drop_zero List.drop_succ_cons List.drop_nil List.take_zero List.take_succ_cons List.take_nil List.length_cons List.length_nil List.length_map Option.getD_some Option.getD_none List.nil_append List.cons_append List.append_nil Option.some.injEq exists_eq_left' List.getElem?_cons_zero List.getElem?_cons_succ Int.toNat_natCast Int.natCast_inj toNat_succ Nat.zero_add res res1 resC owns owns1 ownsC List.flatMap_cons List.flatMap_nil List.flatten_cons List.flatten_nil List.mem_cons List.not_mem_nil or_false false_or forall_eq forall_eq_or_imp isFro frz frz1 pureC tabA isBld List.cons.injEq PV.seq.injEq PV.int.injEq PV.str.injEq PV.bool.injEq PV.agg.injEq inR tab Γof aRes packR Option.map_some Option.map_none rel Prod.exists exists_and_left exists_eq_left and_assoc beq_self_eq_true Bool.not_true Bool.not_false decide_true decide_false List.set_cons_zero List.set_cons_succ rst_nil rst_cons
attribute [local go_sem ↓] evT upd_def aop aopc aopd
set_option maxRecDepth 100000
set_option linter.unusedVariables false
set_option linter.unusedSimpArgs false
open Go.RowKit
def lvX14_69 : Nat → List Nat
  | 0 => [0, 1, 2]
  | 1 => [0, 1, 2, 9]
  | 2 => [0, 1, 2, 9, 28]
  | 3 => [0, 1, 2, 9, 41]
  | 4 => [0, 1, 2, 9, 10]
  | 5 => [0, 1, 2, 9, 10, 62]
  | 6 => [0, 1, 2, 9, 10]
  | 7 => [0, 2, 9, 10]
  | 8 => [0, 1, 2, 9]
  | 9 => [0, 1, 2, 9, 11, 12]
  | 10 => [0, 1, 2, 9, 11, 12, 85]
  | 11 => [6, 7, 8]
  | 12 => [0, 1, 2, 9, 11, 12, 93]
  | 13 => [6, 7, 8]
  | 14 => [0, 1, 2, 9, 11, 12, 13]
  | 15 => [0, 1, 2, 9, 11, 12, 13, 14]
  | 16 => [0, 1, 2, 9, 11, 12, 13, 14, 106]
  | 17 => [0, 1, 2, 9, 11, 12, 13]
  | 18 => [0, 1, 2, 9, 11, 13, 15, 16, 17]
  | 19 => [0, 1, 2, 9, 11, 13, 16, 17]
  | 20 => [0, 1, 2, 9, 11, 12, 13, 17]
  | 21 => [0, 1, 2, 9, 11, 12, 13, 14]
  | 22 => [0, 1, 2, 9, 11, 12, 13, 14, 124]
  | 23 => [0, 1, 2, 9, 11, 13, 18, 19, 20]
  | 24 => [0, 1, 2, 9, 11, 13, 19, 20]
  | 25 => [0, 1, 2, 9, 11, 12, 13, 20]
  | 26 => [0, 1, 2, 9, 11, 12, 13, 14]
  | 27 => [0, 1, 2, 9, 11, 12, 13, 14, 145]
  | 28 => [0, 1, 2, 9, 11, 13, 21, 22, 23]
  | 29 => [0, 1, 2, 9, 13, 22, 23]
  | 30 => [0, 1, 2, 9, 12, 13, 23]
  | 31 => [0, 1, 2, 9, 12, 13, 14]
  | 32 => [0, 1, 2, 9, 12, 13, 167]
  | 33 => [6, 7, 8]
  | 34 => [0, 2, 9, 12]
  | 35 => [0, 1, 2, 9]
  | 36 => [6, 7, 8]
  | _ => []
def lvX14_119 : Nat → List Nat
  | 0 => [0, 1]
  | 1 => [0, 1, 6]
  | 2 => [0, 1, 6, 13]
  | 3 => [0, 1, 6]
  | 4 => [0, 1, 6, 21]
  | 5 => [4, 5]
  | 6 => [4, 5]
  | _ => []
--LV=X14
@[go_sem] def wdC : PC := rel (α := Bs × Nat) (fun x => [.str x.1, .int .i64 x.2]) (fun x => x.1.length ≤ 1073741824 ∧ x.2 + 2 ≤ x.1.length ∧ (x.1.take (x.2 + 2)).drop x.2 = [123, 123]) (fun x => .tup [.str (wdAt x.1 x.2).1, .int .i64 (wdAt x.1 x.2).2])
theorem wd_s : PureOk Try.prog 119 wdC := by
  refine pure_rel 2 tab_nil mixed [.tmp 4, .tmp 5] Try.func119 rfl rfl (by kernel_rfl) (by kernel_rfl) (fun _ => rfl) (by kernel_rfl) ?_
  rintro ⟨s, a⟩ K ⟨hl, hal, ht⟩ hK
  dsimp only at *
  unfold entry
  repeat' (first | (refine qwd fun K hk => ?_; simp only [lvX14_119, mkT, go_sem, Nat.reduceEqDiff, Nat.reduceAdd, Nat.reduceLeDiff, Nat.reduceLT, Nat.reduceSub, Int.reduceToNat, ↓reduceIte, reduceCtorEq]; apply hk; clear hk K) | apply qw8 | apply qw1 | refine qwc lvX14_119 ?_ | apply qt1 | apply qw5 | apply qw2 | apply qw9 | apply qt2 | apply qt3 | apply qt4 | apply qt5 | apply qt6 | apply qw3 | apply qw4 | apply qj1 | apply qj2 | apply qj3 | apply qj4 | apply qj5 | apply qu1 | apply qu2 | ((first | apply qa1 | apply qa2 | apply qa3 | apply qh1 | apply qh2); intro K hk; simp only [go_sem, Nat.reduceEqDiff, Nat.reduceAdd, Nat.reduceLeDiff, Nat.reduceLT, Nat.reduceSub, Int.reduceToNat, ↓reduceIte, reduceCtorEq]; (repeat (refine And.intro ?_ ?_; focus (first | omega | assumption | with_reducible rfl | (simp only [go_sem, Nat.reduceEqDiff, Nat.reduceAdd, Nat.reduceLeDiff, Nat.reduceLT, Nat.reduceSub, Int.reduceToNat, ↓reduceIte, reduceCtorEq]; done)))); intros; apply hk; clear hk K) | ((first | apply qg1 rfl | apply qcd); focus (simp only [go_sem, Nat.reduceEqDiff, Nat.reduceAdd, Nat.reduceLeDiff, Nat.reduceLT, Nat.reduceSub, Int.reduceToNat, ↓reduceIte, reduceCtorEq]; exact rfl)) | (refine qj6 ?_ ?_ <;> intro hc <;> (try simp only [hc]) <;> (try simp only [decide_eq_true_eq, decide_eq_false_iff_not, Bool.not_eq_true', Bool.not_eq_false', Bool.not_eq_true, reduceCtorEq] at hc) <;> (try (exfalso; omega))) | (refine qt7 ?_ ?_; focus decide) | (refine qw7 ?_ ?_ ?_; (focus (decide +kernel)); (focus (decide +kernel))))
  refine s_loop (ι := Nat) (fun k => [(0, .str s), (1, .int .i64 a), (6, .int .i64 ((a : Int) + k))]) (fun _ => []) 0 (fun k => 2 ≤ k ∧ a + k ≤ s.length ∧ noAt s [125, 125] a k) (fun k => s.length - k) 2 (by omega) ⟨Nat.le_refl _, hal, tag_no ht⟩ ?_ ?_
  · simp [fits, fitsT, fitsM, upd_def, PV.nmb, nmbL, MB.nmb, List.getD_cons_zero, List.getD_cons_succ]
  rintro k ⟨hk2, hk, hno⟩
  simp only [mkS, mkT, mkM]
  have n1 : ((a : Int) + k).toNat = a + k := by omega
  have n2 : ((a : Int) + k + 2).toNat = a + k + 2 := by omega
  have n3 : ((a : Int) + 2).toNat = a + 2 := by omega
  repeat' (first | (refine qwd fun K hk => ?_; simp only [lvX14_119, mkT, go_sem, Nat.reduceEqDiff, Nat.reduceAdd, Nat.reduceLeDiff, Nat.reduceLT, Nat.reduceSub, Int.reduceToNat, ↓reduceIte, reduceCtorEq, n1, n2, n3]; apply hk; clear hk K) | apply qw8 | apply qw1 | refine qwc lvX14_119 ?_ | apply qt1 | apply qw5 | apply qw2 | apply qw9 | apply qt2 | apply qt3 | apply qt4 | apply qt5 | apply qt6 | apply qw3 | apply qw4 | apply qj1 | apply qj2 | apply qj3 | apply qj4 | apply qj5 | apply qu1 | apply qu2 | ((first | apply qa1 | apply qa2 | apply qa3 | apply qh1 | apply qh2); intro K hk; simp only [go_sem, Nat.reduceEqDiff, Nat.reduceAdd, Nat.reduceLeDiff, Nat.reduceLT, Nat.reduceSub, Int.reduceToNat, ↓reduceIte, reduceCtorEq, n1, n2, n3]; (repeat (refine And.intro ?_ ?_; focus (first | omega | assumption | with_reducible rfl | (simp only [go_sem, Nat.reduceEqDiff, Nat.reduceAdd, Nat.reduceLeDiff, Nat.reduceLT, Nat.reduceSub, Int.reduceToNat, ↓reduceIte, reduceCtorEq, n1, n2, n3]; done)))); intros; apply hk; clear hk K) | ((first | apply qg1 rfl | apply qcd); focus (simp only [go_sem, Nat.reduceEqDiff, Nat.reduceAdd, Nat.reduceLeDiff, Nat.reduceLT, Nat.reduceSub, Int.reduceToNat, ↓reduceIte, reduceCtorEq, n1, n2, n3]; exact rfl)) | (refine qj6 ?_ ?_ <;> intro hc <;> (try simp only [hc]) <;> (try simp only [decide_eq_true_eq, decide_eq_false_iff_not, Bool.not_eq_true', Bool.not_eq_false', Bool.not_eq_true, reduceCtorEq] at hc) <;> (try (exfalso; omega))) | (refine qt7 ?_ ?_; focus decide) | (refine qw7 ?_ ?_ ?_; (focus (decide +kernel)); (focus (decide +kernel))))
  · ((first | refine fin_ret ?_ | refine fin_end ?_); simp only [go_sem, ↓upd_def, Nat.reduceEqDiff, Nat.reduceAdd, ↓reduceIte, reduceCtorEq])
    rw [wdAt_hit ht hno ‹_›] at hK
    refine K_eq hK ?_
    rw [show (((a + k + 2 : Nat) : Int)) = (a : Int) + k + 2 by omega]
  · refine s_again (k + 1) ?_ ?_ ?_ <;> (first | omega | (dsimp only; omega) | skip)
    · exact ⟨by omega, by omega, noAt_succ hno ‹_›⟩
    · simp [fits, fitsT, fitsM, upd_def, PV.nmb, nmbL, MB.nmb, List.getD_cons_zero, List.getD_cons_succ, Int.add_assoc]
  · ((first | refine fin_ret ?_ | refine fin_end ?_); simp only [go_sem, ↓upd_def, Nat.reduceEqDiff, Nat.reduceAdd, ↓reduceIte, reduceCtorEq])
    rw [wdAt_none ht hno (by omega)] at hK
    exact hK
theorem enc_pt0' (out : List PartD) (k : Int) (s : Bs) (y : List PartD) : encPs out ++ [[.int .i64 k, .str [], .str s, .seq [], .seq (encPs y)]] = encPs (out ++ [.mk k [] s [] y]) := by
  rw [encPs_append, encPs_one, encP_mk, encPs_nil]
@[go_sem] def rjC (n : Nat) : PC := rel (α := Bs × Nat × Int) (fun x => [.str x.1, .int .i64 x.2.1, .int .i64 x.2.2]) (fun x => x.1.length < n + x.2.1 ∧ x.1.length ≤ 1073741824 ∧ x.2.1 ≤ x.1.length ∧ -1 ≤ x.2.2 ∧ x.2.2 ≤ 3) (fun x => .tup [.seq (encPs (rdJ (x.1.drop x.2.1, x.2.2)).1), .int .i64 ((x.1.length - (rdJ (x.1.drop x.2.1, x.2.2)).2.1.length : Nat) : Int), .str (rdJ (x.1.drop x.2.1, x.2.2)).2.2])
set_option maxHeartbeats 8000000 in
theorem rd_s : ∀ n, PureOk Try.prog 69 (rjC n) := by
  intro n
  induction n with
  | zero => exact never_rel Try.func69 (by kernel_rfl) (by kernel_rfl) (fun x h => by omega)
  | succ n ih =>
  refine pure_rel 3 (tab_cons wd_s (tab_cons ih tab_nil)) mixed [.tmp 6, .tmp 7, .tmp 8] Try.func69 rfl rfl (by kernel_rfl) (by kernel_rfl) (fun _ => rfl) (by kernel_rfl) ?_
  rintro ⟨s, a0, d⟩ K ⟨hn, hl, ha0, hd0, hd3⟩ hK
  dsimp only at *
  clear ih
  unfold entry
  repeat' (first | (refine qwd fun K hk => ?_; simp only [lvX14_69, mkT, go_sem, Nat.reduceEqDiff, Nat.reduceAdd, Nat.reduceLeDiff, Nat.reduceLT, Nat.reduceSub, Int.reduceToNat, ↓reduceIte, reduceCtorEq]; apply hk; clear hk K) | apply qw8 | apply qw1 | refine qwc lvX14_69 ?_ | apply qt1 | apply qw5 | apply qw2 | apply qw9 | apply qt2 | apply qt3 | apply qt4 | apply qt5 | apply qt6 | apply qw3 | apply qw4 | apply qj1 | apply qj2 | apply qj3 | apply qj4 | apply qj5 | apply qu1 | apply qu2 | ((first | apply qa1 | apply qa2 | apply qa3 | apply qh1 | apply qh2); intro K hk; simp only [go_sem, Nat.reduceEqDiff, Nat.reduceAdd, Nat.reduceLeDiff, Nat.reduceLT, Nat.reduceSub, Int.reduceToNat, ↓reduceIte, reduceCtorEq]; (repeat (refine And.intro ?_ ?_; focus (first | omega | assumption | with_reducible rfl | (simp only [go_sem, Nat.reduceEqDiff, Nat.reduceAdd, Nat.reduceLeDiff, Nat.reduceLT, Nat.reduceSub, Int.reduceToNat, ↓reduceIte, reduceCtorEq]; done)))); intros; apply hk; clear hk K) | ((first | apply qg1 rfl | apply qcd); focus (simp only [go_sem, Nat.reduceEqDiff, Nat.reduceAdd, Nat.reduceLeDiff, Nat.reduceLT, Nat.reduceSub, Int.reduceToNat, ↓reduceIte, reduceCtorEq]; exact rfl)) | (refine qj6 ?_ ?_ <;> intro hc <;> (try simp only [hc]) <;> (try simp only [decide_eq_true_eq, decide_eq_false_iff_not, Bool.not_eq_true', Bool.not_eq_false', Bool.not_eq_true, reduceCtorEq] at hc) <;> (try (exfalso; omega))) | (refine qt7 ?_ ?_; focus decide) | (refine qw7 ?_ ?_ ?_; (focus (decide +kernel)); (focus (decide +kernel))))
  generalize hR : rdJ (s.drop a0, d) = R at hK
  refine s_loop (ι := Nat × List PartD) (fun i => [(0, .str s), (1, .int .i64 i.1), (2, .int .i64 d), (9, .own 0)]) (fun i => [(0, .row 63 5 (encPs i.2))]) 1 (fun i => a0 ≤ i.1 ∧ i.1 ≤ s.length ∧ i.2.length ≤ i.1 ∧ rdS (s.length - i.1 + 1) i.2 (s.drop i.1) d = R) (fun i => s.length - i.1) (a0, []) (by omega) ⟨Nat.le_refl _, ha0, Nat.zero_le _, by rw [← hR]; exact rdJ_of (by rw [List.length_drop]; omega)⟩ ?_ ?_
  · simp [fits, fitsT, fitsM, upd_def, PV.nmb, nmbL, MB.nmb, List.getD_cons_zero, List.getD_cons_succ, encPs_nil]
  rintro ⟨a, out⟩ ⟨ha, hal, ho, he⟩
  dsimp only at *
  clear hR
  have hxa := encPs_all out
  simp only [mkS, mkT, mkM]
  have n1 : ((a : Int) + 2).toNat = a + 2 := by omega
  have hxl := len_le_wtL out
  by_cases h0 : a = s.length
  · have hz : s.drop a = [] := List.drop_of_length_le (by omega)
    rw [rdS_succ, if_pos hz] at he
    subst he h0
    repeat' (first | (refine qwd fun K hk => ?_; simp only [lvX14_69, mkT, go_sem, Nat.reduceEqDiff, Nat.reduceAdd, Nat.reduceLeDiff, Nat.reduceLT, Nat.reduceSub, Int.reduceToNat, ↓reduceIte, reduceCtorEq]; apply hk; clear hk K) | apply qw8 | apply qw1 | refine qwc lvX14_69 ?_ | apply qt1 | apply qw5 | apply qw2 | apply qw9 | apply qt2 | apply qt3 | apply qt4 | apply qt5 | apply qt6 | apply qw3 | apply qw4 | apply qj1 | apply qj2 | apply qj3 | apply qj4 | apply qj5 | apply qu1 | apply qu2 | ((first | apply qa1 | apply qa2 | apply qa3 | apply qh1 | apply qh2); intro K hk; simp only [go_sem, Nat.reduceEqDiff, Nat.reduceAdd, Nat.reduceLeDiff, Nat.reduceLT, Nat.reduceSub, Int.reduceToNat, ↓reduceIte, reduceCtorEq]; (repeat (refine And.intro ?_ ?_; focus (first | omega | assumption | with_reducible rfl | (simp only [go_sem, Nat.reduceEqDiff, Nat.reduceAdd, Nat.reduceLeDiff, Nat.reduceLT, Nat.reduceSub, Int.reduceToNat, ↓reduceIte, reduceCtorEq]; done)))); intros; apply hk; clear hk K) | ((first | apply qg1 rfl | apply qcd); focus (simp only [go_sem, Nat.reduceEqDiff, Nat.reduceAdd, Nat.reduceLeDiff, Nat.reduceLT, Nat.reduceSub, Int.reduceToNat, ↓reduceIte, reduceCtorEq]; exact rfl)) | (refine qj6 ?_ ?_ <;> intro hc <;> (try simp only [hc]) <;> (try simp only [decide_eq_true_eq, decide_eq_false_iff_not, Bool.not_eq_true', Bool.not_eq_false', Bool.not_eq_true, reduceCtorEq] at hc) <;> (try (exfalso; omega))) | (refine qt7 ?_ ?_; focus decide) | (refine qw7 ?_ ?_ ?_; (focus (decide +kernel)); (focus (decide +kernel))))
    all_goals first
      | (((first | refine fin_ret ?_ | refine fin_end ?_); simp only [go_sem, ↓upd_def, Nat.reduceEqDiff, Nat.reduceAdd, ↓reduceIte, reduceCtorEq])
         refine K_eq hK ?_
         simp)
      | skip
  have hlt : a < s.length := by omega
  by_cases hT : (s.take (a + 2)).drop a = [123, 123]
  · have ha2 : a + 2 ≤ s.length := Classical.byContradiction fun h => short_no (by omega) hT
    rw [rdS_tag hlt hT] at he
    by_cases h2 : ix2 (s.drop a) < 0
    · rw [if_pos (.inl h2)] at he
      have hW : wdAt s a = ([], -1) := by unfold wdAt; rw [if_pos h2]
      have hW1 : (wdAt s a).1 = [] := by rw [hW]
      have hW2 : (wdAt s a).2 = -1 := by rw [hW]
      repeat' (first | (refine qwd fun K hk => ?_; simp only [lvX14_69, mkT, go_sem, Nat.reduceEqDiff, Nat.reduceAdd, Nat.reduceLeDiff, Nat.reduceLT, Nat.reduceSub, Int.reduceToNat, ↓reduceIte, reduceCtorEq, n1, hT, hW1, hW2, Int.reduceNeg, Int.reduceLT, decide_true, decide_false]; apply hk; clear hk K) | apply qw8 | apply qw1 | refine qwc lvX14_69 ?_ | apply qt1 | apply qw5 | apply qw2 | apply qw9 | apply qt2 | apply qt3 | apply qt4 | apply qt5 | apply qt6 | apply qw3 | apply qw4 | apply qj1 | apply qj2 | apply qj3 | apply qj4 | apply qj5 | apply qu1 | apply qu2 | ((first | apply qa1 | apply qa2 | apply qa3 | apply qh1 | apply qh2); intro K hk; simp only [go_sem, Nat.reduceEqDiff, Nat.reduceAdd, Nat.reduceLeDiff, Nat.reduceLT, Nat.reduceSub, Int.reduceToNat, ↓reduceIte, reduceCtorEq, n1, hT, hW1, hW2, Int.reduceNeg, Int.reduceLT, decide_true, decide_false]; (repeat (refine And.intro ?_ ?_; focus (first | omega | assumption | with_reducible rfl | (simp only [go_sem, Nat.reduceEqDiff, Nat.reduceAdd, Nat.reduceLeDiff, Nat.reduceLT, Nat.reduceSub, Int.reduceToNat, ↓reduceIte, reduceCtorEq, n1, hT, hW1, hW2, Int.reduceNeg, Int.reduceLT, decide_true, decide_false]; done)))); intros; apply hk; clear hk K) | ((first | apply qg1 rfl | apply qcd); focus (simp only [go_sem, Nat.reduceEqDiff, Nat.reduceAdd, Nat.reduceLeDiff, Nat.reduceLT, Nat.reduceSub, Int.reduceToNat, ↓reduceIte, reduceCtorEq, n1, hT, hW1, hW2, Int.reduceNeg, Int.reduceLT, decide_true, decide_false]; exact rfl)) | (refine qj6 ?_ ?_ <;> intro hc <;> (try simp only [hc]) <;> (try simp only [decide_eq_true_eq, decide_eq_false_iff_not, Bool.not_eq_true', Bool.not_eq_false', Bool.not_eq_true, reduceCtorEq] at hc) <;> (try (exfalso; omega))) | (refine qt7 ?_ ?_; focus decide) | (refine qw7 ?_ ?_ ?_; (focus (decide +kernel)); (focus (decide +kernel))))
      all_goals first
        | (((first | refine fin_ret ?_ | refine fin_end ?_); simp only [go_sem, ↓upd_def, Nat.reduceEqDiff, Nat.reduceAdd, ↓reduceIte, reduceCtorEq])
           subst he
           refine K_eq hK ?_
           simp [encPs_nil, badW]
           try omega)
        | skip
    obtain ⟨e, w, he1, he2, he3, e1, e2, hW1, hW2⟩ := tag_nums hT h2
    have he0 : ((e : Int) < 0) = False := eq_false (by omega)
    by_cases hd9 : d < 0
    · rw [if_pos (.inr hd9)] at he
      repeat' (first | (refine qwd fun K hk => ?_; simp only [lvX14_69, mkT, go_sem, Nat.reduceEqDiff, Nat.reduceAdd, Nat.reduceLeDiff, Nat.reduceLT, Nat.reduceSub, Int.reduceToNat, ↓reduceIte, reduceCtorEq, n1, hT, hW1, hW2, he0, hd9, decide_true, decide_false]; apply hk; clear hk K) | apply qw8 | apply qw1 | refine qwc lvX14_69 ?_ | apply qt1 | apply qw5 | apply qw2 | apply qw9 | apply qt2 | apply qt3 | apply qt4 | apply qt5 | apply qt6 | apply qw3 | apply qw4 | apply qj1 | apply qj2 | apply qj3 | apply qj4 | apply qj5 | apply qu1 | apply qu2 | ((first | apply qa1 | apply qa2 | apply qa3 | apply qh1 | apply qh2); intro K hk; simp only [go_sem, Nat.reduceEqDiff, Nat.reduceAdd, Nat.reduceLeDiff, Nat.reduceLT, Nat.reduceSub, Int.reduceToNat, ↓reduceIte, reduceCtorEq, n1, hT, hW1, hW2, he0, hd9, decide_true, decide_false]; (repeat (refine And.intro ?_ ?_; focus (first | omega | assumption | with_reducible rfl | (simp only [go_sem, Nat.reduceEqDiff, Nat.reduceAdd, Nat.reduceLeDiff, Nat.reduceLT, Nat.reduceSub, Int.reduceToNat, ↓reduceIte, reduceCtorEq, n1, hT, hW1, hW2, he0, hd9, decide_true, decide_false]; done)))); intros; apply hk; clear hk K) | ((first | apply qg1 rfl | apply qcd); focus (simp only [go_sem, Nat.reduceEqDiff, Nat.reduceAdd, Nat.reduceLeDiff, Nat.reduceLT, Nat.reduceSub, Int.reduceToNat, ↓reduceIte, reduceCtorEq, n1, hT, hW1, hW2, he0, hd9, decide_true, decide_false]; exact rfl)) | (refine qj6 ?_ ?_ <;> intro hc <;> (try simp only [hc]) <;> (try simp only [decide_eq_true_eq, decide_eq_false_iff_not, Bool.not_eq_true', Bool.not_eq_false', Bool.not_eq_true, reduceCtorEq] at hc) <;> (try (exfalso; omega))) | (refine qt7 ?_ ?_; focus decide) | (refine qw7 ?_ ?_ ?_; (focus (decide +kernel)); (focus (decide +kernel))))
      all_goals first
        | (((first | refine fin_ret ?_ | refine fin_end ?_); simp only [go_sem, ↓upd_def, Nat.reduceEqDiff, Nat.reduceAdd, ↓reduceIte, reduceCtorEq])
           subst he
           refine K_eq hK ?_
           simp [encPs_nil, badW]
           try omega)
        | skip
    rw [if_neg (fun h => h.elim h2 hd9), e1, e2] at he
    have hse : (s.drop e).length = s.length - e := List.length_drop
    have g9 : ∀ o, rdS (s.length - a) o (s.drop e) d = rdS (s.length - e + 1) o (s.drop e) d := fun o => rdS_fuel _ _ o _ _ (by omega) (by omega)
    have g2 : rdS (s.length - a) [] (s.drop e) (d - 1) = rdJ (s.drop e, d - 1) := rdJ_of (by omega)
    have hb1 : s.drop (s.length - (rdJ (s.drop e, d - 1)).2.1.length) = (rdJ (s.drop e, d - 1)).2.1 := rdJ_back s e (d - 1)
    have g3 : (rdJ (s.drop e, d - 1)).2.1.length ≤ (s.drop e).length := rdJ_len _ _
    have g4 : rdS (s.length - a) [] (rdJ (s.drop e, d - 1)).2.1 (d - 1) = (rdJ ((rdJ (s.drop e, d - 1)).2.1, d - 1)) := rdJ_of (by omega)
    have g5 : (rdJ ((rdJ (s.drop e, d - 1)).2.1, d - 1)).2.1.length ≤ (rdJ (s.drop e, d - 1)).2.1.length := rdJ_len _ _
    have hb2 : s.drop (s.length - (rdJ ((rdJ (s.drop e, d - 1)).2.1, d - 1)).2.1.length) = (rdJ ((rdJ (s.drop e, d - 1)).2.1, d - 1)).2.1 := by
      have := rdJ_back s (s.length - (rdJ (s.drop e, d - 1)).2.1.length) (d - 1)
      rw [hb1] at this; exact this
    have g7 : ∀ o, rdS (s.length - a) o (rdJ (s.drop e, d - 1)).2.1 d = rdS (s.length - (s.length - (rdJ (s.drop e, d - 1)).2.1.length) + 1) o (s.drop (s.length - (rdJ (s.drop e, d - 1)).2.1.length)) d := fun o => by
      rw [hb1]; exact rdS_fuel _ _ o _ _ (by omega) (by omega)
    have g8 : ∀ o, rdS (s.length - a) o (rdJ ((rdJ (s.drop e, d - 1)).2.1, d - 1)).2.1 d = rdS (s.length - (s.length - (rdJ ((rdJ (s.drop e, d - 1)).2.1, d - 1)).2.1.length) + 1) o (s.drop (s.length - (rdJ ((rdJ (s.drop e, d - 1)).2.1, d - 1)).2.1.length)) d := fun o => by
      rw [hb2]; exact rdS_fuel _ _ o _ _ (by omega) (by omega)
    rw [g2] at he
    dsimp only at he
    rw [g4] at he
    by_cases hI : 3 < w.length ∧ w.take 3 = [105, 102, 32]
    · obtain ⟨hI3, hI⟩ := hI
      obtain ⟨hk, hnm, hE⟩ := kdS_if hI3 hI
      simp only [hk, hnm, show ((3 : Int) = 0) = False by simp, and_true, if_false] at he
      by_cases hI5 : 5 < w.length
      all_goals
        repeat' (first | (refine qwd fun K hk => ?_; simp only [lvX14_69, mkT, go_sem, Nat.reduceEqDiff, Nat.reduceAdd, Nat.reduceLeDiff, Nat.reduceLT, Nat.reduceSub, Int.reduceToNat, ↓reduceIte, reduceCtorEq, n1, hT, hW1, hW2, he0, hd9, hb1, Int.reduceEq, decide_true, decide_false, Bool.not_true, Bool.not_false, hI, hE, encPs_iff, Int.toNat_natCast, List.drop_zero, List.take_length, enc_tx, enc_hl, enc_pt, enc_pt0, enc_pt0', encPs_a5, encPs_length, List.length_append, List.length_cons, List.length_nil, List.length_drop, List.length_take, List.nil_append]; apply hk; clear hk K) | apply qw8 | apply qw1 | refine qwc lvX14_69 ?_ | apply qt1 | apply qw5 | apply qw2 | apply qw9 | apply qt2 | apply qt3 | apply qt4 | apply qt5 | apply qt6 | apply qw3 | apply qw4 | apply qj1 | apply qj2 | apply qj3 | apply qj4 | apply qj5 | apply qu1 | apply qu2 | ((first | apply qa1 | apply qa2 | apply qa3 | apply qh1 | apply qh2); intro K hk; simp only [go_sem, Nat.reduceEqDiff, Nat.reduceAdd, Nat.reduceLeDiff, Nat.reduceLT, Nat.reduceSub, Int.reduceToNat, ↓reduceIte, reduceCtorEq, n1, hT, hW1, hW2, he0, hd9, hb1, Int.reduceEq, decide_true, decide_false, Bool.not_true, Bool.not_false, hI, hE, encPs_iff, Int.toNat_natCast, List.drop_zero, List.take_length, enc_tx, enc_hl, enc_pt, enc_pt0, enc_pt0', encPs_a5, encPs_length, List.length_append, List.length_cons, List.length_nil, List.length_drop, List.length_take, List.nil_append]; (repeat (refine And.intro ?_ ?_; focus (first | omega | assumption | with_reducible rfl | (simp only [go_sem, Nat.reduceEqDiff, Nat.reduceAdd, Nat.reduceLeDiff, Nat.reduceLT, Nat.reduceSub, Int.reduceToNat, ↓reduceIte, reduceCtorEq, n1, hT, hW1, hW2, he0, hd9, hb1, Int.reduceEq, decide_true, decide_false, Bool.not_true, Bool.not_false, hI, hE, encPs_iff, Int.toNat_natCast, List.drop_zero, List.take_length, enc_tx, enc_hl, enc_pt, enc_pt0, enc_pt0', encPs_a5, encPs_length, List.length_append, List.length_cons, List.length_nil, List.length_drop, List.length_take, List.nil_append]; done)))); intros; apply hk; clear hk K) | ((first | apply qg1 rfl | apply qcd); focus (simp only [go_sem, Nat.reduceEqDiff, Nat.reduceAdd, Nat.reduceLeDiff, Nat.reduceLT, Nat.reduceSub, Int.reduceToNat, ↓reduceIte, reduceCtorEq, n1, hT, hW1, hW2, he0, hd9, hb1, Int.reduceEq, decide_true, decide_false, Bool.not_true, Bool.not_false, hI, hE, encPs_iff, Int.toNat_natCast, List.drop_zero, List.take_length, enc_tx, enc_hl, enc_pt, enc_pt0, enc_pt0', encPs_a5, encPs_length, List.length_append, List.length_cons, List.length_nil, List.length_drop, List.length_take, List.nil_append]; exact rfl)) | (refine qj6 ?_ ?_ <;> intro hc <;> (try simp only [hc]) <;> (try simp only [decide_eq_true_eq, decide_eq_false_iff_not, Bool.not_eq_true', Bool.not_eq_false', Bool.not_eq_true, reduceCtorEq] at hc) <;> (try (exfalso; omega))) | (refine qt7 ?_ ?_; focus decide) | (refine qw7 ?_ ?_ ?_; (focus (decide +kernel)); (focus (decide +kernel))))
        all_goals first
          | (((first | refine fin_ret ?_ | refine fin_end ?_); simp only [go_sem, ↓upd_def, Nat.reduceEqDiff, Nat.reduceAdd, ↓reduceIte, reduceCtorEq])
             rw [if_pos (show w = wEnd ∨ w = wElse from Or.inl ‹w = [101, 110, 100]›)] at he
             (try dsimp only at he)
             subst he
             refine K_eq hK ?_
             simp [encPs_nil, badW]
             try omega)
          | (((first | refine fin_ret ?_ | refine fin_end ?_); simp only [go_sem, ↓upd_def, Nat.reduceEqDiff, Nat.reduceAdd, ↓reduceIte, reduceCtorEq])
             rw [if_pos (show w = wEnd ∨ w = wElse from Or.inr ‹w = [101, 108, 115, 101]›)] at he
             (try dsimp only at he)
             subst he
             refine K_eq hK ?_
             simp [encPs_nil, badW]
             try omega)
          | (((first | refine fin_ret ?_ | refine fin_end ?_); simp only [go_sem, ↓upd_def, Nat.reduceEqDiff, Nat.reduceAdd, ↓reduceIte, reduceCtorEq])
             rw [if_neg (fun h : w = wEnd ∨ w = wElse => h.elim ‹¬ w = [101, 110, 100]› ‹¬ w = [101, 108, 115, 101]›), if_pos (show (rdJ (s.drop e, d - 1)).2.2 = wElse from ‹(rdJ (s.drop e, d - 1)).2.2 = [101, 108, 115, 101]›), if_neg (show ¬ (rdJ ((rdJ (s.drop e, d - 1)).2.1, d - 1)).2.2 = wEnd from ‹¬ (rdJ ((rdJ (s.drop e, d - 1)).2.1, d - 1)).2.2 = [101, 110, 100]›)] at he
             (try dsimp only at he)
             subst he
             refine K_eq hK ?_
             simp [encPs_nil, badW]
             try omega)
          | (((first | refine fin_ret ?_ | refine fin_end ?_); simp only [go_sem, ↓upd_def, Nat.reduceEqDiff, Nat.reduceAdd, ↓reduceIte, reduceCtorEq])
             rw [if_neg (fun h : w = wEnd ∨ w = wElse => h.elim ‹¬ w = [101, 110, 100]› ‹¬ w = [101, 108, 115, 101]›), if_neg (show ¬ (rdJ (s.drop e, d - 1)).2.2 = wElse from ‹¬ (rdJ (s.drop e, d - 1)).2.2 = [101, 108, 115, 101]›), if_neg (show ¬ (rdJ (s.drop e, d - 1)).2.2 = wEnd from ‹¬ (rdJ (s.drop e, d - 1)).2.2 = [101, 110, 100]›)] at he
             (try dsimp only at he)
             subst he
             refine K_eq hK ?_
             simp [encPs_nil, badW]
             try omega)
          | (rw [if_neg (fun h : w = wEnd ∨ w = wElse => h.elim ‹¬ w = [101, 110, 100]› ‹¬ w = [101, 108, 115, 101]›), if_pos (show (rdJ (s.drop e, d - 1)).2.2 = wElse from ‹(rdJ (s.drop e, d - 1)).2.2 = [101, 108, 115, 101]›), if_pos (show (rdJ ((rdJ (s.drop e, d - 1)).2.1, d - 1)).2.2 = wEnd from ‹(rdJ ((rdJ (s.drop e, d - 1)).2.1, d - 1)).2.2 = [101, 110, 100]›)] at he
             (try dsimp only at he)
             rw [g8] at he
             refine s_againR ((s.length - (rdJ ((rdJ (s.drop e, d - 1)).2.1, d - 1)).2.1.length, out ++ [.mk 3 [] (w.drop 3) (rdJ (s.drop e, d - 1)).1 (rdJ ((rdJ (s.drop e, d - 1)).2.1, d - 1)).1])) (fun i => if i = 0 then 3 else i) ?_ ?_ ?_ ?_ ?_ ?_ <;> (first | omega | (dsimp only; omega) | (intro i hi; (try dsimp only); (repeat' split) <;> omega) | (intro i j hi hj h; (try dsimp only at h); (repeat' split at h) <;> omega) | skip)
             · refine ⟨by dsimp only; omega, by dsimp only; omega, by simp only [List.length_append, List.length_cons, List.length_nil]; omega, he⟩
             all_goals (simp [fitsTR, fitsMR, PV.ren, renL, MB.ren, upd_def, PV.nmb, nmbL, MB.nmb, List.getD_cons_zero, List.getD_cons_succ, frz, drp]; done))
          | (rw [if_neg (fun h : w = wEnd ∨ w = wElse => h.elim ‹¬ w = [101, 110, 100]› ‹¬ w = [101, 108, 115, 101]›), if_neg (show ¬ (rdJ (s.drop e, d - 1)).2.2 = wElse from ‹¬ (rdJ (s.drop e, d - 1)).2.2 = [101, 108, 115, 101]›), if_pos (show (rdJ (s.drop e, d - 1)).2.2 = wEnd from ‹(rdJ (s.drop e, d - 1)).2.2 = [101, 110, 100]›)] at he
             (try dsimp only at he)
             rw [g7] at he
             refine s_againR ((s.length - (rdJ (s.drop e, d - 1)).2.1.length, out ++ [.mk 3 [] (w.drop 3) (rdJ (s.drop e, d - 1)).1 []])) (fun i => if i = 0 then 3 else i) ?_ ?_ ?_ ?_ ?_ ?_ <;> (first | omega | (dsimp only; omega) | (intro i hi; (try dsimp only); (repeat' split) <;> omega) | (intro i j hi hj h; (try dsimp only at h); (repeat' split at h) <;> omega) | skip)
             · refine ⟨by dsimp only; omega, by dsimp only; omega, by simp only [List.length_append, List.length_cons, List.length_nil]; omega, he⟩
             all_goals (simp [fitsTR, fitsMR, PV.ren, renL, MB.ren, upd_def, PV.nmb, nmbL, MB.nmb, List.getD_cons_zero, List.getD_cons_succ, frz, drp]; done))
          | skip
    by_cases hE : 5 < w.length ∧ w.take 5 = [101, 97, 99, 104, 32]
    · obtain ⟨hE5, hE⟩ := hE
      obtain ⟨hk, hnm, hI'⟩ := kdS_each hE5 hE
      simp only [hk, hnm, show ((4 : Int) = 0) = False by simp, show ((4 : Int) = 3) = False by simp, and_false, if_false] at he
      repeat' (first | (refine qwd fun K hk => ?_; simp only [lvX14_69, mkT, go_sem, Nat.reduceEqDiff, Nat.reduceAdd, Nat.reduceLeDiff, Nat.reduceLT, Nat.reduceSub, Int.reduceToNat, ↓reduceIte, reduceCtorEq, n1, hT, hW1, hW2, he0, hd9, hb1, Int.reduceEq, decide_true, decide_false, Bool.not_true, Bool.not_false, hI', hE, encPs_iff, Int.toNat_natCast, List.drop_zero, List.take_length, enc_tx, enc_hl, enc_pt, enc_pt0, enc_pt0', encPs_a5, encPs_length, List.length_append, List.length_cons, List.length_nil, List.length_drop, List.length_take, List.nil_append]; apply hk; clear hk K) | apply qw8 | apply qw1 | refine qwc lvX14_69 ?_ | apply qt1 | apply qw5 | apply qw2 | apply qw9 | apply qt2 | apply qt3 | apply qt4 | apply qt5 | apply qt6 | apply qw3 | apply qw4 | apply qj1 | apply qj2 | apply qj3 | apply qj4 | apply qj5 | apply qu1 | apply qu2 | ((first | apply qa1 | apply qa2 | apply qa3 | apply qh1 | apply qh2); intro K hk; simp only [go_sem, Nat.reduceEqDiff, Nat.reduceAdd, Nat.reduceLeDiff, Nat.reduceLT, Nat.reduceSub, Int.reduceToNat, ↓reduceIte, reduceCtorEq, n1, hT, hW1, hW2, he0, hd9, hb1, Int.reduceEq, decide_true, decide_false, Bool.not_true, Bool.not_false, hI', hE, encPs_iff, Int.toNat_natCast, List.drop_zero, List.take_length, enc_tx, enc_hl, enc_pt, enc_pt0, enc_pt0', encPs_a5, encPs_length, List.length_append, List.length_cons, List.length_nil, List.length_drop, List.length_take, List.nil_append]; (repeat (refine And.intro ?_ ?_; focus (first | omega | assumption | with_reducible rfl | (simp only [go_sem, Nat.reduceEqDiff, Nat.reduceAdd, Nat.reduceLeDiff, Nat.reduceLT, Nat.reduceSub, Int.reduceToNat, ↓reduceIte, reduceCtorEq, n1, hT, hW1, hW2, he0, hd9, hb1, Int.reduceEq, decide_true, decide_false, Bool.not_true, Bool.not_false, hI', hE, encPs_iff, Int.toNat_natCast, List.drop_zero, List.take_length, enc_tx, enc_hl, enc_pt, enc_pt0, enc_pt0', encPs_a5, encPs_length, List.length_append, List.length_cons, List.length_nil, List.length_drop, List.length_take, List.nil_append]; done)))); intros; apply hk; clear hk K) | ((first | apply qg1 rfl | apply qcd); focus (simp only [go_sem, Nat.reduceEqDiff, Nat.reduceAdd, Nat.reduceLeDiff, Nat.reduceLT, Nat.reduceSub, Int.reduceToNat, ↓reduceIte, reduceCtorEq, n1, hT, hW1, hW2, he0, hd9, hb1, Int.reduceEq, decide_true, decide_false, Bool.not_true, Bool.not_false, hI', hE, encPs_iff, Int.toNat_natCast, List.drop_zero, List.take_length, enc_tx, enc_hl, enc_pt, enc_pt0, enc_pt0', encPs_a5, encPs_length, List.length_append, List.length_cons, List.length_nil, List.length_drop, List.length_take, List.nil_append]; exact rfl)) | (refine qj6 ?_ ?_ <;> intro hc <;> (try simp only [hc]) <;> (try simp only [decide_eq_true_eq, decide_eq_false_iff_not, Bool.not_eq_true', Bool.not_eq_false', Bool.not_eq_true, reduceCtorEq] at hc) <;> (try (exfalso; omega))) | (refine qt7 ?_ ?_; focus decide) | (refine qw7 ?_ ?_ ?_; (focus (decide +kernel)); (focus (decide +kernel))))
      all_goals first
        | (((first | refine fin_ret ?_ | refine fin_end ?_); simp only [go_sem, ↓upd_def, Nat.reduceEqDiff, Nat.reduceAdd, ↓reduceIte, reduceCtorEq])
           rw [if_pos (show w = wEnd ∨ w = wElse from Or.inl ‹w = [101, 110, 100]›)] at he
           (try dsimp only at he)
           subst he
           refine K_eq hK ?_
           simp [encPs_nil, badW]
           try omega)
        | (((first | refine fin_ret ?_ | refine fin_end ?_); simp only [go_sem, ↓upd_def, Nat.reduceEqDiff, Nat.reduceAdd, ↓reduceIte, reduceCtorEq])
           rw [if_pos (show w = wEnd ∨ w = wElse from Or.inr ‹w = [101, 108, 115, 101]›)] at he
           (try dsimp only at he)
           subst he
           refine K_eq hK ?_
           simp [encPs_nil, badW]
           try omega)
        | (((first | refine fin_ret ?_ | refine fin_end ?_); simp only [go_sem, ↓upd_def, Nat.reduceEqDiff, Nat.reduceAdd, ↓reduceIte, reduceCtorEq])
           rw [if_neg (fun h : w = wEnd ∨ w = wElse => h.elim ‹¬ w = [101, 110, 100]› ‹¬ w = [101, 108, 115, 101]›), if_neg (show ¬ (rdJ (s.drop e, d - 1)).2.2 = wEnd from ‹¬ (rdJ (s.drop e, d - 1)).2.2 = [101, 110, 100]›)] at he
           (try dsimp only at he)
           subst he
           refine K_eq hK ?_
           simp [encPs_nil, badW]
           try omega)
        | (rw [if_neg (fun h : w = wEnd ∨ w = wElse => h.elim ‹¬ w = [101, 110, 100]› ‹¬ w = [101, 108, 115, 101]›), if_pos (show (rdJ (s.drop e, d - 1)).2.2 = wEnd from ‹(rdJ (s.drop e, d - 1)).2.2 = [101, 110, 100]›)] at he
           (try dsimp only at he)
           rw [g7] at he
           refine s_againR ((s.length - (rdJ (s.drop e, d - 1)).2.1.length, out ++ [.mk 4 [] (w.drop 5) (rdJ (s.drop e, d - 1)).1 []])) (fun i => if i = 0 then 3 else i) ?_ ?_ ?_ ?_ ?_ ?_ <;> (first | omega | (dsimp only; omega) | (intro i hi; (try dsimp only); (repeat' split) <;> omega) | (intro i j hi hj h; (try dsimp only at h); (repeat' split at h) <;> omega) | skip)
           · refine ⟨by dsimp only; omega, by dsimp only; omega, by simp only [List.length_append, List.length_cons, List.length_nil]; omega, he⟩
           all_goals (simp [fitsTR, fitsMR, PV.ren, renL, MB.ren, upd_def, PV.nmb, nmbL, MB.nmb, List.getD_cons_zero, List.getD_cons_succ, frz, drp]; done))
        | skip
    have hk := kdS_none hI hE
    simp only [hk, if_true] at he
    by_cases q1 : 3 < w.length
    · have hI' : ¬ w.take 3 = [105, 102, 32] := fun h => hI ⟨q1, h⟩
      by_cases q2 : 5 < w.length
      · have hE' : ¬ w.take 5 = [101, 97, 99, 104, 32] := fun h => hE ⟨q2, h⟩
        repeat' (first | (refine qwd fun K hk => ?_; simp only [lvX14_69, mkT, go_sem, Nat.reduceEqDiff, Nat.reduceAdd, Nat.reduceLeDiff, Nat.reduceLT, Nat.reduceSub, Int.reduceToNat, ↓reduceIte, reduceCtorEq, n1, hT, hW1, hW2, he0, hd9, hb1, hI', hE', Int.reduceEq, decide_true, decide_false, Bool.not_true, Bool.not_false, encPs_iff, Int.toNat_natCast, List.drop_zero, List.take_length, enc_tx, enc_hl, enc_pt, enc_pt0, enc_pt0', encPs_a5, encPs_length, List.length_append, List.length_cons, List.length_nil, List.length_drop, List.length_take, List.nil_append]; apply hk; clear hk K) | apply qw8 | apply qw1 | refine qwc lvX14_69 ?_ | apply qt1 | apply qw5 | apply qw2 | apply qw9 | apply qt2 | apply qt3 | apply qt4 | apply qt5 | apply qt6 | apply qw3 | apply qw4 | apply qj1 | apply qj2 | apply qj3 | apply qj4 | apply qj5 | apply qu1 | apply qu2 | ((first | apply qa1 | apply qa2 | apply qa3 | apply qh1 | apply qh2); intro K hk; simp only [go_sem, Nat.reduceEqDiff, Nat.reduceAdd, Nat.reduceLeDiff, Nat.reduceLT, Nat.reduceSub, Int.reduceToNat, ↓reduceIte, reduceCtorEq, n1, hT, hW1, hW2, he0, hd9, hb1, hI', hE', Int.reduceEq, decide_true, decide_false, Bool.not_true, Bool.not_false, encPs_iff, Int.toNat_natCast, List.drop_zero, List.take_length, enc_tx, enc_hl, enc_pt, enc_pt0, enc_pt0', encPs_a5, encPs_length, List.length_append, List.length_cons, List.length_nil, List.length_drop, List.length_take, List.nil_append]; (repeat (refine And.intro ?_ ?_; focus (first | omega | assumption | with_reducible rfl | (simp only [go_sem, Nat.reduceEqDiff, Nat.reduceAdd, Nat.reduceLeDiff, Nat.reduceLT, Nat.reduceSub, Int.reduceToNat, ↓reduceIte, reduceCtorEq, n1, hT, hW1, hW2, he0, hd9, hb1, hI', hE', Int.reduceEq, decide_true, decide_false, Bool.not_true, Bool.not_false, encPs_iff, Int.toNat_natCast, List.drop_zero, List.take_length, enc_tx, enc_hl, enc_pt, enc_pt0, enc_pt0', encPs_a5, encPs_length, List.length_append, List.length_cons, List.length_nil, List.length_drop, List.length_take, List.nil_append]; done)))); intros; apply hk; clear hk K) | ((first | apply qg1 rfl | apply qcd); focus (simp only [go_sem, Nat.reduceEqDiff, Nat.reduceAdd, Nat.reduceLeDiff, Nat.reduceLT, Nat.reduceSub, Int.reduceToNat, ↓reduceIte, reduceCtorEq, n1, hT, hW1, hW2, he0, hd9, hb1, hI', hE', Int.reduceEq, decide_true, decide_false, Bool.not_true, Bool.not_false, encPs_iff, Int.toNat_natCast, List.drop_zero, List.take_length, enc_tx, enc_hl, enc_pt, enc_pt0, enc_pt0', encPs_a5, encPs_length, List.length_append, List.length_cons, List.length_nil, List.length_drop, List.length_take, List.nil_append]; exact rfl)) | (refine qj6 ?_ ?_ <;> intro hc <;> (try simp only [hc]) <;> (try simp only [decide_eq_true_eq, decide_eq_false_iff_not, Bool.not_eq_true', Bool.not_eq_false', Bool.not_eq_true, reduceCtorEq] at hc) <;> (try (exfalso; omega))) | (refine qt7 ?_ ?_; focus decide) | (refine qw7 ?_ ?_ ?_; (focus (decide +kernel)); (focus (decide +kernel))))
        all_goals first
          | (((first | refine fin_ret ?_ | refine fin_end ?_); simp only [go_sem, ↓upd_def, Nat.reduceEqDiff, Nat.reduceAdd, ↓reduceIte, reduceCtorEq])
             rw [if_pos (show w = wEnd ∨ w = wElse from Or.inl ‹w = [101, 110, 100]›)] at he
             (try dsimp only at he)
             subst he
             refine K_eq hK ?_
             simp [encPs_nil, badW]
             try omega)
          | (((first | refine fin_ret ?_ | refine fin_end ?_); simp only [go_sem, ↓upd_def, Nat.reduceEqDiff, Nat.reduceAdd, ↓reduceIte, reduceCtorEq])
             rw [if_pos (show w = wEnd ∨ w = wElse from Or.inr ‹w = [101, 108, 115, 101]›)] at he
             (try dsimp only at he)
             subst he
             refine K_eq hK ?_
             simp [encPs_nil, badW]
             try omega)
          | (rw [if_neg (fun h : w = wEnd ∨ w = wElse => h.elim ‹¬ w = [101, 110, 100]› ‹¬ w = [101, 108, 115, 101]›)] at he
             (try dsimp only at he)
             rw [g9] at he
             refine s_againR ((e, out ++ [holeD w])) (fun i => if i = 0 then 3 else i) ?_ ?_ ?_ ?_ ?_ ?_ <;> (first | omega | (dsimp only; omega) | (intro i hi; (try dsimp only); (repeat' split) <;> omega) | (intro i j hi hj h; (try dsimp only at h); (repeat' split at h) <;> omega) | skip)
             · refine ⟨by dsimp only; omega, by dsimp only; omega, by simp only [List.length_append, List.length_cons, List.length_nil]; omega, he⟩
             all_goals (simp [fitsTR, fitsMR, PV.ren, renL, MB.ren, upd_def, PV.nmb, nmbL, MB.nmb, List.getD_cons_zero, List.getD_cons_succ, frz, drp]; done))
          | skip
      · skip
        repeat' (first | (refine qwd fun K hk => ?_; simp only [lvX14_69, mkT, go_sem, Nat.reduceEqDiff, Nat.reduceAdd, Nat.reduceLeDiff, Nat.reduceLT, Nat.reduceSub, Int.reduceToNat, ↓reduceIte, reduceCtorEq, n1, hT, hW1, hW2, he0, hd9, hb1, hI', Int.reduceEq, decide_true, decide_false, Bool.not_true, Bool.not_false, encPs_iff, Int.toNat_natCast, List.drop_zero, List.take_length, enc_tx, enc_hl, enc_pt, enc_pt0, enc_pt0', encPs_a5, encPs_length, List.length_append, List.length_cons, List.length_nil, List.length_drop, List.length_take, List.nil_append]; apply hk; clear hk K) | apply qw8 | apply qw1 | refine qwc lvX14_69 ?_ | apply qt1 | apply qw5 | apply qw2 | apply qw9 | apply qt2 | apply qt3 | apply qt4 | apply qt5 | apply qt6 | apply qw3 | apply qw4 | apply qj1 | apply qj2 | apply qj3 | apply qj4 | apply qj5 | apply qu1 | apply qu2 | ((first | apply qa1 | apply qa2 | apply qa3 | apply qh1 | apply qh2); intro K hk; simp only [go_sem, Nat.reduceEqDiff, Nat.reduceAdd, Nat.reduceLeDiff, Nat.reduceLT, Nat.reduceSub, Int.reduceToNat, ↓reduceIte, reduceCtorEq, n1, hT, hW1, hW2, he0, hd9, hb1, hI', Int.reduceEq, decide_true, decide_false, Bool.not_true, Bool.not_false, encPs_iff, Int.toNat_natCast, List.drop_zero, List.take_length, enc_tx, enc_hl, enc_pt, enc_pt0, enc_pt0', encPs_a5, encPs_length, List.length_append, List.length_cons, List.length_nil, List.length_drop, List.length_take, List.nil_append]; (repeat (refine And.intro ?_ ?_; focus (first | omega | assumption | with_reducible rfl | (simp only [go_sem, Nat.reduceEqDiff, Nat.reduceAdd, Nat.reduceLeDiff, Nat.reduceLT, Nat.reduceSub, Int.reduceToNat, ↓reduceIte, reduceCtorEq, n1, hT, hW1, hW2, he0, hd9, hb1, hI', Int.reduceEq, decide_true, decide_false, Bool.not_true, Bool.not_false, encPs_iff, Int.toNat_natCast, List.drop_zero, List.take_length, enc_tx, enc_hl, enc_pt, enc_pt0, enc_pt0', encPs_a5, encPs_length, List.length_append, List.length_cons, List.length_nil, List.length_drop, List.length_take, List.nil_append]; done)))); intros; apply hk; clear hk K) | ((first | apply qg1 rfl | apply qcd); focus (simp only [go_sem, Nat.reduceEqDiff, Nat.reduceAdd, Nat.reduceLeDiff, Nat.reduceLT, Nat.reduceSub, Int.reduceToNat, ↓reduceIte, reduceCtorEq, n1, hT, hW1, hW2, he0, hd9, hb1, hI', Int.reduceEq, decide_true, decide_false, Bool.not_true, Bool.not_false, encPs_iff, Int.toNat_natCast, List.drop_zero, List.take_length, enc_tx, enc_hl, enc_pt, enc_pt0, enc_pt0', encPs_a5, encPs_length, List.length_append, List.length_cons, List.length_nil, List.length_drop, List.length_take, List.nil_append]; exact rfl)) | (refine qj6 ?_ ?_ <;> intro hc <;> (try simp only [hc]) <;> (try simp only [decide_eq_true_eq, decide_eq_false_iff_not, Bool.not_eq_true', Bool.not_eq_false', Bool.not_eq_true, reduceCtorEq] at hc) <;> (try (exfalso; omega))) | (refine qt7 ?_ ?_; focus decide) | (refine qw7 ?_ ?_ ?_; (focus (decide +kernel)); (focus (decide +kernel))))
        all_goals first
          | (((first | refine fin_ret ?_ | refine fin_end ?_); simp only [go_sem, ↓upd_def, Nat.reduceEqDiff, Nat.reduceAdd, ↓reduceIte, reduceCtorEq])
             rw [if_pos (show w = wEnd ∨ w = wElse from Or.inl ‹w = [101, 110, 100]›)] at he
             (try dsimp only at he)
             subst he
             refine K_eq hK ?_
             simp [encPs_nil, badW]
             try omega)
          | (((first | refine fin_ret ?_ | refine fin_end ?_); simp only [go_sem, ↓upd_def, Nat.reduceEqDiff, Nat.reduceAdd, ↓reduceIte, reduceCtorEq])
             rw [if_pos (show w = wEnd ∨ w = wElse from Or.inr ‹w = [101, 108, 115, 101]›)] at he
             (try dsimp only at he)
             subst he
             refine K_eq hK ?_
             simp [encPs_nil, badW]
             try omega)
          | (rw [if_neg (fun h : w = wEnd ∨ w = wElse => h.elim ‹¬ w = [101, 110, 100]› ‹¬ w = [101, 108, 115, 101]›)] at he
             (try dsimp only at he)
             rw [g9] at he
             refine s_againR ((e, out ++ [holeD w])) (fun i => if i = 0 then 3 else i) ?_ ?_ ?_ ?_ ?_ ?_ <;> (first | omega | (dsimp only; omega) | (intro i hi; (try dsimp only); (repeat' split) <;> omega) | (intro i j hi hj h; (try dsimp only at h); (repeat' split at h) <;> omega) | skip)
             · refine ⟨by dsimp only; omega, by dsimp only; omega, by simp only [List.length_append, List.length_cons, List.length_nil]; omega, he⟩
             all_goals (simp [fitsTR, fitsMR, PV.ren, renL, MB.ren, upd_def, PV.nmb, nmbL, MB.nmb, List.getD_cons_zero, List.getD_cons_succ, frz, drp]; done))
          | skip
    · skip
      repeat' (first | (refine qwd fun K hk => ?_; simp only [lvX14_69, mkT, go_sem, Nat.reduceEqDiff, Nat.reduceAdd, Nat.reduceLeDiff, Nat.reduceLT, Nat.reduceSub, Int.reduceToNat, ↓reduceIte, reduceCtorEq, n1, hT, hW1, hW2, he0, hd9, hb1, Int.reduceEq, decide_true, decide_false, Bool.not_true, Bool.not_false, encPs_iff, Int.toNat_natCast, List.drop_zero, List.take_length, enc_tx, enc_hl, enc_pt, enc_pt0, enc_pt0', encPs_a5, encPs_length, List.length_append, List.length_cons, List.length_nil, List.length_drop, List.length_take, List.nil_append]; apply hk; clear hk K) | apply qw8 | apply qw1 | refine qwc lvX14_69 ?_ | apply qt1 | apply qw5 | apply qw2 | apply qw9 | apply qt2 | apply qt3 | apply qt4 | apply qt5 | apply qt6 | apply qw3 | apply qw4 | apply qj1 | apply qj2 | apply qj3 | apply qj4 | apply qj5 | apply qu1 | apply qu2 | ((first | apply qa1 | apply qa2 | apply qa3 | apply qh1 | apply qh2); intro K hk; simp only [go_sem, Nat.reduceEqDiff, Nat.reduceAdd, Nat.reduceLeDiff, Nat.reduceLT, Nat.reduceSub, Int.reduceToNat, ↓reduceIte, reduceCtorEq, n1, hT, hW1, hW2, he0, hd9, hb1, Int.reduceEq, decide_true, decide_false, Bool.not_true, Bool.not_false, encPs_iff, Int.toNat_natCast, List.drop_zero, List.take_length, enc_tx, enc_hl, enc_pt, enc_pt0, enc_pt0', encPs_a5, encPs_length, List.length_append, List.length_cons, List.length_nil, List.length_drop, List.length_take, List.nil_append]; (repeat (refine And.intro ?_ ?_; focus (first | omega | assumption | with_reducible rfl | (simp only [go_sem, Nat.reduceEqDiff, Nat.reduceAdd, Nat.reduceLeDiff, Nat.reduceLT, Nat.reduceSub, Int.reduceToNat, ↓reduceIte, reduceCtorEq, n1, hT, hW1, hW2, he0, hd9, hb1, Int.reduceEq, decide_true, decide_false, Bool.not_true, Bool.not_false, encPs_iff, Int.toNat_natCast, List.drop_zero, List.take_length, enc_tx, enc_hl, enc_pt, enc_pt0, enc_pt0', encPs_a5, encPs_length, List.length_append, List.length_cons, List.length_nil, List.length_drop, List.length_take, List.nil_append]; done)))); intros; apply hk; clear hk K) | ((first | apply qg1 rfl | apply qcd); focus (simp only [go_sem, Nat.reduceEqDiff, Nat.reduceAdd, Nat.reduceLeDiff, Nat.reduceLT, Nat.reduceSub, Int.reduceToNat, ↓reduceIte, reduceCtorEq, n1, hT, hW1, hW2, he0, hd9, hb1, Int.reduceEq, decide_true, decide_false, Bool.not_true, Bool.not_false, encPs_iff, Int.toNat_natCast, List.drop_zero, List.take_length, enc_tx, enc_hl, enc_pt, enc_pt0, enc_pt0', encPs_a5, encPs_length, List.length_append, List.length_cons, List.length_nil, List.length_drop, List.length_take, List.nil_append]; exact rfl)) | (refine qj6 ?_ ?_ <;> intro hc <;> (try simp only [hc]) <;> (try simp only [decide_eq_true_eq, decide_eq_false_iff_not, Bool.not_eq_true', Bool.not_eq_false', Bool.not_eq_true, reduceCtorEq] at hc) <;> (try (exfalso; omega))) | (refine qt7 ?_ ?_; focus decide) | (refine qw7 ?_ ?_ ?_; (focus (decide +kernel)); (focus (decide +kernel))))
      all_goals first
        | (((first | refine fin_ret ?_ | refine fin_end ?_); simp only [go_sem, ↓upd_def, Nat.reduceEqDiff, Nat.reduceAdd, ↓reduceIte, reduceCtorEq])
           rw [if_pos (show w = wEnd ∨ w = wElse from Or.inl ‹w = [101, 110, 100]›)] at he
           (try dsimp only at he)
           subst he
           refine K_eq hK ?_
           simp [encPs_nil, badW]
           try omega)
        | (((first | refine fin_ret ?_ | refine fin_end ?_); simp only [go_sem, ↓upd_def, Nat.reduceEqDiff, Nat.reduceAdd, ↓reduceIte, reduceCtorEq])
           rw [if_pos (show w = wEnd ∨ w = wElse from Or.inr ‹w = [101, 108, 115, 101]›)] at he
           (try dsimp only at he)
           subst he
           refine K_eq hK ?_
           simp [encPs_nil, badW]
           try omega)
        | (rw [if_neg (fun h : w = wEnd ∨ w = wElse => h.elim ‹¬ w = [101, 110, 100]› ‹¬ w = [101, 108, 115, 101]›)] at he
           (try dsimp only at he)
           rw [g9] at he
           refine s_againR ((e, out ++ [holeD w])) (fun i => if i = 0 then 3 else i) ?_ ?_ ?_ ?_ ?_ ?_ <;> (first | omega | (dsimp only; omega) | (intro i hi; (try dsimp only); (repeat' split) <;> omega) | (intro i j hi hj h; (try dsimp only at h); (repeat' split at h) <;> omega) | skip)
           · refine ⟨by dsimp only; omega, by dsimp only; omega, by simp only [List.length_append, List.length_cons, List.length_nil]; omega, he⟩
           all_goals (simp [fitsTR, fitsMR, PV.ren, renL, MB.ren, upd_def, PV.nmb, nmbL, MB.nmb, List.getD_cons_zero, List.getD_cons_succ, frz, drp]; done))
        | skip
  repeat' (first | (refine qwd fun K hk => ?_; simp only [lvX14_69, mkT, go_sem, Nat.reduceEqDiff, Nat.reduceAdd, Nat.reduceLeDiff, Nat.reduceLT, Nat.reduceSub, Int.reduceToNat, ↓reduceIte, reduceCtorEq, n1, hT]; apply hk; clear hk K) | apply qw8 | apply qw1 | refine qwc lvX14_69 ?_ | apply qt1 | apply qw5 | apply qw2 | apply qw9 | apply qt2 | apply qt3 | apply qt4 | apply qt5 | apply qt6 | apply qw3 | apply qw4 | apply qj1 | apply qj2 | apply qj3 | apply qj4 | apply qj5 | apply qu1 | apply qu2 | ((first | apply qa1 | apply qa2 | apply qa3 | apply qh1 | apply qh2); intro K hk; simp only [go_sem, Nat.reduceEqDiff, Nat.reduceAdd, Nat.reduceLeDiff, Nat.reduceLT, Nat.reduceSub, Int.reduceToNat, ↓reduceIte, reduceCtorEq, n1, hT]; (repeat (refine And.intro ?_ ?_; focus (first | omega | assumption | with_reducible rfl | (simp only [go_sem, Nat.reduceEqDiff, Nat.reduceAdd, Nat.reduceLeDiff, Nat.reduceLT, Nat.reduceSub, Int.reduceToNat, ↓reduceIte, reduceCtorEq, n1, hT]; done)))); intros; apply hk; clear hk K) | ((first | apply qg1 rfl | apply qcd); focus (simp only [go_sem, Nat.reduceEqDiff, Nat.reduceAdd, Nat.reduceLeDiff, Nat.reduceLT, Nat.reduceSub, Int.reduceToNat, ↓reduceIte, reduceCtorEq, n1, hT]; exact rfl)) | (refine qj6 ?_ ?_ <;> intro hc <;> (try simp only [hc]) <;> (try simp only [decide_eq_true_eq, decide_eq_false_iff_not, Bool.not_eq_true', Bool.not_eq_false', Bool.not_eq_true, reduceCtorEq] at hc) <;> (try (exfalso; omega))) | (refine qt7 ?_ ?_; focus decide) | (refine qw7 ?_ ?_ ?_; (focus (decide +kernel)); (focus (decide +kernel))))
  all_goals
    refine s_loop (ι := Nat) (fun k => [(0, .str s), (1, .int .i64 a), (2, .int .i64 d), (9, .own 0), (10, .int .i64 ((a : Int) + k))]) (fun k => [(0, .row 63 5 (encPs out))]) 1 (fun k => 1 ≤ k ∧ a + k ≤ s.length ∧ noAt s [123, 123] a k) (fun k => s.length - k) 1 (by omega) ⟨Nat.le_refl _, by omega, noAt_succ (noAt_0 s _ a) hT⟩ ?_ ?_
    · simp [fits, fitsT, fitsM, upd_def, PV.nmb, nmbL, MB.nmb, List.getD_cons_zero, List.getD_cons_succ]
    rintro k ⟨hk1, hk, hno⟩
    simp only [mkS, mkT, mkM]
    have m1 : ((a : Int) + k).toNat = a + k := by omega
    have m2 : ((a : Int) + k + 2).toNat = a + k + 2 := by omega
    repeat' (first | (refine qwd fun K hk => ?_; simp only [lvX14_69, mkT, go_sem, Nat.reduceEqDiff, Nat.reduceAdd, Nat.reduceLeDiff, Nat.reduceLT, Nat.reduceSub, Int.reduceToNat, ↓reduceIte, reduceCtorEq, n1, m1, m2, encPs_iff, Int.toNat_natCast, List.drop_zero, List.take_length, enc_tx, enc_hl, enc_pt, enc_pt0, enc_pt0', encPs_a5, encPs_length, List.length_append, List.length_cons, List.length_nil, List.length_drop, List.length_take, List.nil_append]; apply hk; clear hk K) | apply qw8 | apply qw1 | refine qwc lvX14_69 ?_ | apply qt1 | apply qw5 | apply qw2 | apply qw9 | apply qt2 | apply qt3 | apply qt4 | apply qt5 | apply qt6 | apply qw3 | apply qw4 | apply qj1 | apply qj2 | apply qj3 | apply qj4 | apply qj5 | apply qu1 | apply qu2 | ((first | apply qa1 | apply qa2 | apply qa3 | apply qh1 | apply qh2); intro K hk; simp only [go_sem, Nat.reduceEqDiff, Nat.reduceAdd, Nat.reduceLeDiff, Nat.reduceLT, Nat.reduceSub, Int.reduceToNat, ↓reduceIte, reduceCtorEq, n1, m1, m2, encPs_iff, Int.toNat_natCast, List.drop_zero, List.take_length, enc_tx, enc_hl, enc_pt, enc_pt0, enc_pt0', encPs_a5, encPs_length, List.length_append, List.length_cons, List.length_nil, List.length_drop, List.length_take, List.nil_append]; (repeat (refine And.intro ?_ ?_; focus (first | omega | assumption | with_reducible rfl | (simp only [go_sem, Nat.reduceEqDiff, Nat.reduceAdd, Nat.reduceLeDiff, Nat.reduceLT, Nat.reduceSub, Int.reduceToNat, ↓reduceIte, reduceCtorEq, n1, m1, m2, encPs_iff, Int.toNat_natCast, List.drop_zero, List.take_length, enc_tx, enc_hl, enc_pt, enc_pt0, enc_pt0', encPs_a5, encPs_length, List.length_append, List.length_cons, List.length_nil, List.length_drop, List.length_take, List.nil_append]; done)))); intros; apply hk; clear hk K) | ((first | apply qg1 rfl | apply qcd); focus (simp only [go_sem, Nat.reduceEqDiff, Nat.reduceAdd, Nat.reduceLeDiff, Nat.reduceLT, Nat.reduceSub, Int.reduceToNat, ↓reduceIte, reduceCtorEq, n1, m1, m2, encPs_iff, Int.toNat_natCast, List.drop_zero, List.take_length, enc_tx, enc_hl, enc_pt, enc_pt0, enc_pt0', encPs_a5, encPs_length, List.length_append, List.length_cons, List.length_nil, List.length_drop, List.length_take, List.nil_append]; exact rfl)) | (refine qj6 ?_ ?_ <;> intro hc <;> (try simp only [hc]) <;> (try simp only [decide_eq_true_eq, decide_eq_false_iff_not, Bool.not_eq_true', Bool.not_eq_false', Bool.not_eq_true, reduceCtorEq] at hc) <;> (try (exfalso; omega))) | (refine qt7 ?_ ?_; focus decide) | (refine qw7 ?_ ?_ ?_; (focus (decide +kernel)); (focus (decide +kernel))))
    all_goals first
      | (refine s_again (k + 1) ?_ ?_ ?_ <;> (first | omega | (dsimp only; omega) | skip)
         · exact ⟨by omega, by omega, noAt_succ hno (by first | assumption | exact short_no (by omega))⟩
         · simp [fits, fitsT, fitsM, upd_def, PV.nmb, nmbL, MB.nmb, List.getD_cons_zero, List.getD_cons_succ, Int.add_assoc])
      | (rw [rdS_text_end hlt hno (by omega)] at he
         refine s_againR ((a + k, out ++ [txD ((s.take (a + k)).drop a)])) (fun i => if i = 0 then 2 else i) ?_ ?_ ?_ ?_ ?_ ?_ <;> (first | omega | (dsimp only; omega) | (intro i hi; (try dsimp only); (repeat' split) <;> omega) | (intro i j hi hj h; (try dsimp only at h); (repeat' split at h) <;> omega) | skip)
         · exact ⟨by dsimp only; omega, by dsimp only; omega, by simp only [List.length_append, List.length_cons, List.length_nil]; omega, he⟩
         all_goals (simp [fitsTR, fitsMR, PV.ren, renL, MB.ren, upd_def, PV.nmb, nmbL, MB.nmb, List.getD_cons_zero, List.getD_cons_succ, frz, drp]; done))
      | (rw [rdS_text_hit hlt hk1 hk hno ‹_›] at he
         refine s_againR ((a + k, out ++ [txD ((s.take (a + k)).drop a)])) (fun i => if i = 0 then 2 else i) ?_ ?_ ?_ ?_ ?_ ?_ <;> (first | omega | (dsimp only; omega) | (intro i hi; (try dsimp only); (repeat' split) <;> omega) | (intro i j hi hj h; (try dsimp only at h); (repeat' split at h) <;> omega) | skip)
         · exact ⟨by dsimp only; omega, by dsimp only; omega, by simp only [List.length_append, List.length_cons, List.length_nil]; omega, he⟩
         all_goals (simp [fitsTR, fitsMR, PV.ren, renL, MB.ren, upd_def, PV.nmb, nmbL, MB.nmb, List.getD_cons_zero, List.getD_cons_succ, frz, drp]; done))
      | skip
end Go.Proofs.Ytoocbpendccngaa
