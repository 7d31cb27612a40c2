/- The law's walk over drawn parts: InsertParts. -/
import Derived.Test.YtoocbpendccngaaZX20
import Derived.Test.YtoocbpendccngaaZX19
import Derived.Test.YtoocbpendccngaaZLI
import Derived.Test.YtoocbpendccngaaZR4
import Derived.Test.YtoocbpendccngaaZY9

namespace Go.Proofs.Ytoocbpendccngaa
attribute [local irreducible] awp arun acalm FinP Fin AX.then AX.inBlock Again aG gsel amix amixN amixC aop aopc aopd cutK
attribute [local go_sem] aBSliceD aSlice aSliceC boundOf aMk aCall aCallC aLenL aLen aPick_t aPick_f aNil aAlloc aBox aBuild bldPV aBSlice bsPV aApp newsOf destOf drp aConvX aConv aConvInt aLoad cellsAt aStore cellsPV setAt aFld aField aIdx aIndex aUn aBin' aBin aMax aExtract pvOf PV.isCell nmbL PV.nmb List.map_cons List.map_nil List.all_cons List.all_nil Bool.and_true Bool.true_and if_true if_false List.getD_cons_zero List.getD_cons_succ List.getD_nil Option.isSome_some true_and and_true and_self eq_self true_or or_true List.drop_zero List.drop_succ_cons List.drop_nil List.take_zero List.take_succ_cons List.take_nil List.length_cons List.length_nil List.length_map Option.getD_some Option.getD_none List.nil_append List.cons_append List.append_nil Option.some.injEq exists_eq_left' List.getElem?_cons_zero List.getElem?_cons_succ Int.toNat_natCast Int.natCast_inj toNat_succ Nat.zero_add res res1 resC owns owns1 ownsC List.flatMap_cons List.flatMap_nil List.flatten_cons List.flatten_nil List.mem_cons List.not_mem_nil or_false false_or forall_eq forall_eq_or_imp isFro frz frz1 pureC tabA isBld List.cons.injEq PV.seq.injEq PV.int.injEq PV.str.injEq PV.bool.injEq PV.agg.injEq inR tab Γof aRes packR Option.map_some Option.map_none rel Prod.exists exists_and_left exists_eq_left and_assoc beq_self_eq_true Bool.not_true Bool.not_false decide_true decide_false List.set_cons_zero List.set_cons_succ rst_nil rst_cons
attribute [local go_sem ↓] evT upd_def aop aopc aopd
set_option maxRecDepth 100000
set_option linter.unusedVariables false
set_option linter.unusedSimpArgs false
open Go.RowKit
def lvY15_6 : Nat → List Nat
  | 0 => [0]
  | 1 => [0, 15]
  | 2 => [2]
  | 3 => [3, 4, 5]
  | 4 => [3, 4, 5, 6, 7]
  | 5 => [3, 4, 5, 6, 7, 8, 9]
  | 6 => [3, 4, 5, 6, 7, 44]
  | 7 => [2]
  | 8 => [3, 4, 5, 6, 46]
  | 9 => [2]
  | 10 => [3, 5, 6, 10]
  | 11 => [6, 10, 11]
  | 12 => [6, 10, 11, 12]
  | 13 => [6, 10, 11, 12, 65]
  | 14 => [6, 10, 11, 12]
  | 15 => [6, 10, 11, 12]
  | 16 => [2]
  | _ => []
--LV=Y15
theorem namePl_le (xs : List PartD) (m : Bs) : (namePl xs m).length ≤ wtL xs := by
  unfold namePl
  split
  · exact Nat.le_trans (plcN_len m _) (wk_wt xs st0)
  · simp
theorem insM_valid {xs : List PartD} {m : Bs} {o r : List PartD} (h : insM xs m o = some r) : partsB r = true := by
  unfold insM at h
  split at h
  · split at h
    · split at h
      · cases h; assumption
      · cases h
    · cases h
  · cases h
theorem insM_wt {xs : List PartD} {m : Bs} {o r : List PartD} (h : insM xs m o = some r) : wtL r ≤ wtL xs * (wtL o + 1) := by
  unfold insM at h
  split at h
  · split at h
    · rename_i q hq
      split at h
      · cases h
        exact Nat.le_trans (wt_smG hq) (isL_wt m o xs)
      · cases h
    · cases h
  · cases h
set_option maxHeartbeats 8000000 in
theorem FnInsertParts_pure : PureOk Try.prog 6 (rel (α := Bs) (fun x => [.seq (x.map bc)]) (fun x => x.length ≤ 9223372036854775807) (fun _ => .bool true)) := by
  refine pure_relA 1 (tabA_cons drwIns (tabA_nil (Γof_ok (tab_cons ip_i (tab_cons ip_s (tab_cons sm_I (tab_cons np_i (tab_cons ts_i (tab_cons pv_i (tab_cons alive9 tab_nil)))))))))) (tab_cons ip_i (tab_cons ip_s (tab_cons sm_I (tab_cons np_i (tab_cons ts_i (tab_cons pv_i (tab_cons alive9 tab_nil))))))) mixed [.tmp 2] Try.func6 rfl rfl (by kernel_rfl) (by kernel_rfl) (fun _ => rfl) (by kernel_rfl) ?_
  rintro l K hl hK
  have hba := bc_all l
  unfold entry
  repeat' (first | (refine qwd fun K hk => ?_; simp only [lvY15_6, mkT, go_sem, Nat.reduceEqDiff, Nat.reduceAdd, Nat.reduceLeDiff, Nat.reduceLT, Nat.reduceSub, Int.reduceToNat, ↓reduceIte, reduceCtorEq, exl, ex_unit9, true_and, encPs_iff, ints_iff, gdX, decide_true, Bool.not_true, ints_length]; apply hk; clear hk K) | apply qw8 | apply qw1 | refine qwc lvY15_6 ?_ | apply qt1 | apply qw5 | apply qw2 | apply qw9 | apply qt2 | apply qt3 | apply qt4 | apply qt5 | apply qt6 | apply qw3 | apply qw4 | apply qj1 | apply qj2 | apply qj3 | apply qj4 | apply qj5 | apply qu1 | apply qu2 | ((first | apply qa1 | apply qa2 | apply qa3 | apply qh1 | apply qh2); intro K hk; simp only [go_sem, Nat.reduceEqDiff, Nat.reduceAdd, Nat.reduceLeDiff, Nat.reduceLT, Nat.reduceSub, Int.reduceToNat, ↓reduceIte, reduceCtorEq, exl, ex_unit9, true_and, encPs_iff, ints_iff, gdX, decide_true, Bool.not_true, ints_length]; (repeat (refine And.intro ?_ ?_; focus (first | omega | assumption | with_reducible rfl | (simp only [go_sem, Nat.reduceEqDiff, Nat.reduceAdd, Nat.reduceLeDiff, Nat.reduceLT, Nat.reduceSub, Int.reduceToNat, ↓reduceIte, reduceCtorEq, exl, ex_unit9, true_and, encPs_iff, ints_iff, gdX, decide_true, Bool.not_true, ints_length]; done)))); intros; apply hk; clear hk K) | ((first | apply qg1 rfl | apply qcd); focus (simp only [go_sem, Nat.reduceEqDiff, Nat.reduceAdd, Nat.reduceLeDiff, Nat.reduceLT, Nat.reduceSub, Int.reduceToNat, ↓reduceIte, reduceCtorEq, exl, ex_unit9, true_and, encPs_iff, ints_iff, gdX, decide_true, Bool.not_true, ints_length]; exact rfl)) | (refine qj6 ?_ ?_ <;> intro hc <;> (try simp only [hc]) <;> (try simp only [decide_eq_true_eq, decide_eq_false_iff_not, Bool.not_eq_true', Bool.not_eq_false', Bool.not_eq_true, reduceCtorEq] at hc) <;> (try (exfalso; omega))) | (refine qt7 ?_ ?_; focus decide) | (refine qw7 ?_ ?_ ?_; (focus (decide +kernel)); (focus (decide +kernel))))
  · ((first | refine fin_ret ?_ | refine fin_end ?_); simp only [go_sem, ↓upd_def, Nat.reduceEqDiff, Nat.reduceAdd, ↓reduceIte, reduceCtorEq])
    exact hK
  rename (List PartD × Bs × List PartD) => x
  obtain ⟨xs, m, o⟩ := x
  rename _ ∧ _ ∧ _ ∧ _ ∧ _ => hgx
  obtain ⟨b1, b2, b3, b4, b5⟩ := hgx
  dsimp only at b1 b2 b3 b4 b5
  have hmul : wtL xs * (wtL o + 1) ≤ 6000 * 781 := Nat.mul_le_mul b1 (by omega)
  cases hi : insM xs m o with
  | none =>
    have h00 : ((0 : Nat) : Int) = 0 := rfl
    have hox := okL_w [] (by simp [wtL_nil])
    repeat' (first | (refine qwd fun K hk => ?_; simp only [lvY15_6, mkT, go_sem, Nat.reduceEqDiff, Nat.reduceAdd, Nat.reduceLeDiff, Nat.reduceLT, Nat.reduceSub, Int.reduceToNat, ↓reduceIte, reduceCtorEq, exl, ex_unit9, true_and, encPs_iff, ints_iff, gdX, decide_true, decide_false, Bool.not_true, Bool.not_false, ints_length, encPs_length, bne_self_eq_false, hi, Option.getD_none, Option.isSome_none, h00, List.length_nil, eqI_rfl]; apply hk; clear hk K) | apply qw8 | apply qw1 | refine qwc lvY15_6 ?_ | apply qt1 | apply qw5 | apply qw2 | apply qw9 | apply qt2 | apply qt3 | apply qt4 | apply qt5 | apply qt6 | apply qw3 | apply qw4 | apply qj1 | apply qj2 | apply qj3 | apply qj4 | apply qj5 | apply qu1 | apply qu2 | ((first | apply qa1 | apply qa2 | apply qa3 | apply qh1 | apply qh2); intro K hk; simp only [go_sem, Nat.reduceEqDiff, Nat.reduceAdd, Nat.reduceLeDiff, Nat.reduceLT, Nat.reduceSub, Int.reduceToNat, ↓reduceIte, reduceCtorEq, exl, ex_unit9, true_and, encPs_iff, ints_iff, gdX, decide_true, decide_false, Bool.not_true, Bool.not_false, ints_length, encPs_length, bne_self_eq_false, hi, Option.getD_none, Option.isSome_none, h00, List.length_nil, eqI_rfl]; (repeat (refine And.intro ?_ ?_; focus (first | omega | assumption | with_reducible rfl | (simp only [go_sem, Nat.reduceEqDiff, Nat.reduceAdd, Nat.reduceLeDiff, Nat.reduceLT, Nat.reduceSub, Int.reduceToNat, ↓reduceIte, reduceCtorEq, exl, ex_unit9, true_and, encPs_iff, ints_iff, gdX, decide_true, decide_false, Bool.not_true, Bool.not_false, ints_length, encPs_length, bne_self_eq_false, hi, Option.getD_none, Option.isSome_none, h00, List.length_nil, eqI_rfl]; done)))); intros; apply hk; clear hk K) | ((first | apply qg1 rfl | apply qcd); focus (simp only [go_sem, Nat.reduceEqDiff, Nat.reduceAdd, Nat.reduceLeDiff, Nat.reduceLT, Nat.reduceSub, Int.reduceToNat, ↓reduceIte, reduceCtorEq, exl, ex_unit9, true_and, encPs_iff, ints_iff, gdX, decide_true, decide_false, Bool.not_true, Bool.not_false, ints_length, encPs_length, bne_self_eq_false, hi, Option.getD_none, Option.isSome_none, h00, List.length_nil, eqI_rfl]; exact rfl)) | (refine qj6 ?_ ?_ <;> intro hc <;> (try simp only [hc]) <;> (try simp only [decide_eq_true_eq, decide_eq_false_iff_not, Bool.not_eq_true', Bool.not_eq_false', Bool.not_eq_true, reduceCtorEq] at hc) <;> (try (exfalso; omega))) | (refine qt7 ?_ ?_; focus decide) | (refine qw7 ?_ ?_ ?_; (focus (decide +kernel)); (focus (decide +kernel))))
    all_goals first
      | (((first | refine fin_ret ?_ | refine fin_end ?_); simp only [go_sem, ↓upd_def, Nat.reduceEqDiff, Nat.reduceAdd, ↓reduceIte, reduceCtorEq])
         exact hK)
      | skip
  | some r =>
    have hr1 := insM_valid hi
    have hr2 := insM_wt hi
    have hlr := len_le_wtL r
    have hox := okL_w r (by omega)
    have hpl := namePl_le xs m
    have hgp := ints_get (namePl xs m)
    have hsf := fun h1 h2 h3 => ins_safe hi h1 h2 h3
    obtain ⟨A, hA⟩ : ∃ A, A = (safeM xs && safeM o) := ⟨_, rfl⟩
    have key : ∀ b, b = (A && (namePl xs m).all fun p => decide (p = 1)) → b = true → safeM r = true := by
      rintro b rfl h
      simp only [hA, Bool.and_eq_true, List.all_eq_true, decide_eq_true_eq] at h
      exact hsf h.1.1 h.1.2 h.2
    cases h1 : safeM xs <;> cases h2 : safeM o
    all_goals
      have hA' : A = _ := hA
      rw [h1, h2] at hA'
      simp only [Bool.and_self, Bool.and_true, Bool.and_false, Bool.true_and, Bool.false_and] at hA'
      repeat' (first | (refine qwd fun K hk => ?_; simp only [lvY15_6, mkT, go_sem, Nat.reduceEqDiff, Nat.reduceAdd, Nat.reduceLeDiff, Nat.reduceLT, Nat.reduceSub, Int.reduceToNat, ↓reduceIte, reduceCtorEq, exl, ex_unit9, true_and, encPs_iff, ints_iff, gdX, decide_true, decide_false, Bool.not_true, Bool.not_false, ints_length, encPs_length, bne_self_eq_false, hi, Option.getD_some, Option.isSome_some, hr1, eqI_rfl, h1, h2]; apply hk; clear hk K) | apply qw8 | apply qw1 | refine qwc lvY15_6 ?_ | apply qt1 | apply qw5 | apply qw2 | apply qw9 | apply qt2 | apply qt3 | apply qt4 | apply qt5 | apply qt6 | apply qw3 | apply qw4 | apply qj1 | apply qj2 | apply qj3 | apply qj4 | apply qj5 | apply qu1 | apply qu2 | ((first | apply qa1 | apply qa2 | apply qa3 | apply qh1 | apply qh2); intro K hk; simp only [go_sem, Nat.reduceEqDiff, Nat.reduceAdd, Nat.reduceLeDiff, Nat.reduceLT, Nat.reduceSub, Int.reduceToNat, ↓reduceIte, reduceCtorEq, exl, ex_unit9, true_and, encPs_iff, ints_iff, gdX, decide_true, decide_false, Bool.not_true, Bool.not_false, ints_length, encPs_length, bne_self_eq_false, hi, Option.getD_some, Option.isSome_some, hr1, eqI_rfl, h1, h2]; (repeat (refine And.intro ?_ ?_; focus (first | omega | assumption | with_reducible rfl | (simp only [go_sem, Nat.reduceEqDiff, Nat.reduceAdd, Nat.reduceLeDiff, Nat.reduceLT, Nat.reduceSub, Int.reduceToNat, ↓reduceIte, reduceCtorEq, exl, ex_unit9, true_and, encPs_iff, ints_iff, gdX, decide_true, decide_false, Bool.not_true, Bool.not_false, ints_length, encPs_length, bne_self_eq_false, hi, Option.getD_some, Option.isSome_some, hr1, eqI_rfl, h1, h2]; done)))); intros; apply hk; clear hk K) | ((first | apply qg1 rfl | apply qcd); focus (simp only [go_sem, Nat.reduceEqDiff, Nat.reduceAdd, Nat.reduceLeDiff, Nat.reduceLT, Nat.reduceSub, Int.reduceToNat, ↓reduceIte, reduceCtorEq, exl, ex_unit9, true_and, encPs_iff, ints_iff, gdX, decide_true, decide_false, Bool.not_true, Bool.not_false, ints_length, encPs_length, bne_self_eq_false, hi, Option.getD_some, Option.isSome_some, hr1, eqI_rfl, h1, h2]; exact rfl)) | (refine qj6 ?_ ?_ <;> intro hc <;> (try simp only [hc]) <;> (try simp only [decide_eq_true_eq, decide_eq_false_iff_not, Bool.not_eq_true', Bool.not_eq_false', Bool.not_eq_true, reduceCtorEq] at hc) <;> (try (exfalso; omega))) | (refine qt7 ?_ ?_; focus decide) | (refine qw7 ?_ ?_ ?_; (focus (decide +kernel)); (focus (decide +kernel))))
      refine s_loop (ι := Nat) (fun k => [(6, .seq (encPs r)), (10, .seq (ints (namePl xs m))), (11, .bool (A && ((namePl xs m).take k).all fun p => decide (p = 1))), (12, .int .i64 k)]) (fun _ => []) 0 (fun k => k ≤ (namePl xs m).length) (fun k => (namePl xs m).length - k) 0 (by omega) (Nat.zero_le _) ?_ ?_
      · simp [fits, fitsT, fitsM, upd_def, PV.nmb, nmbL, MB.nmb, List.getD_cons_zero, List.getD_cons_succ, hA']
      · intro k hk
        simp only [mkS, mkT, mkM]
        by_cases hkl : k < (namePl xs m).length
        · obtain ⟨p, hp⟩ := get_some (xs := namePl xs m) (k := k) hkl
          have hst : (A && ((namePl xs m).take (k + 1)).all fun p => decide (p = 1)) = ((A && ((namePl xs m).take k).all fun p => decide (p = 1)) && decide (p = 1)) := by
            rw [take_snoc' hp, List.all_append, Bool.and_assoc]; simp
          generalize (A && ((namePl xs m).take k).all fun p => decide (p = 1)) = bb at *
          cases bb <;> by_cases hp1 : p = 1
          all_goals
            repeat' (first | (refine qwd fun K hk => ?_; simp only [lvY15_6, mkT, go_sem, Nat.reduceEqDiff, Nat.reduceAdd, Nat.reduceLeDiff, Nat.reduceLT, Nat.reduceSub, Int.reduceToNat, ↓reduceIte, reduceCtorEq, exl, ex_unit9, true_and, encPs_iff, ints_iff, gdX, decide_true, decide_false, Bool.not_true, Bool.not_false, ints_length, encPs_length, bne_self_eq_false, hgp, hp, Option.map_some, hp1]; apply hk; clear hk K) | apply qw8 | apply qw1 | refine qwc lvY15_6 ?_ | apply qt1 | apply qw5 | apply qw2 | apply qw9 | apply qt2 | apply qt3 | apply qt4 | apply qt5 | apply qt6 | apply qw3 | apply qw4 | apply qj1 | apply qj2 | apply qj3 | apply qj4 | apply qj5 | apply qu1 | apply qu2 | ((first | apply qa1 | apply qa2 | apply qa3 | apply qh1 | apply qh2); intro K hk; simp only [go_sem, Nat.reduceEqDiff, Nat.reduceAdd, Nat.reduceLeDiff, Nat.reduceLT, Nat.reduceSub, Int.reduceToNat, ↓reduceIte, reduceCtorEq, exl, ex_unit9, true_and, encPs_iff, ints_iff, gdX, decide_true, decide_false, Bool.not_true, Bool.not_false, ints_length, encPs_length, bne_self_eq_false, hgp, hp, Option.map_some, hp1]; (repeat (refine And.intro ?_ ?_; focus (first | omega | assumption | with_reducible rfl | (simp only [go_sem, Nat.reduceEqDiff, Nat.reduceAdd, Nat.reduceLeDiff, Nat.reduceLT, Nat.reduceSub, Int.reduceToNat, ↓reduceIte, reduceCtorEq, exl, ex_unit9, true_and, encPs_iff, ints_iff, gdX, decide_true, decide_false, Bool.not_true, Bool.not_false, ints_length, encPs_length, bne_self_eq_false, hgp, hp, Option.map_some, hp1]; done)))); intros; apply hk; clear hk K) | ((first | apply qg1 rfl | apply qcd); focus (simp only [go_sem, Nat.reduceEqDiff, Nat.reduceAdd, Nat.reduceLeDiff, Nat.reduceLT, Nat.reduceSub, Int.reduceToNat, ↓reduceIte, reduceCtorEq, exl, ex_unit9, true_and, encPs_iff, ints_iff, gdX, decide_true, decide_false, Bool.not_true, Bool.not_false, ints_length, encPs_length, bne_self_eq_false, hgp, hp, Option.map_some, hp1]; exact rfl)) | (refine qj6 ?_ ?_ <;> intro hc <;> (try simp only [hc]) <;> (try simp only [decide_eq_true_eq, decide_eq_false_iff_not, Bool.not_eq_true', Bool.not_eq_false', Bool.not_eq_true, reduceCtorEq] at hc) <;> (try (exfalso; omega))) | (refine qt7 ?_ ?_; focus decide) | (refine qw7 ?_ ?_ ?_; (focus (decide +kernel)); (focus (decide +kernel))))
            refine s_again (k + 1) ?_ ?_ ?_ <;> (first | omega | (dsimp only; omega) | skip)
            simp [fits, fitsT, fitsM, upd_def, PV.nmb, nmbL, MB.nmb, List.getD_cons_zero, List.getD_cons_succ, hst, hp1]
        · obtain rfl : k = (namePl xs m).length := by omega
          rw [List.take_length]
          have hkey := key _ rfl
          generalize (A && (namePl xs m).all fun p => decide (p = 1)) = bb at *
          cases bb
          · repeat' (first | (refine qwd fun K hk => ?_; simp only [lvY15_6, mkT, go_sem, Nat.reduceEqDiff, Nat.reduceAdd, Nat.reduceLeDiff, Nat.reduceLT, Nat.reduceSub, Int.reduceToNat, ↓reduceIte, reduceCtorEq, exl, ex_unit9, true_and, encPs_iff, ints_iff, gdX, decide_true, decide_false, Bool.not_true, Bool.not_false, ints_length, encPs_length, bne_self_eq_false, hr1]; apply hk; clear hk K) | apply qw8 | apply qw1 | refine qwc lvY15_6 ?_ | apply qt1 | apply qw5 | apply qw2 | apply qw9 | apply qt2 | apply qt3 | apply qt4 | apply qt5 | apply qt6 | apply qw3 | apply qw4 | apply qj1 | apply qj2 | apply qj3 | apply qj4 | apply qj5 | apply qu1 | apply qu2 | ((first | apply qa1 | apply qa2 | apply qa3 | apply qh1 | apply qh2); intro K hk; simp only [go_sem, Nat.reduceEqDiff, Nat.reduceAdd, Nat.reduceLeDiff, Nat.reduceLT, Nat.reduceSub, Int.reduceToNat, ↓reduceIte, reduceCtorEq, exl, ex_unit9, true_and, encPs_iff, ints_iff, gdX, decide_true, decide_false, Bool.not_true, Bool.not_false, ints_length, encPs_length, bne_self_eq_false, hr1]; (repeat (refine And.intro ?_ ?_; focus (first | omega | assumption | with_reducible rfl | (simp only [go_sem, Nat.reduceEqDiff, Nat.reduceAdd, Nat.reduceLeDiff, Nat.reduceLT, Nat.reduceSub, Int.reduceToNat, ↓reduceIte, reduceCtorEq, exl, ex_unit9, true_and, encPs_iff, ints_iff, gdX, decide_true, decide_false, Bool.not_true, Bool.not_false, ints_length, encPs_length, bne_self_eq_false, hr1]; done)))); intros; apply hk; clear hk K) | ((first | apply qg1 rfl | apply qcd); focus (simp only [go_sem, Nat.reduceEqDiff, Nat.reduceAdd, Nat.reduceLeDiff, Nat.reduceLT, Nat.reduceSub, Int.reduceToNat, ↓reduceIte, reduceCtorEq, exl, ex_unit9, true_and, encPs_iff, ints_iff, gdX, decide_true, decide_false, Bool.not_true, Bool.not_false, ints_length, encPs_length, bne_self_eq_false, hr1]; exact rfl)) | (refine qj6 ?_ ?_ <;> intro hc <;> (try simp only [hc]) <;> (try simp only [decide_eq_true_eq, decide_eq_false_iff_not, Bool.not_eq_true', Bool.not_eq_false', Bool.not_eq_true, reduceCtorEq] at hc) <;> (try (exfalso; omega))) | (refine qt7 ?_ ?_; focus decide) | (refine qw7 ?_ ?_ ?_; (focus (decide +kernel)); (focus (decide +kernel))))
            ((first | refine fin_ret ?_ | refine fin_end ?_); simp only [go_sem, ↓upd_def, Nat.reduceEqDiff, Nat.reduceAdd, ↓reduceIte, reduceCtorEq])
            exact hK
          · have hsr := hkey rfl
            repeat' (first | (refine qwd fun K hk => ?_; simp only [lvY15_6, mkT, go_sem, Nat.reduceEqDiff, Nat.reduceAdd, Nat.reduceLeDiff, Nat.reduceLT, Nat.reduceSub, Int.reduceToNat, ↓reduceIte, reduceCtorEq, exl, ex_unit9, true_and, encPs_iff, ints_iff, gdX, decide_true, decide_false, Bool.not_true, Bool.not_false, ints_length, encPs_length, bne_self_eq_false, hr1, hsr]; apply hk; clear hk K) | apply qw8 | apply qw1 | refine qwc lvY15_6 ?_ | apply qt1 | apply qw5 | apply qw2 | apply qw9 | apply qt2 | apply qt3 | apply qt4 | apply qt5 | apply qt6 | apply qw3 | apply qw4 | apply qj1 | apply qj2 | apply qj3 | apply qj4 | apply qj5 | apply qu1 | apply qu2 | ((first | apply qa1 | apply qa2 | apply qa3 | apply qh1 | apply qh2); intro K hk; simp only [go_sem, Nat.reduceEqDiff, Nat.reduceAdd, Nat.reduceLeDiff, Nat.reduceLT, Nat.reduceSub, Int.reduceToNat, ↓reduceIte, reduceCtorEq, exl, ex_unit9, true_and, encPs_iff, ints_iff, gdX, decide_true, decide_false, Bool.not_true, Bool.not_false, ints_length, encPs_length, bne_self_eq_false, hr1, hsr]; (repeat (refine And.intro ?_ ?_; focus (first | omega | assumption | with_reducible rfl | (simp only [go_sem, Nat.reduceEqDiff, Nat.reduceAdd, Nat.reduceLeDiff, Nat.reduceLT, Nat.reduceSub, Int.reduceToNat, ↓reduceIte, reduceCtorEq, exl, ex_unit9, true_and, encPs_iff, ints_iff, gdX, decide_true, decide_false, Bool.not_true, Bool.not_false, ints_length, encPs_length, bne_self_eq_false, hr1, hsr]; done)))); intros; apply hk; clear hk K) | ((first | apply qg1 rfl | apply qcd); focus (simp only [go_sem, Nat.reduceEqDiff, Nat.reduceAdd, Nat.reduceLeDiff, Nat.reduceLT, Nat.reduceSub, Int.reduceToNat, ↓reduceIte, reduceCtorEq, exl, ex_unit9, true_and, encPs_iff, ints_iff, gdX, decide_true, decide_false, Bool.not_true, Bool.not_false, ints_length, encPs_length, bne_self_eq_false, hr1, hsr]; exact rfl)) | (refine qj6 ?_ ?_ <;> intro hc <;> (try simp only [hc]) <;> (try simp only [decide_eq_true_eq, decide_eq_false_iff_not, Bool.not_eq_true', Bool.not_eq_false', Bool.not_eq_true, reduceCtorEq] at hc) <;> (try (exfalso; omega))) | (refine qt7 ?_ ?_; focus decide) | (refine qw7 ?_ ?_ ?_; (focus (decide +kernel)); (focus (decide +kernel))))
            ((first | refine fin_ret ?_ | refine fin_end ?_); simp only [go_sem, ↓upd_def, Nat.reduceEqDiff, Nat.reduceAdd, ↓reduceIte, reduceCtorEq])
            exact hK
end Go.Proofs.Ytoocbpendccngaa
