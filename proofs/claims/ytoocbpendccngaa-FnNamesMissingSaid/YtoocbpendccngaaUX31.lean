/- Contracts: NamesMissing. -/
import Derived.Test.YtoocbpendccngaaUX30

namespace Go.Proofs.Ytoocbpendccngaa
attribute [local irreducible] awp arun acalm FinP Fin AX.then AX.inBlock Again aG gsel amix amixN amixC aop aopc aopd cutK
attribute [local go_sem] aBSliceD aSlice aSliceC boundOf aMk aCall aCallC aLenL aLen aPick_t aPick_f aNil aAlloc aBox aBuild bldPV aBSlice bsPV aApp newsOf destOf drp aConvX aConv aConvInt aLoad cellsAt aStore cellsPV setAt aFld aField aIdx aIndex aUn aBin' aBin aMax aExtract pvOf PV.isCell nmbL PV.nmb List.map_cons List.map_nil List.all_cons List.all_nil Bool.and_true Bool.true_and if_true if_false List.getD_cons_zero List.getD_cons_succ List.getD_nil Option.isSome_some true_and and_true and_self eq_self true_or or_true List.drop_zero List.drop_succ_cons List.drop_nil List.take_zero List.take_succ_cons List.take_nil List.length_cons List.length_nil List.length_map Option.getD_some Option.getD_none List.nil_append List.cons_append List.append_nil Option.some.injEq exists_eq_left' List.getElem?_cons_zero List.getElem?_cons_succ Int.toNat_natCast Int.natCast_inj toNat_succ Nat.zero_add res res1 resC owns owns1 ownsC List.flatMap_cons List.flatMap_nil List.flatten_cons List.flatten_nil List.mem_cons List.not_mem_nil or_false false_or forall_eq forall_eq_or_imp isFro frz frz1 pureC tabA isBld List.cons.injEq PV.seq.injEq PV.int.injEq PV.str.injEq PV.bool.injEq PV.agg.injEq inR tab Γof aRes packR Option.map_some Option.map_none rel Prod.exists exists_and_left exists_eq_left and_assoc beq_self_eq_true Bool.not_true Bool.not_false decide_true decide_false List.set_cons_zero List.set_cons_succ rst_nil rst_cons
attribute [local go_sem ↓] evT upd_def aop aopc aopd
set_option maxRecDepth 100000
set_option linter.unusedVariables false
set_option linter.unusedSimpArgs false
open Go.RowKit
def lvX31_52 : Nat → List Nat
  | 0 => [0, 1]
  | 1 => [0, 1, 17]
  | 2 => [4]
  | 3 => [0, 1, 5]
  | 4 => [1, 5, 21, 22, 23]
  | 5 => [1, 5, 21, 22, 23, 24]
  | 6 => [1, 5, 7, 21, 22, 23]
  | 7 => [1, 5, 7, 9, 21, 22, 23]
  | 8 => [1, 5, 7, 21, 22, 23, 38]
  | 9 => [1, 5, 21, 22, 23]
  | 10 => [1, 5, 21, 22, 23]
  | 11 => [4]
  | _ => []
--LV=X31
/-- The names that no field has, but item. -/
def fltN (data : List FieldD) (l : List Bs) : List Bs := l.filter fun n => !hasF data n && !decide (n = itemN)
theorem fltN_snoc {data : List FieldD} {l : List Bs} {k : Nat} {t : Bs} (h : l[k]? = some t) : fltN data (l.take (k + 1)) = fltN data (l.take k) ++ (if hasF data t = false ∧ t ≠ itemN then [t] else []) := by
  unfold fltN
  rw [take_snoc' h, List.filter_append]
  congr 1
  cases h1 : hasF data t <;> by_cases h2 : t = itemN <;> simp [h1, h2]
theorem fltN_len (data : List FieldD) (l : List Bs) : (fltN data l).length ≤ l.length := List.length_filter_le _ _
theorem missM_flt (xs : List PartD) (data : List FieldD) : missM xs data = if partsB xs = true ∧ dataB data = true then fltN data (usedL (nmL 0 xs)) else [] := rfl
theorem nm_short {xs : List PartD} {t : Bs} (h : t ∈ usedL (nmL 0 xs)) : t.length ≤ wtL xs := nmL_mem 0 xs t ((usedL_mem _ _).1 h)
@[go_sem] def nsmC : PC := rel (α := List PartD × List FieldD) (fun x => [.seq (encPs x.1), .seq (encFs x.2)]) (fun x => wtL x.1 ≤ 1000000 ∧ smFs x.2) (fun x => .seq (strs (missM x.1 x.2)))
set_option maxHeartbeats 8000000 in
theorem mis_i : PureOk Try.prog 52 nsmC := by
  refine pure_relA 2 (tabA_cons nmNil_ok (tabA_cons so_ok (tabA_nil (Γof_ok (tab_cons pv_i (tab_cons dv_i (tab_cons fld_i tab_nil))))))) (tab_cons pv_i (tab_cons dv_i (tab_cons fld_i tab_nil))) mixed [.tmp 4] Try.func52 rfl rfl (by kernel_rfl) (by kernel_rfl) (fun _ => rfl) (by kernel_rfl) ?_
  rintro ⟨xs, data⟩ K ⟨hb, hsm⟩ hK
  dsimp only at *
  have hok := smFs_ok hsm
  have hll := hsm.1
  have hnl := nmL_len 0 xs
  have hul := usedL_len (nmL 0 xs)
  unfold entry
  rw [missM_flt] at hK
  cases hp : partsB xs
  · rw [hp] at hK
    simp only [Bool.false_eq_true, false_and, if_false] at hK
    repeat' (first | (refine qwd fun K hk => ?_; simp only [lvX31_52, mkT, go_sem, Nat.reduceEqDiff, Nat.reduceAdd, Nat.reduceLeDiff, Nat.reduceLT, Nat.reduceSub, Int.reduceToNat, ↓reduceIte, reduceCtorEq, encFs_iff, hp, Bool.not_false]; apply hk; clear hk K) | apply qw8 | apply qw1 | refine qwc lvX31_52 ?_ | apply qt1 | apply qw5 | apply qw2 | apply qw9 | apply qt2 | apply qt3 | apply qt4 | apply qt5 | apply qt6 | apply qw3 | apply qw4 | apply qj1 | apply qj2 | apply qj3 | apply qj4 | apply qj5 | apply qu1 | apply qu2 | ((first | apply qa1 | apply qa2 | apply qa3 | apply qh1 | apply qh2); intro K hk; simp only [go_sem, Nat.reduceEqDiff, Nat.reduceAdd, Nat.reduceLeDiff, Nat.reduceLT, Nat.reduceSub, Int.reduceToNat, ↓reduceIte, reduceCtorEq, encFs_iff, hp, Bool.not_false]; (repeat (refine And.intro ?_ ?_; focus (first | omega | assumption | with_reducible rfl | (simp only [go_sem, Nat.reduceEqDiff, Nat.reduceAdd, Nat.reduceLeDiff, Nat.reduceLT, Nat.reduceSub, Int.reduceToNat, ↓reduceIte, reduceCtorEq, encFs_iff, hp, Bool.not_false]; done)))); intros; apply hk; clear hk K) | ((first | apply qg1 rfl | apply qcd); focus (simp only [go_sem, Nat.reduceEqDiff, Nat.reduceAdd, Nat.reduceLeDiff, Nat.reduceLT, Nat.reduceSub, Int.reduceToNat, ↓reduceIte, reduceCtorEq, encFs_iff, hp, Bool.not_false]; exact rfl)) | (refine qj6 ?_ ?_ <;> intro hc <;> (try simp only [hc]) <;> (try simp only [decide_eq_true_eq, decide_eq_false_iff_not, Bool.not_eq_true', Bool.not_eq_false', Bool.not_eq_true, reduceCtorEq] at hc) <;> (try (exfalso; omega))) | (refine qt7 ?_ ?_; focus decide) | (refine qw7 ?_ ?_ ?_; (focus (decide +kernel)); (focus (decide +kernel))))
    ((first | refine fin_ret ?_ | refine fin_end ?_); simp only [go_sem, ↓upd_def, Nat.reduceEqDiff, Nat.reduceAdd, ↓reduceIte, reduceCtorEq])
    exact hK
  cases hd : dataB data
  · rw [hd] at hK
    simp only [Bool.false_eq_true, and_false, if_false] at hK
    repeat' (first | (refine qwd fun K hk => ?_; simp only [lvX31_52, mkT, go_sem, Nat.reduceEqDiff, Nat.reduceAdd, Nat.reduceLeDiff, Nat.reduceLT, Nat.reduceSub, Int.reduceToNat, ↓reduceIte, reduceCtorEq, encFs_iff, hp, hd, Bool.not_false, Bool.not_true]; apply hk; clear hk K) | apply qw8 | apply qw1 | refine qwc lvX31_52 ?_ | apply qt1 | apply qw5 | apply qw2 | apply qw9 | apply qt2 | apply qt3 | apply qt4 | apply qt5 | apply qt6 | apply qw3 | apply qw4 | apply qj1 | apply qj2 | apply qj3 | apply qj4 | apply qj5 | apply qu1 | apply qu2 | ((first | apply qa1 | apply qa2 | apply qa3 | apply qh1 | apply qh2); intro K hk; simp only [go_sem, Nat.reduceEqDiff, Nat.reduceAdd, Nat.reduceLeDiff, Nat.reduceLT, Nat.reduceSub, Int.reduceToNat, ↓reduceIte, reduceCtorEq, encFs_iff, hp, hd, Bool.not_false, Bool.not_true]; (repeat (refine And.intro ?_ ?_; focus (first | omega | assumption | with_reducible rfl | (simp only [go_sem, Nat.reduceEqDiff, Nat.reduceAdd, Nat.reduceLeDiff, Nat.reduceLT, Nat.reduceSub, Int.reduceToNat, ↓reduceIte, reduceCtorEq, encFs_iff, hp, hd, Bool.not_false, Bool.not_true]; done)))); intros; apply hk; clear hk K) | ((first | apply qg1 rfl | apply qcd); focus (simp only [go_sem, Nat.reduceEqDiff, Nat.reduceAdd, Nat.reduceLeDiff, Nat.reduceLT, Nat.reduceSub, Int.reduceToNat, ↓reduceIte, reduceCtorEq, encFs_iff, hp, hd, Bool.not_false, Bool.not_true]; exact rfl)) | (refine qj6 ?_ ?_ <;> intro hc <;> (try simp only [hc]) <;> (try simp only [decide_eq_true_eq, decide_eq_false_iff_not, Bool.not_eq_true', Bool.not_eq_false', Bool.not_eq_true, reduceCtorEq] at hc) <;> (try (exfalso; omega))) | (refine qt7 ?_ ?_; focus decide) | (refine qw7 ?_ ?_ ?_; (focus (decide +kernel)); (focus (decide +kernel))))
    ((first | refine fin_ret ?_ | refine fin_end ?_); simp only [go_sem, ↓upd_def, Nat.reduceEqDiff, Nat.reduceAdd, ↓reduceIte, reduceCtorEq])
    exact hK
  rw [hp, hd] at hK
  simp only [and_self, if_true] at hK
  have hdb := dataB_bd hd
  have h8 := dataB_len hd
  have hsh := fun t => @nm_short xs t
  repeat' (first | (refine qwd fun K hk => ?_; simp only [lvX31_52, mkT, go_sem, Nat.reduceEqDiff, Nat.reduceAdd, Nat.reduceLeDiff, Nat.reduceLT, Nat.reduceSub, Int.reduceToNat, ↓reduceIte, reduceCtorEq, exl29, encFs_iff, encPs_iff, strs_iff, strs_length, hp, hd, Bool.not_true]; apply hk; clear hk K) | apply qw8 | apply qw1 | refine qwc lvX31_52 ?_ | apply qt1 | apply qw5 | apply qw2 | apply qw9 | apply qt2 | apply qt3 | apply qt4 | apply qt5 | apply qt6 | apply qw3 | apply qw4 | apply qj1 | apply qj2 | apply qj3 | apply qj4 | apply qj5 | apply qu1 | apply qu2 | ((first | apply qa1 | apply qa2 | apply qa3 | apply qh1 | apply qh2); intro K hk; simp only [go_sem, Nat.reduceEqDiff, Nat.reduceAdd, Nat.reduceLeDiff, Nat.reduceLT, Nat.reduceSub, Int.reduceToNat, ↓reduceIte, reduceCtorEq, exl29, encFs_iff, encPs_iff, strs_iff, strs_length, hp, hd, Bool.not_true]; (repeat (refine And.intro ?_ ?_; focus (first | omega | assumption | with_reducible rfl | (simp only [go_sem, Nat.reduceEqDiff, Nat.reduceAdd, Nat.reduceLeDiff, Nat.reduceLT, Nat.reduceSub, Int.reduceToNat, ↓reduceIte, reduceCtorEq, exl29, encFs_iff, encPs_iff, strs_iff, strs_length, hp, hd, Bool.not_true]; done)))); intros; apply hk; clear hk K) | ((first | apply qg1 rfl | apply qcd); focus (simp only [go_sem, Nat.reduceEqDiff, Nat.reduceAdd, Nat.reduceLeDiff, Nat.reduceLT, Nat.reduceSub, Int.reduceToNat, ↓reduceIte, reduceCtorEq, exl29, encFs_iff, encPs_iff, strs_iff, strs_length, hp, hd, Bool.not_true]; exact rfl)) | (refine qj6 ?_ ?_ <;> intro hc <;> (try simp only [hc]) <;> (try simp only [decide_eq_true_eq, decide_eq_false_iff_not, Bool.not_eq_true', Bool.not_eq_false', Bool.not_eq_true, reduceCtorEq] at hc) <;> (try (exfalso; omega))) | (refine qt7 ?_ ?_; focus decide) | (refine qw7 ?_ ?_ ?_; (focus (decide +kernel)); (focus (decide +kernel))))
  generalize usedL (nmL 0 xs) = U at *
  have hsl := strs_length U
  have hgs := strK_get U
  refine s_loop (ι := Nat) (fun k => [(1, .seq (encFs data)), (5, .own 0), (21, .own 3), (22, .int .i64 U.length), (23, .int .i64 k)]) (fun k => [(0, .row 9 1 (strs (fltN data (U.take k)))), (3, .row 9 1 (strs U))]) 4 (fun k => k ≤ U.length) (fun k => U.length - k) 0 (by omega) (Nat.zero_le _) ?_ ?_
  · simp [fits, fitsT, fitsM, upd_def, PV.nmb, nmbL, MB.nmb, List.getD_cons_zero, List.getD_cons_succ, fltN, strs]
  intro k hk
  simp only [mkS, mkT, mkM]
  by_cases hkl : k < U.length
  · obtain ⟨t, ht⟩ := get_some (xs := U) (k := k) hkl
    have htl := hsh t (List.mem_of_getElem? ht)
    have hsn := fltN_snoc (data := data) ht
    have hfl := fltN_len data (U.take k)
    have hsa := strs_all
    have hsl2 := fun l => strs_length l
    rw [List.length_take] at hfl
    generalize hff : findF data t = f at *
    obtain ⟨fn, ft, fh, fi⟩ := f
    have hit : itemN = [105, 116, 101, 109] := rfl
    by_cases hq : hasF data t = false ∧ t ≠ itemN
    · rw [if_pos hq] at hsn
      obtain ⟨hq1, hq2⟩ := hq
      rw [hit] at hq2
      have hq3 := decide_eq_false hq2
      repeat' (first | (refine qwd fun K hk => ?_; simp only [lvX31_52, mkT, go_sem, Nat.reduceEqDiff, Nat.reduceAdd, Nat.reduceLeDiff, Nat.reduceLT, Nat.reduceSub, Int.reduceToNat, ↓reduceIte, reduceCtorEq, hsl, hgs, ht, Option.map_some, encFs_iff, encF_mk, hff, hq1, hq3, hsa, hsl2, strs_pt26, decide_true, Bool.not_false, Bool.not_true]; apply hk; clear hk K) | apply qw8 | apply qw1 | refine qwc lvX31_52 ?_ | apply qt1 | apply qw5 | apply qw2 | apply qw9 | apply qt2 | apply qt3 | apply qt4 | apply qt5 | apply qt6 | apply qw3 | apply qw4 | apply qj1 | apply qj2 | apply qj3 | apply qj4 | apply qj5 | apply qu1 | apply qu2 | ((first | apply qa1 | apply qa2 | apply qa3 | apply qh1 | apply qh2); intro K hk; simp only [go_sem, Nat.reduceEqDiff, Nat.reduceAdd, Nat.reduceLeDiff, Nat.reduceLT, Nat.reduceSub, Int.reduceToNat, ↓reduceIte, reduceCtorEq, hsl, hgs, ht, Option.map_some, encFs_iff, encF_mk, hff, hq1, hq3, hsa, hsl2, strs_pt26, decide_true, Bool.not_false, Bool.not_true]; (repeat (refine And.intro ?_ ?_; focus (first | omega | assumption | with_reducible rfl | (simp only [go_sem, Nat.reduceEqDiff, Nat.reduceAdd, Nat.reduceLeDiff, Nat.reduceLT, Nat.reduceSub, Int.reduceToNat, ↓reduceIte, reduceCtorEq, hsl, hgs, ht, Option.map_some, encFs_iff, encF_mk, hff, hq1, hq3, hsa, hsl2, strs_pt26, decide_true, Bool.not_false, Bool.not_true]; done)))); intros; apply hk; clear hk K) | ((first | apply qg1 rfl | apply qcd); focus (simp only [go_sem, Nat.reduceEqDiff, Nat.reduceAdd, Nat.reduceLeDiff, Nat.reduceLT, Nat.reduceSub, Int.reduceToNat, ↓reduceIte, reduceCtorEq, hsl, hgs, ht, Option.map_some, encFs_iff, encF_mk, hff, hq1, hq3, hsa, hsl2, strs_pt26, decide_true, Bool.not_false, Bool.not_true]; exact rfl)) | (refine qj6 ?_ ?_ <;> intro hc <;> (try simp only [hc]) <;> (try simp only [decide_eq_true_eq, decide_eq_false_iff_not, Bool.not_eq_true', Bool.not_eq_false', Bool.not_eq_true, reduceCtorEq] at hc) <;> (try (exfalso; omega))) | (refine qt7 ?_ ?_; focus decide) | (refine qw7 ?_ ?_ ?_; (focus (decide +kernel)); (focus (decide +kernel))))
      refine s_againR (k + 1) (fun i => if i = 0 then 6 else i) ?_ ?_ ?_ ?_ ?_ ?_ <;> (first | omega | (dsimp only; omega) | (intro i hi; (try dsimp only); (repeat' split) <;> omega) | (intro i j hi hj h; (try dsimp only at h); (repeat' split at h) <;> omega) | skip)
      all_goals (simp [fitsTR, fitsMR, PV.ren, renL, MB.ren, upd_def, PV.nmb, nmbL, MB.nmb, List.getD_cons_zero, List.getD_cons_succ, frz, drp, hsn]; done)
    · rw [if_neg hq, List.append_nil] at hsn
      cases hq1 : hasF data t with
      | true =>
        repeat' (first | (refine qwd fun K hk => ?_; simp only [lvX31_52, mkT, go_sem, Nat.reduceEqDiff, Nat.reduceAdd, Nat.reduceLeDiff, Nat.reduceLT, Nat.reduceSub, Int.reduceToNat, ↓reduceIte, reduceCtorEq, hsl, hgs, ht, Option.map_some, encFs_iff, encF_mk, hff, hq1, Bool.not_false, Bool.not_true]; apply hk; clear hk K) | apply qw8 | apply qw1 | refine qwc lvX31_52 ?_ | apply qt1 | apply qw5 | apply qw2 | apply qw9 | apply qt2 | apply qt3 | apply qt4 | apply qt5 | apply qt6 | apply qw3 | apply qw4 | apply qj1 | apply qj2 | apply qj3 | apply qj4 | apply qj5 | apply qu1 | apply qu2 | ((first | apply qa1 | apply qa2 | apply qa3 | apply qh1 | apply qh2); intro K hk; simp only [go_sem, Nat.reduceEqDiff, Nat.reduceAdd, Nat.reduceLeDiff, Nat.reduceLT, Nat.reduceSub, Int.reduceToNat, ↓reduceIte, reduceCtorEq, hsl, hgs, ht, Option.map_some, encFs_iff, encF_mk, hff, hq1, Bool.not_false, Bool.not_true]; (repeat (refine And.intro ?_ ?_; focus (first | omega | assumption | with_reducible rfl | (simp only [go_sem, Nat.reduceEqDiff, Nat.reduceAdd, Nat.reduceLeDiff, Nat.reduceLT, Nat.reduceSub, Int.reduceToNat, ↓reduceIte, reduceCtorEq, hsl, hgs, ht, Option.map_some, encFs_iff, encF_mk, hff, hq1, Bool.not_false, Bool.not_true]; done)))); intros; apply hk; clear hk K) | ((first | apply qg1 rfl | apply qcd); focus (simp only [go_sem, Nat.reduceEqDiff, Nat.reduceAdd, Nat.reduceLeDiff, Nat.reduceLT, Nat.reduceSub, Int.reduceToNat, ↓reduceIte, reduceCtorEq, hsl, hgs, ht, Option.map_some, encFs_iff, encF_mk, hff, hq1, Bool.not_false, Bool.not_true]; exact rfl)) | (refine qj6 ?_ ?_ <;> intro hc <;> (try simp only [hc]) <;> (try simp only [decide_eq_true_eq, decide_eq_false_iff_not, Bool.not_eq_true', Bool.not_eq_false', Bool.not_eq_true, reduceCtorEq] at hc) <;> (try (exfalso; omega))) | (refine qt7 ?_ ?_; focus decide) | (refine qw7 ?_ ?_ ?_; (focus (decide +kernel)); (focus (decide +kernel))))
        refine s_again (k + 1) ?_ ?_ ?_ <;> (first | omega | (dsimp only; omega) | skip)
        simp [fits, fitsT, fitsM, upd_def, PV.nmb, nmbL, MB.nmb, List.getD_cons_zero, List.getD_cons_succ, hsn]
      | false =>
        have hq2 : t = itemN := Classical.byContradiction fun h => hq ⟨hq1, h⟩
        rw [hit] at hq2
        have hq3 := decide_eq_true hq2
        repeat' (first | (refine qwd fun K hk => ?_; simp only [lvX31_52, mkT, go_sem, Nat.reduceEqDiff, Nat.reduceAdd, Nat.reduceLeDiff, Nat.reduceLT, Nat.reduceSub, Int.reduceToNat, ↓reduceIte, reduceCtorEq, hsl, hgs, ht, Option.map_some, encFs_iff, encF_mk, hff, hq1, hq3, Bool.not_false, Bool.not_true]; apply hk; clear hk K) | apply qw8 | apply qw1 | refine qwc lvX31_52 ?_ | apply qt1 | apply qw5 | apply qw2 | apply qw9 | apply qt2 | apply qt3 | apply qt4 | apply qt5 | apply qt6 | apply qw3 | apply qw4 | apply qj1 | apply qj2 | apply qj3 | apply qj4 | apply qj5 | apply qu1 | apply qu2 | ((first | apply qa1 | apply qa2 | apply qa3 | apply qh1 | apply qh2); intro K hk; simp only [go_sem, Nat.reduceEqDiff, Nat.reduceAdd, Nat.reduceLeDiff, Nat.reduceLT, Nat.reduceSub, Int.reduceToNat, ↓reduceIte, reduceCtorEq, hsl, hgs, ht, Option.map_some, encFs_iff, encF_mk, hff, hq1, hq3, Bool.not_false, Bool.not_true]; (repeat (refine And.intro ?_ ?_; focus (first | omega | assumption | with_reducible rfl | (simp only [go_sem, Nat.reduceEqDiff, Nat.reduceAdd, Nat.reduceLeDiff, Nat.reduceLT, Nat.reduceSub, Int.reduceToNat, ↓reduceIte, reduceCtorEq, hsl, hgs, ht, Option.map_some, encFs_iff, encF_mk, hff, hq1, hq3, Bool.not_false, Bool.not_true]; done)))); intros; apply hk; clear hk K) | ((first | apply qg1 rfl | apply qcd); focus (simp only [go_sem, Nat.reduceEqDiff, Nat.reduceAdd, Nat.reduceLeDiff, Nat.reduceLT, Nat.reduceSub, Int.reduceToNat, ↓reduceIte, reduceCtorEq, hsl, hgs, ht, Option.map_some, encFs_iff, encF_mk, hff, hq1, hq3, Bool.not_false, Bool.not_true]; exact rfl)) | (refine qj6 ?_ ?_ <;> intro hc <;> (try simp only [hc]) <;> (try simp only [decide_eq_true_eq, decide_eq_false_iff_not, Bool.not_eq_true', Bool.not_eq_false', Bool.not_eq_true, reduceCtorEq] at hc) <;> (try (exfalso; omega))) | (refine qt7 ?_ ?_; focus decide) | (refine qw7 ?_ ?_ ?_; (focus (decide +kernel)); (focus (decide +kernel))))
        refine s_again (k + 1) ?_ ?_ ?_ <;> (first | omega | (dsimp only; omega) | skip)
        simp [fits, fitsT, fitsM, upd_def, PV.nmb, nmbL, MB.nmb, List.getD_cons_zero, List.getD_cons_succ, hsn]
  · obtain rfl : k = U.length := by omega
    repeat' (first | (refine qwd fun K hk => ?_; simp only [lvX31_52, mkT, go_sem, Nat.reduceEqDiff, Nat.reduceAdd, Nat.reduceLeDiff, Nat.reduceLT, Nat.reduceSub, Int.reduceToNat, ↓reduceIte, reduceCtorEq, hsl]; apply hk; clear hk K) | apply qw8 | apply qw1 | refine qwc lvX31_52 ?_ | apply qt1 | apply qw5 | apply qw2 | apply qw9 | apply qt2 | apply qt3 | apply qt4 | apply qt5 | apply qt6 | apply qw3 | apply qw4 | apply qj1 | apply qj2 | apply qj3 | apply qj4 | apply qj5 | apply qu1 | apply qu2 | ((first | apply qa1 | apply qa2 | apply qa3 | apply qh1 | apply qh2); intro K hk; simp only [go_sem, Nat.reduceEqDiff, Nat.reduceAdd, Nat.reduceLeDiff, Nat.reduceLT, Nat.reduceSub, Int.reduceToNat, ↓reduceIte, reduceCtorEq, hsl]; (repeat (refine And.intro ?_ ?_; focus (first | omega | assumption | with_reducible rfl | (simp only [go_sem, Nat.reduceEqDiff, Nat.reduceAdd, Nat.reduceLeDiff, Nat.reduceLT, Nat.reduceSub, Int.reduceToNat, ↓reduceIte, reduceCtorEq, hsl]; done)))); intros; apply hk; clear hk K) | ((first | apply qg1 rfl | apply qcd); focus (simp only [go_sem, Nat.reduceEqDiff, Nat.reduceAdd, Nat.reduceLeDiff, Nat.reduceLT, Nat.reduceSub, Int.reduceToNat, ↓reduceIte, reduceCtorEq, hsl]; exact rfl)) | (refine qj6 ?_ ?_ <;> intro hc <;> (try simp only [hc]) <;> (try simp only [decide_eq_true_eq, decide_eq_false_iff_not, Bool.not_eq_true', Bool.not_eq_false', Bool.not_eq_true, reduceCtorEq] at hc) <;> (try (exfalso; omega))) | (refine qt7 ?_ ?_; focus decide) | (refine qw7 ?_ ?_ ?_; (focus (decide +kernel)); (focus (decide +kernel))))
    ((first | refine fin_ret ?_ | refine fin_end ?_); simp only [go_sem, ↓upd_def, Nat.reduceEqDiff, Nat.reduceAdd, ↓reduceIte, reduceCtorEq])
    rw [List.take_length]
    exact hK
end Go.Proofs.Ytoocbpendccngaa

/- Contracts: the reference's NamesMissing. -/
namespace Go.Proofs.Ytoocbpendccngaa
attribute [local irreducible] awp arun acalm FinP Fin AX.then AX.inBlock Again aG gsel amix amixN amixC aop aopc aopd cutK
attribute [local go_sem] aBSliceD aSlice aSliceC boundOf aMk aCall aCallC aLenL aLen aPick_t aPick_f aNil aAlloc aBox aBuild bldPV aBSlice bsPV aApp newsOf destOf drp aConvX aConv aConvInt aLoad cellsAt aStore cellsPV setAt aFld aField aIdx aIndex aUn aBin' aBin aMax aExtract pvOf PV.isCell nmbL PV.nmb List.map_cons List.map_nil List.all_cons List.all_nil Bool.and_true Bool.true_and if_true if_false List.getD_cons_zero List.getD_cons_succ List.getD_nil Option.isSome_some true_and and_true and_self eq_self true_or or_true List.drop_zero List.drop_succ_cons List.drop_nil List.take_zero List.take_succ_cons List.take_nil List.length_cons List.length_nil List.length_map Option.getD_some Option.getD_none List.nil_append List.cons_append List.append_nil Option.some.injEq exists_eq_left' List.getElem?_cons_zero List.getElem?_cons_succ Int.toNat_natCast Int.natCast_inj toNat_succ Nat.zero_add res res1 resC owns owns1 ownsC List.flatMap_cons List.flatMap_nil List.flatten_cons List.flatten_nil List.mem_cons List.not_mem_nil or_false false_or forall_eq forall_eq_or_imp isFro frz frz1 pureC tabA isBld List.cons.injEq PV.seq.injEq PV.int.injEq PV.str.injEq PV.bool.injEq PV.agg.injEq inR tab Γof aRes packR Option.map_some Option.map_none rel Prod.exists exists_and_left exists_eq_left and_assoc beq_self_eq_true Bool.not_true Bool.not_false decide_true decide_false List.set_cons_zero List.set_cons_succ rst_nil rst_cons
attribute [local go_sem ↓] evT upd_def aop aopc aopd
set_option maxRecDepth 100000
set_option linter.unusedVariables false
set_option linter.unusedSimpArgs false
open Go.RowKit
def lvX32_53 : Nat → List Nat
  | 0 => [0, 1]
  | 1 => [0, 1, 5]
  | 2 => [1, 5, 6]
  | 3 => [1, 5, 6, 7]
  | 4 => [1, 5, 6, 7, 20]
  | 5 => [1, 5, 6, 7]
  | 6 => [1, 5, 6, 7, 9]
  | 7 => [1, 5, 6, 7, 40]
  | 8 => [1, 5, 6, 7]
  | 9 => [4]
  | _ => []
--LV=X32
theorem missM_used (xs : List PartD) (data : List FieldD) : missM xs data = if dataB data = true then fltN data (usedM xs 0) else [] := by
  rw [missM_flt]
  unfold usedM
  cases h1 : partsB xs <;> cases h2 : dataB data
  · simp
  · simp [fltN]
  · simp
  · simp [kindOk]
set_option maxHeartbeats 8000000 in
theorem mis_s : PureOk Try.prog 53 nsmC := by
  refine pure_rel 2 (tab_cons nu_s (tab_cons dv_s (tab_cons fo_s tab_nil))) mixed [.tmp 4] Try.func53 rfl rfl (by kernel_rfl) (by kernel_rfl) (fun _ => rfl) (by kernel_rfl) ?_
  rintro ⟨xs, data⟩ K ⟨hb, hsm⟩ hK
  dsimp only at *
  have hok := smFs_ok hsm
  have hll := hsm.1
  have hnl := nmL_len 0 xs
  have hul := usedL_len (nmL 0 xs)
  have hsh : ∀ t ∈ usedM xs 0, t.length ≤ wtL xs := by
    intro t ht
    unfold usedM at ht
    split at ht
    · exact nm_short ht
    · simp at ht
  have hulen : (usedM xs 0).length ≤ wtL xs := by
    unfold usedM
    split
    · omega
    · simp
  rw [missM_used] at hK
  unfold entry
  repeat' (first | (refine qwd fun K hk => ?_; simp only [lvX32_53, mkT, go_sem, Nat.reduceEqDiff, Nat.reduceAdd, Nat.reduceLeDiff, Nat.reduceLT, Nat.reduceSub, Int.reduceToNat, ↓reduceIte, reduceCtorEq, encFs_iff, encPs_iff, strs_iff, strs_length]; apply hk; clear hk K) | apply qw8 | apply qw1 | refine qwc lvX32_53 ?_ | apply qt1 | apply qw5 | apply qw2 | apply qw9 | apply qt2 | apply qt3 | apply qt4 | apply qt5 | apply qt6 | apply qw3 | apply qw4 | apply qj1 | apply qj2 | apply qj3 | apply qj4 | apply qj5 | apply qu1 | apply qu2 | ((first | apply qa1 | apply qa2 | apply qa3 | apply qh1 | apply qh2); intro K hk; simp only [go_sem, Nat.reduceEqDiff, Nat.reduceAdd, Nat.reduceLeDiff, Nat.reduceLT, Nat.reduceSub, Int.reduceToNat, ↓reduceIte, reduceCtorEq, encFs_iff, encPs_iff, strs_iff, strs_length]; (repeat (refine And.intro ?_ ?_; focus (first | omega | assumption | with_reducible rfl | (simp only [go_sem, Nat.reduceEqDiff, Nat.reduceAdd, Nat.reduceLeDiff, Nat.reduceLT, Nat.reduceSub, Int.reduceToNat, ↓reduceIte, reduceCtorEq, encFs_iff, encPs_iff, strs_iff, strs_length]; done)))); intros; apply hk; clear hk K) | ((first | apply qg1 rfl | apply qcd); focus (simp only [go_sem, Nat.reduceEqDiff, Nat.reduceAdd, Nat.reduceLeDiff, Nat.reduceLT, Nat.reduceSub, Int.reduceToNat, ↓reduceIte, reduceCtorEq, encFs_iff, encPs_iff, strs_iff, strs_length]; exact rfl)) | (refine qj6 ?_ ?_ <;> intro hc <;> (try simp only [hc]) <;> (try simp only [decide_eq_true_eq, decide_eq_false_iff_not, Bool.not_eq_true', Bool.not_eq_false', Bool.not_eq_true, reduceCtorEq] at hc) <;> (try (exfalso; omega))) | (refine qt7 ?_ ?_; focus decide) | (refine qw7 ?_ ?_ ?_; (focus (decide +kernel)); (focus (decide +kernel))))
  generalize usedM xs 0 = U at *
  have hsl := strs_length U
  have hgs := strK_get U
  refine s_loop (ι := Nat) (fun k => [(1, .seq (encFs data)), (5, .own 0), (6, .seq (strs U)), (7, .int .i64 k)]) (fun k => [(0, .row 9 1 (strs (fltN data (U.take k))))]) 1 (fun k => k ≤ U.length ∧ (dataB data = false → k = 0)) (fun k => U.length - k) 0 (by omega) ⟨Nat.zero_le _, fun _ => rfl⟩ ?_ ?_
  · simp [fits, fitsT, fitsM, upd_def, PV.nmb, nmbL, MB.nmb, List.getD_cons_zero, List.getD_cons_succ, fltN, strs]
  rintro k ⟨hk, hk0⟩
  simp only [mkS, mkT, mkM]
  cases hd : dataB data with
  | false =>
    obtain rfl := hk0 hd
    rw [hd] at hK
    simp only [Bool.false_eq_true, if_false] at hK
    have h00 : ((0 : Nat) : Int) = 0 := rfl
    by_cases hkl : 0 < U.length
    · repeat' (first | (refine qwd fun K hk => ?_; simp only [lvX32_53, mkT, go_sem, Nat.reduceEqDiff, Nat.reduceAdd, Nat.reduceLeDiff, Nat.reduceLT, Nat.reduceSub, Int.reduceToNat, ↓reduceIte, reduceCtorEq, encFs_iff, hsl, hd, h00]; apply hk; clear hk K) | apply qw8 | apply qw1 | refine qwc lvX32_53 ?_ | apply qt1 | apply qw5 | apply qw2 | apply qw9 | apply qt2 | apply qt3 | apply qt4 | apply qt5 | apply qt6 | apply qw3 | apply qw4 | apply qj1 | apply qj2 | apply qj3 | apply qj4 | apply qj5 | apply qu1 | apply qu2 | ((first | apply qa1 | apply qa2 | apply qa3 | apply qh1 | apply qh2); intro K hk; simp only [go_sem, Nat.reduceEqDiff, Nat.reduceAdd, Nat.reduceLeDiff, Nat.reduceLT, Nat.reduceSub, Int.reduceToNat, ↓reduceIte, reduceCtorEq, encFs_iff, hsl, hd, h00]; (repeat (refine And.intro ?_ ?_; focus (first | omega | assumption | with_reducible rfl | (simp only [go_sem, Nat.reduceEqDiff, Nat.reduceAdd, Nat.reduceLeDiff, Nat.reduceLT, Nat.reduceSub, Int.reduceToNat, ↓reduceIte, reduceCtorEq, encFs_iff, hsl, hd, h00]; done)))); intros; apply hk; clear hk K) | ((first | apply qg1 rfl | apply qcd); focus (simp only [go_sem, Nat.reduceEqDiff, Nat.reduceAdd, Nat.reduceLeDiff, Nat.reduceLT, Nat.reduceSub, Int.reduceToNat, ↓reduceIte, reduceCtorEq, encFs_iff, hsl, hd, h00]; exact rfl)) | (refine qj6 ?_ ?_ <;> intro hc <;> (try simp only [hc]) <;> (try simp only [decide_eq_true_eq, decide_eq_false_iff_not, Bool.not_eq_true', Bool.not_eq_false', Bool.not_eq_true, reduceCtorEq] at hc) <;> (try (exfalso; omega))) | (refine qt7 ?_ ?_; focus decide) | (refine qw7 ?_ ?_ ?_; (focus (decide +kernel)); (focus (decide +kernel))))
      ((first | refine fin_ret ?_ | refine fin_end ?_); simp only [go_sem, ↓upd_def, Nat.reduceEqDiff, Nat.reduceAdd, ↓reduceIte, reduceCtorEq])
      exact hK
    · repeat' (first | (refine qwd fun K hk => ?_; simp only [lvX32_53, mkT, go_sem, Nat.reduceEqDiff, Nat.reduceAdd, Nat.reduceLeDiff, Nat.reduceLT, Nat.reduceSub, Int.reduceToNat, ↓reduceIte, reduceCtorEq, encFs_iff, hsl, hd, h00]; apply hk; clear hk K) | apply qw8 | apply qw1 | refine qwc lvX32_53 ?_ | apply qt1 | apply qw5 | apply qw2 | apply qw9 | apply qt2 | apply qt3 | apply qt4 | apply qt5 | apply qt6 | apply qw3 | apply qw4 | apply qj1 | apply qj2 | apply qj3 | apply qj4 | apply qj5 | apply qu1 | apply qu2 | ((first | apply qa1 | apply qa2 | apply qa3 | apply qh1 | apply qh2); intro K hk; simp only [go_sem, Nat.reduceEqDiff, Nat.reduceAdd, Nat.reduceLeDiff, Nat.reduceLT, Nat.reduceSub, Int.reduceToNat, ↓reduceIte, reduceCtorEq, encFs_iff, hsl, hd, h00]; (repeat (refine And.intro ?_ ?_; focus (first | omega | assumption | with_reducible rfl | (simp only [go_sem, Nat.reduceEqDiff, Nat.reduceAdd, Nat.reduceLeDiff, Nat.reduceLT, Nat.reduceSub, Int.reduceToNat, ↓reduceIte, reduceCtorEq, encFs_iff, hsl, hd, h00]; done)))); intros; apply hk; clear hk K) | ((first | apply qg1 rfl | apply qcd); focus (simp only [go_sem, Nat.reduceEqDiff, Nat.reduceAdd, Nat.reduceLeDiff, Nat.reduceLT, Nat.reduceSub, Int.reduceToNat, ↓reduceIte, reduceCtorEq, encFs_iff, hsl, hd, h00]; exact rfl)) | (refine qj6 ?_ ?_ <;> intro hc <;> (try simp only [hc]) <;> (try simp only [decide_eq_true_eq, decide_eq_false_iff_not, Bool.not_eq_true', Bool.not_eq_false', Bool.not_eq_true, reduceCtorEq] at hc) <;> (try (exfalso; omega))) | (refine qt7 ?_ ?_; focus decide) | (refine qw7 ?_ ?_ ?_; (focus (decide +kernel)); (focus (decide +kernel))))
      ((first | refine fin_ret ?_ | refine fin_end ?_); simp only [go_sem, ↓upd_def, Nat.reduceEqDiff, Nat.reduceAdd, ↓reduceIte, reduceCtorEq])
      exact hK
  | true =>
    rw [hd] at hK
    simp only [if_true] at hK
    by_cases hkl : k < U.length
    · obtain ⟨t, ht⟩ := get_some (xs := U) (k := k) hkl
      have htl := hsh t (List.mem_of_getElem? ht)
      have hsn := fltN_snoc (data := data) ht
      have hfl := fltN_len data (U.take k)
      have hsa := strs_all
      have hsl2 := fun l => strs_length l
      rw [List.length_take] at hfl
      generalize hff : foF data t = f at *
      obtain ⟨fn, ft, fh, fi⟩ := f
      have hit : itemN = [105, 116, 101, 109] := rfl
      by_cases hq : hasF data t = false ∧ t ≠ itemN
      · rw [if_pos hq] at hsn
        obtain ⟨hq1, hq2⟩ := hq
        rw [hit] at hq2
        have hq3 := decide_eq_false hq2
        repeat' (first | (refine qwd fun K hk => ?_; simp only [lvX32_53, mkT, go_sem, Nat.reduceEqDiff, Nat.reduceAdd, Nat.reduceLeDiff, Nat.reduceLT, Nat.reduceSub, Int.reduceToNat, ↓reduceIte, reduceCtorEq, hsl, hgs, ht, Option.map_some, encFs_iff, encF_mk, hff, hd, hq1, hq3, hsa, hsl2, strs_pt26, decide_true, Bool.not_false, Bool.not_true, Bool.true_and]; apply hk; clear hk K) | apply qw8 | apply qw1 | refine qwc lvX32_53 ?_ | apply qt1 | apply qw5 | apply qw2 | apply qw9 | apply qt2 | apply qt3 | apply qt4 | apply qt5 | apply qt6 | apply qw3 | apply qw4 | apply qj1 | apply qj2 | apply qj3 | apply qj4 | apply qj5 | apply qu1 | apply qu2 | ((first | apply qa1 | apply qa2 | apply qa3 | apply qh1 | apply qh2); intro K hk; simp only [go_sem, Nat.reduceEqDiff, Nat.reduceAdd, Nat.reduceLeDiff, Nat.reduceLT, Nat.reduceSub, Int.reduceToNat, ↓reduceIte, reduceCtorEq, hsl, hgs, ht, Option.map_some, encFs_iff, encF_mk, hff, hd, hq1, hq3, hsa, hsl2, strs_pt26, decide_true, Bool.not_false, Bool.not_true, Bool.true_and]; (repeat (refine And.intro ?_ ?_; focus (first | omega | assumption | with_reducible rfl | (simp only [go_sem, Nat.reduceEqDiff, Nat.reduceAdd, Nat.reduceLeDiff, Nat.reduceLT, Nat.reduceSub, Int.reduceToNat, ↓reduceIte, reduceCtorEq, hsl, hgs, ht, Option.map_some, encFs_iff, encF_mk, hff, hd, hq1, hq3, hsa, hsl2, strs_pt26, decide_true, Bool.not_false, Bool.not_true, Bool.true_and]; done)))); intros; apply hk; clear hk K) | ((first | apply qg1 rfl | apply qcd); focus (simp only [go_sem, Nat.reduceEqDiff, Nat.reduceAdd, Nat.reduceLeDiff, Nat.reduceLT, Nat.reduceSub, Int.reduceToNat, ↓reduceIte, reduceCtorEq, hsl, hgs, ht, Option.map_some, encFs_iff, encF_mk, hff, hd, hq1, hq3, hsa, hsl2, strs_pt26, decide_true, Bool.not_false, Bool.not_true, Bool.true_and]; exact rfl)) | (refine qj6 ?_ ?_ <;> intro hc <;> (try simp only [hc]) <;> (try simp only [decide_eq_true_eq, decide_eq_false_iff_not, Bool.not_eq_true', Bool.not_eq_false', Bool.not_eq_true, reduceCtorEq] at hc) <;> (try (exfalso; omega))) | (refine qt7 ?_ ?_; focus decide) | (refine qw7 ?_ ?_ ?_; (focus (decide +kernel)); (focus (decide +kernel))))
        refine s_againR (k + 1) (fun i => if i = 0 then 3 else i) ?_ ?_ ?_ ?_ ?_ ?_ <;> (first | omega | (dsimp only; omega) | (intro i hi; (try dsimp only); (repeat' split) <;> omega) | (intro i j hi hj h; (try dsimp only at h); (repeat' split at h) <;> omega) | skip)
        · exact ⟨by omega, fun h => by cases h⟩
        all_goals (simp [fitsTR, fitsMR, PV.ren, renL, MB.ren, upd_def, PV.nmb, nmbL, MB.nmb, List.getD_cons_zero, List.getD_cons_succ, frz, drp, hsn]; done)
      · rw [if_neg hq, List.append_nil] at hsn
        cases hq1 : hasF data t with
        | true =>
          repeat' (first | (refine qwd fun K hk => ?_; simp only [lvX32_53, mkT, go_sem, Nat.reduceEqDiff, Nat.reduceAdd, Nat.reduceLeDiff, Nat.reduceLT, Nat.reduceSub, Int.reduceToNat, ↓reduceIte, reduceCtorEq, hsl, hgs, ht, Option.map_some, encFs_iff, encF_mk, hff, hd, hq1, Bool.not_false, Bool.not_true, Bool.true_and]; apply hk; clear hk K) | apply qw8 | apply qw1 | refine qwc lvX32_53 ?_ | apply qt1 | apply qw5 | apply qw2 | apply qw9 | apply qt2 | apply qt3 | apply qt4 | apply qt5 | apply qt6 | apply qw3 | apply qw4 | apply qj1 | apply qj2 | apply qj3 | apply qj4 | apply qj5 | apply qu1 | apply qu2 | ((first | apply qa1 | apply qa2 | apply qa3 | apply qh1 | apply qh2); intro K hk; simp only [go_sem, Nat.reduceEqDiff, Nat.reduceAdd, Nat.reduceLeDiff, Nat.reduceLT, Nat.reduceSub, Int.reduceToNat, ↓reduceIte, reduceCtorEq, hsl, hgs, ht, Option.map_some, encFs_iff, encF_mk, hff, hd, hq1, Bool.not_false, Bool.not_true, Bool.true_and]; (repeat (refine And.intro ?_ ?_; focus (first | omega | assumption | with_reducible rfl | (simp only [go_sem, Nat.reduceEqDiff, Nat.reduceAdd, Nat.reduceLeDiff, Nat.reduceLT, Nat.reduceSub, Int.reduceToNat, ↓reduceIte, reduceCtorEq, hsl, hgs, ht, Option.map_some, encFs_iff, encF_mk, hff, hd, hq1, Bool.not_false, Bool.not_true, Bool.true_and]; done)))); intros; apply hk; clear hk K) | ((first | apply qg1 rfl | apply qcd); focus (simp only [go_sem, Nat.reduceEqDiff, Nat.reduceAdd, Nat.reduceLeDiff, Nat.reduceLT, Nat.reduceSub, Int.reduceToNat, ↓reduceIte, reduceCtorEq, hsl, hgs, ht, Option.map_some, encFs_iff, encF_mk, hff, hd, hq1, Bool.not_false, Bool.not_true, Bool.true_and]; exact rfl)) | (refine qj6 ?_ ?_ <;> intro hc <;> (try simp only [hc]) <;> (try simp only [decide_eq_true_eq, decide_eq_false_iff_not, Bool.not_eq_true', Bool.not_eq_false', Bool.not_eq_true, reduceCtorEq] at hc) <;> (try (exfalso; omega))) | (refine qt7 ?_ ?_; focus decide) | (refine qw7 ?_ ?_ ?_; (focus (decide +kernel)); (focus (decide +kernel))))
          refine s_again (k + 1) ?_ ?_ ?_ <;> (first | omega | (dsimp only; omega) | skip)
          · exact ⟨by omega, fun h => by cases h⟩
          · simp [fits, fitsT, fitsM, upd_def, PV.nmb, nmbL, MB.nmb, List.getD_cons_zero, List.getD_cons_succ, hsn]
        | false =>
          have hq2 : t = itemN := Classical.byContradiction fun h => hq ⟨hq1, h⟩
          rw [hit] at hq2
          have hq3 := decide_eq_true hq2
          repeat' (first | (refine qwd fun K hk => ?_; simp only [lvX32_53, mkT, go_sem, Nat.reduceEqDiff, Nat.reduceAdd, Nat.reduceLeDiff, Nat.reduceLT, Nat.reduceSub, Int.reduceToNat, ↓reduceIte, reduceCtorEq, hsl, hgs, ht, Option.map_some, encFs_iff, encF_mk, hff, hd, hq1, hq3, Bool.not_false, Bool.not_true, Bool.true_and]; apply hk; clear hk K) | apply qw8 | apply qw1 | refine qwc lvX32_53 ?_ | apply qt1 | apply qw5 | apply qw2 | apply qw9 | apply qt2 | apply qt3 | apply qt4 | apply qt5 | apply qt6 | apply qw3 | apply qw4 | apply qj1 | apply qj2 | apply qj3 | apply qj4 | apply qj5 | apply qu1 | apply qu2 | ((first | apply qa1 | apply qa2 | apply qa3 | apply qh1 | apply qh2); intro K hk; simp only [go_sem, Nat.reduceEqDiff, Nat.reduceAdd, Nat.reduceLeDiff, Nat.reduceLT, Nat.reduceSub, Int.reduceToNat, ↓reduceIte, reduceCtorEq, hsl, hgs, ht, Option.map_some, encFs_iff, encF_mk, hff, hd, hq1, hq3, Bool.not_false, Bool.not_true, Bool.true_and]; (repeat (refine And.intro ?_ ?_; focus (first | omega | assumption | with_reducible rfl | (simp only [go_sem, Nat.reduceEqDiff, Nat.reduceAdd, Nat.reduceLeDiff, Nat.reduceLT, Nat.reduceSub, Int.reduceToNat, ↓reduceIte, reduceCtorEq, hsl, hgs, ht, Option.map_some, encFs_iff, encF_mk, hff, hd, hq1, hq3, Bool.not_false, Bool.not_true, Bool.true_and]; done)))); intros; apply hk; clear hk K) | ((first | apply qg1 rfl | apply qcd); focus (simp only [go_sem, Nat.reduceEqDiff, Nat.reduceAdd, Nat.reduceLeDiff, Nat.reduceLT, Nat.reduceSub, Int.reduceToNat, ↓reduceIte, reduceCtorEq, hsl, hgs, ht, Option.map_some, encFs_iff, encF_mk, hff, hd, hq1, hq3, Bool.not_false, Bool.not_true, Bool.true_and]; exact rfl)) | (refine qj6 ?_ ?_ <;> intro hc <;> (try simp only [hc]) <;> (try simp only [decide_eq_true_eq, decide_eq_false_iff_not, Bool.not_eq_true', Bool.not_eq_false', Bool.not_eq_true, reduceCtorEq] at hc) <;> (try (exfalso; omega))) | (refine qt7 ?_ ?_; focus decide) | (refine qw7 ?_ ?_ ?_; (focus (decide +kernel)); (focus (decide +kernel))))
          refine s_again (k + 1) ?_ ?_ ?_ <;> (first | omega | (dsimp only; omega) | skip)
          · exact ⟨by omega, fun h => by cases h⟩
          · simp [fits, fitsT, fitsM, upd_def, PV.nmb, nmbL, MB.nmb, List.getD_cons_zero, List.getD_cons_succ, hsn]
    · obtain rfl : k = U.length := by omega
      repeat' (first | (refine qwd fun K hk => ?_; simp only [lvX32_53, mkT, go_sem, Nat.reduceEqDiff, Nat.reduceAdd, Nat.reduceLeDiff, Nat.reduceLT, Nat.reduceSub, Int.reduceToNat, ↓reduceIte, reduceCtorEq, encFs_iff, hsl, hd]; apply hk; clear hk K) | apply qw8 | apply qw1 | refine qwc lvX32_53 ?_ | apply qt1 | apply qw5 | apply qw2 | apply qw9 | apply qt2 | apply qt3 | apply qt4 | apply qt5 | apply qt6 | apply qw3 | apply qw4 | apply qj1 | apply qj2 | apply qj3 | apply qj4 | apply qj5 | apply qu1 | apply qu2 | ((first | apply qa1 | apply qa2 | apply qa3 | apply qh1 | apply qh2); intro K hk; simp only [go_sem, Nat.reduceEqDiff, Nat.reduceAdd, Nat.reduceLeDiff, Nat.reduceLT, Nat.reduceSub, Int.reduceToNat, ↓reduceIte, reduceCtorEq, encFs_iff, hsl, hd]; (repeat (refine And.intro ?_ ?_; focus (first | omega | assumption | with_reducible rfl | (simp only [go_sem, Nat.reduceEqDiff, Nat.reduceAdd, Nat.reduceLeDiff, Nat.reduceLT, Nat.reduceSub, Int.reduceToNat, ↓reduceIte, reduceCtorEq, encFs_iff, hsl, hd]; done)))); intros; apply hk; clear hk K) | ((first | apply qg1 rfl | apply qcd); focus (simp only [go_sem, Nat.reduceEqDiff, Nat.reduceAdd, Nat.reduceLeDiff, Nat.reduceLT, Nat.reduceSub, Int.reduceToNat, ↓reduceIte, reduceCtorEq, encFs_iff, hsl, hd]; exact rfl)) | (refine qj6 ?_ ?_ <;> intro hc <;> (try simp only [hc]) <;> (try simp only [decide_eq_true_eq, decide_eq_false_iff_not, Bool.not_eq_true', Bool.not_eq_false', Bool.not_eq_true, reduceCtorEq] at hc) <;> (try (exfalso; omega))) | (refine qt7 ?_ ?_; focus decide) | (refine qw7 ?_ ?_ ?_; (focus (decide +kernel)); (focus (decide +kernel))))
      ((first | refine fin_ret ?_ | refine fin_end ?_); simp only [go_sem, ↓upd_def, Nat.reduceEqDiff, Nat.reduceAdd, ↓reduceIte, reduceCtorEq])
      rw [List.take_length]
      exact hK
end Go.Proofs.Ytoocbpendccngaa
