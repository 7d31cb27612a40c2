/- Contracts of functions whose results are new rows, their arguments lent. -/
import Derived.Test.YtdedddmnacomfaaVFU
import Derived.Test.YtdedddmnacomfaaVX20
import Derived.Test.YtdedddmnacomfaaVX29
import Derived.Test.YtdedddmnacomfaaVX30
import Derived.Test.YtdedddmnacomfaaVX35

namespace Go.Proofs.Ytdedddmnacomfaa
attribute [local irreducible] awp arun acalm FinP Fin AX.then AX.inBlock Again aG gsel amix amixN amixC aop aopc aopd cutK
attribute [local go_sem] aBSliceD aSlice aSliceC boundOf aMk aCall aCallC aLenL aLen aPick_t aPick_f aNil aAlloc aBox aBuild bldPV aBSlice bsPV aApp newsOf destOf drp aConvX aConv aConvInt aLoad cellsAt aStore cellsPV setAt aFld aField aIdx aIndex aUn aBin' aBin aMax aExtract pvOf PV.isCell nmbL PV.nmb List.map_cons List.map_nil List.all_cons List.all_nil Bool.and_true Bool.true_and if_true if_false List.getD_cons_zero List.getD_cons_succ List.getD_nil Option.isSome_some true_and and_true and_self eq_self true_or or_true List.drop_zero List.drop_succ_cons List.drop_nil List.take_zero List.take_succ_cons List.take_nil List.length_cons List.length_nil List.length_map Option.getD_some Option.getD_none List.nil_append List.cons_append List.append_nil Option.some.injEq exists_eq_left' List.getElem?_cons_zero List.getElem?_cons_succ Int.toNat_natCast Int.natCast_inj toNat_succ Nat.zero_add res res1 resC owns owns1 ownsC List.flatMap_cons List.flatMap_nil List.flatten_cons List.flatten_nil List.mem_cons List.not_mem_nil or_false false_or forall_eq forall_eq_or_imp isFro frz frz1 pureC tabA isBld List.cons.injEq PV.seq.injEq PV.int.injEq PV.str.injEq PV.bool.injEq PV.agg.injEq inR tab Γof aRes packR Option.map_some Option.map_none rel Prod.exists exists_and_left exists_eq_left and_assoc beq_self_eq_true Bool.not_true Bool.not_false decide_true decide_false List.set_cons_zero List.set_cons_succ rst_nil rst_cons
attribute [local go_sem ↓] evT upd_def aop aopc aopd
set_option maxRecDepth 100000
set_option linter.unusedVariables false
set_option linter.unusedSimpArgs false
open Go.RowKit
def lvX40_26 : Nat → List Nat
  | 0 => [0, 1]
  | 1 => [0, 1, 23]
  | 2 => [4]
  | 3 => [4]
  | _ => []
def lvX40_37 : Nat → List Nat
  | 0 => [0, 1]
  | 1 => [0, 1, 17]
  | 2 => [4]
  | 3 => [0, 1, 5]
  | 4 => [1, 5, 21, 22, 23]
  | 5 => [1, 5, 21, 22, 23, 24]
  | 6 => [1, 5, 7, 21, 22, 23]
  | 7 => [1, 5, 7, 9, 21, 22, 23]
  | 8 => [1, 5, 7, 21, 22, 23, 38]
  | 9 => [1, 5, 21, 22, 23]
  | 10 => [1, 5, 21, 22, 23]
  | 11 => [4]
  | _ => []
def lvX40_41 : Nat → List Nat
  | 0 => [0, 1]
  | 1 => [0, 1, 13]
  | 2 => [4]
  | 3 => [0, 1, 5]
  | 4 => [5]
  | 5 => [4]
  | _ => []
--LV=X40
theorem strs_plainX (l : List Bs) : (strs l).all (·.all plainU) = true := by simp [strs, plainU]
@[go_sem] def nuM : AC := newL 9 1 (α := List PartD × Int) (fun x => [.seq (encPs x.1), .int .i64 x.2]) (fun x => wtL x.1 ≤ 1073741824) (fun x es => es = strs (usedM x.1 x.2))
theorem nuM_i : ACok Try.prog 26 nuM := by
  refine newM_ok 2 (tabA_cons nmNil_ok (tabA_cons so_ok (tabA_nil (Γof_ok (tab_cons pv_i tab_nil))))) (tab_cons pv_i tab_nil) mixed [.tmp 4] Try.func26 rfl rfl (by kernel_rfl) (by kernel_rfl) (fun _ => rfl) (by kernel_rfl) (fun x => by simp [nmbL, PV.nmb]) ?_ ?_
  · rintro x es rfl; exact strs_plainX _
  rintro ⟨xs, q⟩ K hb hK
  have hK := hK _ rfl
  dsimp only at *
  have hnl := nmL_len q xs
  unfold entry
  unfold usedM at hK
  cases hp : partsB xs
  · rw [hp] at hK
    simp only [Bool.false_eq_true, false_and, if_false] at hK
    repeat' (first | ((first | apply qwd | apply qa1 | apply qa2 | apply qa3 | apply qh1 | apply qh2 | apply qg1 rfl | apply qcd); (try intro K hk); focus (simp only [lvX40_26, mkT, go_sem, Nat.reduceEqDiff, Nat.reduceAdd, Nat.reduceLeDiff, Nat.reduceLT, Nat.reduceSub, Int.reduceToNat, ↓reduceIte, reduceCtorEq, hp, Bool.not_false]; first | exact rfl | ((repeat (refine And.intro ?_ ?_; focus (first | omega | assumption | with_reducible rfl))); intros; apply hk; clear hk K))) | apply qw8 | apply qw1 | refine qwc lvX40_26 ?_ | apply qt1 | apply qw5 | apply qw2 | apply qw9 | apply qt2 | apply qt3 | apply qt4 | apply qt5 | apply qt6 | apply qw3 | apply qw4 | apply qj1 | apply qj2 | apply qj3 | apply qj4 | apply qj5 | apply qu1 | apply qu2 | (refine qj6 ?_ ?_ <;> intro hc <;> (try simp only [hc]) <;> (try simp only [decide_eq_true_eq, decide_eq_false_iff_not, Bool.not_eq_true', Bool.not_eq_false', Bool.not_eq_true, reduceCtorEq] at hc) <;> (try (exfalso; omega))) | (refine qt7 ?_ ?_; focus decide) | (refine qw7 ?_ ?_ ?_; (focus (decide +kernel)); (focus (decide +kernel))))
    ((first | refine fin_H ?_ | refine fin_He ?_ | refine fin_J ?_ | refine fin_Je ?_ | refine fin_Y ?_ | refine fin_K ?_ | refine fin_T ?_ | refine fin_M ?_); simp only [go_sem, not_false_eq_true, ne_eq, ↓upd_def, Nat.reduceEqDiff, Nat.reduceAdd, ↓reduceIte, reduceCtorEq])
    first | exact .inl ⟨_, rfl, _, rfl, hK⟩ | exact .inr hK
  by_cases hq : kindOk q = true
  · rw [if_pos ⟨hp, hq⟩] at hK
    rw [kindOk_iff] at hq
    repeat' (first | ((first | apply qwd | apply qa1 | apply qa2 | apply qa3 | apply qh1 | apply qh2 | apply qg1 rfl | apply qcd); (try intro K hk); focus (simp only [lvX40_26, mkT, go_sem, Nat.reduceEqDiff, Nat.reduceAdd, Nat.reduceLeDiff, Nat.reduceLT, Nat.reduceSub, Int.reduceToNat, ↓reduceIte, reduceCtorEq, hp, exl29, encPs_iff, strs_iff, Bool.not_true, Bool.not_false]; first | exact rfl | ((repeat (refine And.intro ?_ ?_; focus (first | omega | assumption | with_reducible rfl))); intros; apply hk; clear hk K))) | apply qw8 | apply qw1 | refine qwc lvX40_26 ?_ | apply qt1 | apply qw5 | apply qw2 | apply qw9 | apply qt2 | apply qt3 | apply qt4 | apply qt5 | apply qt6 | apply qw3 | apply qw4 | apply qj1 | apply qj2 | apply qj3 | apply qj4 | apply qj5 | apply qu1 | apply qu2 | (refine qj6 ?_ ?_ <;> intro hc <;> (try simp only [hc]) <;> (try simp only [decide_eq_true_eq, decide_eq_false_iff_not, Bool.not_eq_true', Bool.not_eq_false', Bool.not_eq_true, reduceCtorEq] at hc) <;> (try (exfalso; omega))) | (refine qt7 ?_ ?_; focus decide) | (refine qw7 ?_ ?_ ?_; (focus (decide +kernel)); (focus (decide +kernel))))
    all_goals first
      | (((first | refine fin_H ?_ | refine fin_He ?_ | refine fin_J ?_ | refine fin_Je ?_ | refine fin_Y ?_ | refine fin_K ?_ | refine fin_T ?_ | refine fin_M ?_); simp only [go_sem, not_false_eq_true, ne_eq, ↓upd_def, Nat.reduceEqDiff, Nat.reduceAdd, ↓reduceIte, reduceCtorEq])
         first | exact .inl ⟨_, rfl, _, rfl, hK⟩ | exact .inr hK)
      | (exfalso; omega)
      | skip
  · rw [if_neg (by rintro ⟨_, h⟩; exact hq h)] at hK
    rw [kindOk_iff] at hq
    repeat' (first | ((first | apply qwd | apply qa1 | apply qa2 | apply qa3 | apply qh1 | apply qh2 | apply qg1 rfl | apply qcd); (try intro K hk); focus (simp only [lvX40_26, mkT, go_sem, Nat.reduceEqDiff, Nat.reduceAdd, Nat.reduceLeDiff, Nat.reduceLT, Nat.reduceSub, Int.reduceToNat, ↓reduceIte, reduceCtorEq, hp, exl29, encPs_iff, strs_iff, Bool.not_true, Bool.not_false]; first | exact rfl | ((repeat (refine And.intro ?_ ?_; focus (first | omega | assumption | with_reducible rfl))); intros; apply hk; clear hk K))) | apply qw8 | apply qw1 | refine qwc lvX40_26 ?_ | apply qt1 | apply qw5 | apply qw2 | apply qw9 | apply qt2 | apply qt3 | apply qt4 | apply qt5 | apply qt6 | apply qw3 | apply qw4 | apply qj1 | apply qj2 | apply qj3 | apply qj4 | apply qj5 | apply qu1 | apply qu2 | (refine qj6 ?_ ?_ <;> intro hc <;> (try simp only [hc]) <;> (try simp only [decide_eq_true_eq, decide_eq_false_iff_not, Bool.not_eq_true', Bool.not_eq_false', Bool.not_eq_true, reduceCtorEq] at hc) <;> (try (exfalso; omega))) | (refine qt7 ?_ ?_; focus decide) | (refine qw7 ?_ ?_ ?_; (focus (decide +kernel)); (focus (decide +kernel))))
    all_goals first
      | (((first | refine fin_H ?_ | refine fin_He ?_ | refine fin_J ?_ | refine fin_Je ?_ | refine fin_Y ?_ | refine fin_K ?_ | refine fin_T ?_ | refine fin_M ?_); simp only [go_sem, not_false_eq_true, ne_eq, ↓upd_def, Nat.reduceEqDiff, Nat.reduceAdd, ↓reduceIte, reduceCtorEq])
         first | exact .inl ⟨_, rfl, _, rfl, hK⟩ | exact .inr hK)
      | (exfalso; omega)
      | skip
def nsM : AC := newL 9 1 (α := List PartD × List FieldD) (fun x => [.seq (encPs x.1), .seq (encFs x.2)]) (fun x => wtL x.1 ≤ 1048576 ∧ smFs x.2) (fun x es => es = strs (missM x.1 x.2))
set_option maxHeartbeats 8000000 in
theorem misM_i : ACok Try.prog 37 nsM := by
  refine newM_ok 2 (tabA_cons nmNil_ok (tabA_cons so_ok (tabA_nil (Γof_ok (tab_cons pv_i (tab_cons dv_i (tab_cons fld_i tab_nil))))))) (tab_cons pv_i (tab_cons dv_i (tab_cons fld_i tab_nil))) mixed [.tmp 4] Try.func37 rfl rfl (by kernel_rfl) (by kernel_rfl) (fun _ => rfl) (by kernel_rfl) (fun x => by simp [nmbL, PV.nmb]) ?_ ?_
  · rintro x es rfl; exact strs_plainX _
  rintro ⟨xs, data⟩ K ⟨hb, hsm⟩ hK
  have hK := hK _ rfl
  dsimp only at *
  have hok := smFs_ok hsm
  have hll := hsm.1
  have hnl := nmL_len 0 xs
  have hul := usedL_len (nmL 0 xs)
  unfold entry
  rw [missM_flt] at hK
  cases hp : partsB xs
  · rw [hp] at hK
    simp only [Bool.false_eq_true, false_and, if_false] at hK
    repeat' (first | ((first | apply qwd | apply qa1 | apply qa2 | apply qa3 | apply qh1 | apply qh2 | apply qg1 rfl | apply qcd); (try intro K hk); focus (simp only [lvX40_37, mkT, go_sem, Nat.reduceEqDiff, Nat.reduceAdd, Nat.reduceLeDiff, Nat.reduceLT, Nat.reduceSub, Int.reduceToNat, ↓reduceIte, reduceCtorEq, encFs_iff, hp, Bool.not_false]; first | exact rfl | ((repeat (refine And.intro ?_ ?_; focus (first | omega | assumption | with_reducible rfl))); intros; apply hk; clear hk K))) | apply qw8 | apply qw1 | refine qwc lvX40_37 ?_ | apply qt1 | apply qw5 | apply qw2 | apply qw9 | apply qt2 | apply qt3 | apply qt4 | apply qt5 | apply qt6 | apply qw3 | apply qw4 | apply qj1 | apply qj2 | apply qj3 | apply qj4 | apply qj5 | apply qu1 | apply qu2 | (refine qj6 ?_ ?_ <;> intro hc <;> (try simp only [hc]) <;> (try simp only [decide_eq_true_eq, decide_eq_false_iff_not, Bool.not_eq_true', Bool.not_eq_false', Bool.not_eq_true, reduceCtorEq] at hc) <;> (try (exfalso; omega))) | (refine qt7 ?_ ?_; focus decide) | (refine qw7 ?_ ?_ ?_; (focus (decide +kernel)); (focus (decide +kernel))))
    ((first | refine fin_H ?_ | refine fin_He ?_ | refine fin_J ?_ | refine fin_Je ?_ | refine fin_Y ?_ | refine fin_K ?_ | refine fin_T ?_ | refine fin_M ?_); simp only [go_sem, not_false_eq_true, ne_eq, ↓upd_def, Nat.reduceEqDiff, Nat.reduceAdd, ↓reduceIte, reduceCtorEq])
    first | exact .inl ⟨_, rfl, _, rfl, hK⟩ | exact .inr hK
  cases hd : dataB data
  · rw [hd] at hK
    simp only [Bool.false_eq_true, and_false, if_false] at hK
    repeat' (first | ((first | apply qwd | apply qa1 | apply qa2 | apply qa3 | apply qh1 | apply qh2 | apply qg1 rfl | apply qcd); (try intro K hk); focus (simp only [lvX40_37, mkT, go_sem, Nat.reduceEqDiff, Nat.reduceAdd, Nat.reduceLeDiff, Nat.reduceLT, Nat.reduceSub, Int.reduceToNat, ↓reduceIte, reduceCtorEq, encFs_iff, hp, hd, Bool.not_false, Bool.not_true]; first | exact rfl | ((repeat (refine And.intro ?_ ?_; focus (first | omega | assumption | with_reducible rfl))); intros; apply hk; clear hk K))) | apply qw8 | apply qw1 | refine qwc lvX40_37 ?_ | apply qt1 | apply qw5 | apply qw2 | apply qw9 | apply qt2 | apply qt3 | apply qt4 | apply qt5 | apply qt6 | apply qw3 | apply qw4 | apply qj1 | apply qj2 | apply qj3 | apply qj4 | apply qj5 | apply qu1 | apply qu2 | (refine qj6 ?_ ?_ <;> intro hc <;> (try simp only [hc]) <;> (try simp only [decide_eq_true_eq, decide_eq_false_iff_not, Bool.not_eq_true', Bool.not_eq_false', Bool.not_eq_true, reduceCtorEq] at hc) <;> (try (exfalso; omega))) | (refine qt7 ?_ ?_; focus decide) | (refine qw7 ?_ ?_ ?_; (focus (decide +kernel)); (focus (decide +kernel))))
    ((first | refine fin_H ?_ | refine fin_He ?_ | refine fin_J ?_ | refine fin_Je ?_ | refine fin_Y ?_ | refine fin_K ?_ | refine fin_T ?_ | refine fin_M ?_); simp only [go_sem, not_false_eq_true, ne_eq, ↓upd_def, Nat.reduceEqDiff, Nat.reduceAdd, ↓reduceIte, reduceCtorEq])
    first | exact .inl ⟨_, rfl, _, rfl, hK⟩ | exact .inr hK
  rw [hp, hd] at hK
  simp only [and_self, if_true] at hK
  have hdb := dataB_bd hd
  have h8 := dataB_len hd
  have hsh := fun t => @nm_short xs t
  repeat' (first | ((first | apply qwd | apply qa1 | apply qa2 | apply qa3 | apply qh1 | apply qh2 | apply qg1 rfl | apply qcd); (try intro K hk); focus (simp only [lvX40_37, mkT, go_sem, Nat.reduceEqDiff, Nat.reduceAdd, Nat.reduceLeDiff, Nat.reduceLT, Nat.reduceSub, Int.reduceToNat, ↓reduceIte, reduceCtorEq, exl29, encFs_iff, encPs_iff, strs_iff, strs_length, hp, hd, Bool.not_true]; first | exact rfl | ((repeat (refine And.intro ?_ ?_; focus (first | omega | assumption | with_reducible rfl))); intros; apply hk; clear hk K))) | apply qw8 | apply qw1 | refine qwc lvX40_37 ?_ | apply qt1 | apply qw5 | apply qw2 | apply qw9 | apply qt2 | apply qt3 | apply qt4 | apply qt5 | apply qt6 | apply qw3 | apply qw4 | apply qj1 | apply qj2 | apply qj3 | apply qj4 | apply qj5 | apply qu1 | apply qu2 | (refine qj6 ?_ ?_ <;> intro hc <;> (try simp only [hc]) <;> (try simp only [decide_eq_true_eq, decide_eq_false_iff_not, Bool.not_eq_true', Bool.not_eq_false', Bool.not_eq_true, reduceCtorEq] at hc) <;> (try (exfalso; omega))) | (refine qt7 ?_ ?_; focus decide) | (refine qw7 ?_ ?_ ?_; (focus (decide +kernel)); (focus (decide +kernel))))
  generalize usedL (nmL 0 xs) = U at *
  have hsl := strs_length U
  have hgs := strK_get U
  refine s_loop (ι := Nat) (fun k => [(1, .seq (encFs data)), (5, .own 0), (21, .own 3), (22, .int .i64 U.length), (23, .int .i64 k)]) (fun k => [(0, .row 9 1 (strs (fltN data (U.take k)))), (3, .row 9 1 (strs U))]) 4 (fun k => k ≤ U.length) (fun k => U.length - k) 0 (by omega) (Nat.zero_le _) ?_ ?_
  · simp [fits, fitsT, fitsM, upd_def, PV.nmb, nmbL, MB.nmb, List.getD_cons_zero, List.getD_cons_succ, fltN, strs]
  intro k hk
  simp only [mkS, mkT, mkM]
  by_cases hkl : k < U.length
  · obtain ⟨t, ht⟩ := get_some (xs := U) (k := k) hkl
    have htl := hsh t (List.mem_of_getElem? ht)
    have hsn := fltN_snoc (data := data) ht
    have hfl := fltN_len data (U.take k)
    have hsa := strs_all
    have hsl2 := fun l => strs_length l
    rw [List.length_take] at hfl
    generalize hff : findF data t = f at *
    obtain ⟨fn, ft, fh, fi⟩ := f
    have hit : itemN = [105, 116, 101, 109] := rfl
    by_cases hq : hasF data t = false ∧ t ≠ itemN
    · rw [if_pos hq] at hsn
      obtain ⟨hq1, hq2⟩ := hq
      rw [hit] at hq2
      have hq3 := decide_eq_false hq2
      repeat' (first | ((first | apply qwd | apply qa1 | apply qa2 | apply qa3 | apply qh1 | apply qh2 | apply qg1 rfl | apply qcd); (try intro K hk); focus (simp only [lvX40_37, mkT, go_sem, Nat.reduceEqDiff, Nat.reduceAdd, Nat.reduceLeDiff, Nat.reduceLT, Nat.reduceSub, Int.reduceToNat, ↓reduceIte, reduceCtorEq, hsl, hgs, ht, Option.map_some, encFs_iff, encF_mk, hff, hq1, hq3, hsa, hsl2, strs_pt26, decide_true, Bool.not_false, Bool.not_true]; first | exact rfl | ((repeat (refine And.intro ?_ ?_; focus (first | omega | assumption | with_reducible rfl))); intros; apply hk; clear hk K))) | apply qw8 | apply qw1 | refine qwc lvX40_37 ?_ | apply qt1 | apply qw5 | apply qw2 | apply qw9 | apply qt2 | apply qt3 | apply qt4 | apply qt5 | apply qt6 | apply qw3 | apply qw4 | apply qj1 | apply qj2 | apply qj3 | apply qj4 | apply qj5 | apply qu1 | apply qu2 | (refine qj6 ?_ ?_ <;> intro hc <;> (try simp only [hc]) <;> (try simp only [decide_eq_true_eq, decide_eq_false_iff_not, Bool.not_eq_true', Bool.not_eq_false', Bool.not_eq_true, reduceCtorEq] at hc) <;> (try (exfalso; omega))) | (refine qt7 ?_ ?_; focus decide) | (refine qw7 ?_ ?_ ?_; (focus (decide +kernel)); (focus (decide +kernel))))
      refine s_againR (k + 1) (fun i => if i = 0 then 6 else i) ?_ ?_ ?_ ?_ ?_ ?_ <;> (first | omega | (dsimp only; omega) | (intro i hi; (try dsimp only); (repeat' split) <;> omega) | (intro i j hi hj h; (try dsimp only at h); (repeat' split at h) <;> omega) | skip)
      all_goals (simp [fitsTR, fitsMR, PV.ren, renL, MB.ren, upd_def, PV.nmb, nmbL, MB.nmb, List.getD_cons_zero, List.getD_cons_succ, frz, drp, hsn]; done)
    · rw [if_neg hq, List.append_nil] at hsn
      cases hq1 : hasF data t with
      | true =>
        repeat' (first | ((first | apply qwd | apply qa1 | apply qa2 | apply qa3 | apply qh1 | apply qh2 | apply qg1 rfl | apply qcd); (try intro K hk); focus (simp only [lvX40_37, mkT, go_sem, Nat.reduceEqDiff, Nat.reduceAdd, Nat.reduceLeDiff, Nat.reduceLT, Nat.reduceSub, Int.reduceToNat, ↓reduceIte, reduceCtorEq, hsl, hgs, ht, Option.map_some, encFs_iff, encF_mk, hff, hq1, Bool.not_false, Bool.not_true]; first | exact rfl | ((repeat (refine And.intro ?_ ?_; focus (first | omega | assumption | with_reducible rfl))); intros; apply hk; clear hk K))) | apply qw8 | apply qw1 | refine qwc lvX40_37 ?_ | apply qt1 | apply qw5 | apply qw2 | apply qw9 | apply qt2 | apply qt3 | apply qt4 | apply qt5 | apply qt6 | apply qw3 | apply qw4 | apply qj1 | apply qj2 | apply qj3 | apply qj4 | apply qj5 | apply qu1 | apply qu2 | (refine qj6 ?_ ?_ <;> intro hc <;> (try simp only [hc]) <;> (try simp only [decide_eq_true_eq, decide_eq_false_iff_not, Bool.not_eq_true', Bool.not_eq_false', Bool.not_eq_true, reduceCtorEq] at hc) <;> (try (exfalso; omega))) | (refine qt7 ?_ ?_; focus decide) | (refine qw7 ?_ ?_ ?_; (focus (decide +kernel)); (focus (decide +kernel))))
        refine s_again (k + 1) ?_ ?_ ?_ <;> (first | omega | (dsimp only; omega) | skip)
        simp [fits, fitsT, fitsM, upd_def, PV.nmb, nmbL, MB.nmb, List.getD_cons_zero, List.getD_cons_succ, hsn]
      | false =>
        have hq2 : t = itemN := Classical.byContradiction fun h => hq ⟨hq1, h⟩
        rw [hit] at hq2
        have hq3 := decide_eq_true hq2
        repeat' (first | ((first | apply qwd | apply qa1 | apply qa2 | apply qa3 | apply qh1 | apply qh2 | apply qg1 rfl | apply qcd); (try intro K hk); focus (simp only [lvX40_37, mkT, go_sem, Nat.reduceEqDiff, Nat.reduceAdd, Nat.reduceLeDiff, Nat.reduceLT, Nat.reduceSub, Int.reduceToNat, ↓reduceIte, reduceCtorEq, hsl, hgs, ht, Option.map_some, encFs_iff, encF_mk, hff, hq1, hq3, Bool.not_false, Bool.not_true]; first | exact rfl | ((repeat (refine And.intro ?_ ?_; focus (first | omega | assumption | with_reducible rfl))); intros; apply hk; clear hk K))) | apply qw8 | apply qw1 | refine qwc lvX40_37 ?_ | apply qt1 | apply qw5 | apply qw2 | apply qw9 | apply qt2 | apply qt3 | apply qt4 | apply qt5 | apply qt6 | apply qw3 | apply qw4 | apply qj1 | apply qj2 | apply qj3 | apply qj4 | apply qj5 | apply qu1 | apply qu2 | (refine qj6 ?_ ?_ <;> intro hc <;> (try simp only [hc]) <;> (try simp only [decide_eq_true_eq, decide_eq_false_iff_not, Bool.not_eq_true', Bool.not_eq_false', Bool.not_eq_true, reduceCtorEq] at hc) <;> (try (exfalso; omega))) | (refine qt7 ?_ ?_; focus decide) | (refine qw7 ?_ ?_ ?_; (focus (decide +kernel)); (focus (decide +kernel))))
        refine s_again (k + 1) ?_ ?_ ?_ <;> (first | omega | (dsimp only; omega) | skip)
        simp [fits, fitsT, fitsM, upd_def, PV.nmb, nmbL, MB.nmb, List.getD_cons_zero, List.getD_cons_succ, hsn]
  · obtain rfl : k = U.length := by omega
    repeat' (first | ((first | apply qwd | apply qa1 | apply qa2 | apply qa3 | apply qh1 | apply qh2 | apply qg1 rfl | apply qcd); (try intro K hk); focus (simp only [lvX40_37, mkT, go_sem, Nat.reduceEqDiff, Nat.reduceAdd, Nat.reduceLeDiff, Nat.reduceLT, Nat.reduceSub, Int.reduceToNat, ↓reduceIte, reduceCtorEq, hsl]; first | exact rfl | ((repeat (refine And.intro ?_ ?_; focus (first | omega | assumption | with_reducible rfl))); intros; apply hk; clear hk K))) | apply qw8 | apply qw1 | refine qwc lvX40_37 ?_ | apply qt1 | apply qw5 | apply qw2 | apply qw9 | apply qt2 | apply qt3 | apply qt4 | apply qt5 | apply qt6 | apply qw3 | apply qw4 | apply qj1 | apply qj2 | apply qj3 | apply qj4 | apply qj5 | apply qu1 | apply qu2 | (refine qj6 ?_ ?_ <;> intro hc <;> (try simp only [hc]) <;> (try simp only [decide_eq_true_eq, decide_eq_false_iff_not, Bool.not_eq_true', Bool.not_eq_false', Bool.not_eq_true, reduceCtorEq] at hc) <;> (try (exfalso; omega))) | (refine qt7 ?_ ?_; focus decide) | (refine qw7 ?_ ?_ ?_; (focus (decide +kernel)); (focus (decide +kernel))))
    ((first | refine fin_H ?_ | refine fin_He ?_ | refine fin_J ?_ | refine fin_Je ?_ | refine fin_Y ?_ | refine fin_K ?_ | refine fin_T ?_ | refine fin_M ?_); simp only [go_sem, not_false_eq_true, ne_eq, ↓upd_def, Nat.reduceEqDiff, Nat.reduceAdd, ↓reduceIte, reduceCtorEq])
    rw [List.take_length]
    first | exact .inl ⟨_, rfl, _, rfl, hK⟩ | exact .inr hK
@[go_sem] def hofM : AC := newL 92 2 (α := List PartD × List FieldD) (fun x => [.seq (encPs x.1), .seq (encFs x.2)]) (fun x => wtL x.1 ≤ 33554432 ∧ okF x.2) (fun x es => es = encHs (holesM x.1 x.2))
theorem hofM_i : ACok Try.prog 41 hofM := by
  refine newM_ok 2 (tabA_cons fwO_h (tabA_nil (Γof_ok (tab_cons ts_i (tab_cons dv_i tab_nil))))) (tab_cons ts_i (tab_cons dv_i tab_nil)) mixed [.tmp 4] Try.func41 rfl rfl (by kernel_rfl) (by kernel_rfl) (fun _ => rfl) (by kernel_rfl) (fun x => by simp [nmbL, PV.nmb]) ?_ ?_
  · rintro x es rfl; exact encHs_plain _
  rintro ⟨xs, data⟩ K ⟨hb, hok⟩ hK
  have hK := hK _ rfl
  dsimp only at *
  unfold entry
  unfold holesM at hK
  cases hp : safeM xs
  · rw [hp] at hK
    simp only [Bool.false_eq_true, false_and, if_false] at hK
    repeat' (first | ((first | apply qwd | apply qa1 | apply qa2 | apply qa3 | apply qh1 | apply qh2 | apply qg1 rfl | apply qcd); (try intro K hk); focus (simp only [lvX40_41, mkT, go_sem, Nat.reduceEqDiff, Nat.reduceAdd, Nat.reduceLeDiff, Nat.reduceLT, Nat.reduceSub, Int.reduceToNat, ↓reduceIte, reduceCtorEq, hp, encFs_iff, Bool.not_false]; first | exact rfl | ((repeat (refine And.intro ?_ ?_; focus (first | omega | assumption | with_reducible rfl))); intros; apply hk; clear hk K))) | apply qw8 | apply qw1 | refine qwc lvX40_41 ?_ | apply qt1 | apply qw5 | apply qw2 | apply qw9 | apply qt2 | apply qt3 | apply qt4 | apply qt5 | apply qt6 | apply qw3 | apply qw4 | apply qj1 | apply qj2 | apply qj3 | apply qj4 | apply qj5 | apply qu1 | apply qu2 | (refine qj6 ?_ ?_ <;> intro hc <;> (try simp only [hc]) <;> (try simp only [decide_eq_true_eq, decide_eq_false_iff_not, Bool.not_eq_true', Bool.not_eq_false', Bool.not_eq_true, reduceCtorEq] at hc) <;> (try (exfalso; omega))) | (refine qt7 ?_ ?_; focus decide) | (refine qw7 ?_ ?_ ?_; (focus (decide +kernel)); (focus (decide +kernel))))
    ((first | refine fin_H ?_ | refine fin_He ?_ | refine fin_J ?_ | refine fin_Je ?_ | refine fin_Y ?_ | refine fin_K ?_ | refine fin_T ?_ | refine fin_M ?_); simp only [go_sem, not_false_eq_true, ne_eq, ↓upd_def, Nat.reduceEqDiff, Nat.reduceAdd, ↓reduceIte, reduceCtorEq])
    first | exact .inl ⟨_, rfl, _, rfl, hK⟩ | exact .inr hK
  cases hd : dataB data
  · rw [hd] at hK
    simp only [Bool.false_eq_true, and_false, if_false] at hK
    repeat' (first | ((first | apply qwd | apply qa1 | apply qa2 | apply qa3 | apply qh1 | apply qh2 | apply qg1 rfl | apply qcd); (try intro K hk); focus (simp only [lvX40_41, mkT, go_sem, Nat.reduceEqDiff, Nat.reduceAdd, Nat.reduceLeDiff, Nat.reduceLT, Nat.reduceSub, Int.reduceToNat, ↓reduceIte, reduceCtorEq, hp, hd, encFs_iff, Bool.not_false, Bool.not_true]; first | exact rfl | ((repeat (refine And.intro ?_ ?_; focus (first | omega | assumption | with_reducible rfl))); intros; apply hk; clear hk K))) | apply qw8 | apply qw1 | refine qwc lvX40_41 ?_ | apply qt1 | apply qw5 | apply qw2 | apply qw9 | apply qt2 | apply qt3 | apply qt4 | apply qt5 | apply qt6 | apply qw3 | apply qw4 | apply qj1 | apply qj2 | apply qj3 | apply qj4 | apply qj5 | apply qu1 | apply qu2 | (refine qj6 ?_ ?_ <;> intro hc <;> (try simp only [hc]) <;> (try simp only [decide_eq_true_eq, decide_eq_false_iff_not, Bool.not_eq_true', Bool.not_eq_false', Bool.not_eq_true, reduceCtorEq] at hc) <;> (try (exfalso; omega))) | (refine qt7 ?_ ?_; focus decide) | (refine qw7 ?_ ?_ ?_; (focus (decide +kernel)); (focus (decide +kernel))))
    ((first | refine fin_H ?_ | refine fin_He ?_ | refine fin_J ?_ | refine fin_Je ?_ | refine fin_Y ?_ | refine fin_K ?_ | refine fin_T ?_ | refine fin_M ?_); simp only [go_sem, not_false_eq_true, ne_eq, ↓upd_def, Nat.reduceEqDiff, Nat.reduceAdd, ↓reduceIte, reduceCtorEq])
    first | exact .inl ⟨_, rfl, _, rfl, hK⟩ | exact .inr hK
  rw [hp, hd] at hK
  simp only [and_self, if_true] at hK
  obtain ⟨g0, g1, _, _⟩ := safe_parts hp
  have g2 := dataB_bd hd
  have g3 := dataB_len hd
  have g4 := evL_wt xs 3 data st0 false g1 g2
  have g6 : wEs (evL data st0 xs).1 ≤ 4398046511104 := by omega
  have g5 : ∃ d b, gdL d b xs = true ∧ data.length + d ≤ 900 := ⟨_, _, g1, by omega⟩
  repeat' (first | ((first | apply qwd | apply qa1 | apply qa2 | apply qa3 | apply qh1 | apply qh2 | apply qg1 rfl | apply qcd); (try intro K hk); focus (simp only [lvX40_41, mkT, go_sem, Nat.reduceEqDiff, Nat.reduceAdd, Nat.reduceLeDiff, Nat.reduceLT, Nat.reduceSub, Int.reduceToNat, ↓reduceIte, reduceCtorEq, encS_st0, exl9, encPs_iff, hp, hd, encFs_iff, Bool.not_true, List.size_toArray, Array.size_empty]; first | exact rfl | ((repeat (refine And.intro ?_ ?_; focus (first | omega | assumption | with_reducible rfl))); intros; apply hk; clear hk K))) | apply qw8 | apply qw1 | refine qwc lvX40_41 ?_ | apply qt1 | apply qw5 | apply qw2 | apply qw9 | apply qt2 | apply qt3 | apply qt4 | apply qt5 | apply qt6 | apply qw3 | apply qw4 | apply qj1 | apply qj2 | apply qj3 | apply qj4 | apply qj5 | apply qu1 | apply qu2 | (refine qj6 ?_ ?_ <;> intro hc <;> (try simp only [hc]) <;> (try simp only [decide_eq_true_eq, decide_eq_false_iff_not, Bool.not_eq_true', Bool.not_eq_false', Bool.not_eq_true, reduceCtorEq] at hc) <;> (try (exfalso; omega))) | (refine qt7 ?_ ?_; focus decide) | (refine qw7 ?_ ?_ ?_; (focus (decide +kernel)); (focus (decide +kernel))))
  ((first | refine fin_H ?_ | refine fin_He ?_ | refine fin_J ?_ | refine fin_Je ?_ | refine fin_Y ?_ | refine fin_K ?_ | refine fin_T ?_ | refine fin_M ?_); simp only [go_sem, not_false_eq_true, ne_eq, ↓upd_def, Nat.reduceEqDiff, Nat.reduceAdd, ↓reduceIte, reduceCtorEq])
  first | exact .inl ⟨_, rfl, _, rfl, hK⟩ | exact .inr hK
end Go.Proofs.Ytdedddmnacomfaa
