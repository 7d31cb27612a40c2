/- The law's walk over drawn parts: NamesUsed. -/
import Derived.Test.YtoocbpendccngaaVX29
import Derived.Test.YtoocbpendccngaaVR4
import Derived.Test.YtoocbpendccngaaVY9

namespace Go.Proofs.Ytoocbpendccngaa
attribute [local irreducible] awp arun acalm FinP Fin AX.then AX.inBlock Again aG gsel amix amixN amixC aop aopc aopd cutK
attribute [local go_sem] aBSliceD aSlice aSliceC boundOf aMk aCall aCallC aLenL aLen aPick_t aPick_f aNil aAlloc aBox aBuild bldPV aBSlice bsPV aApp newsOf destOf drp aConvX aConv aConvInt aLoad cellsAt aStore cellsPV setAt aFld aField aIdx aIndex aUn aBin' aBin aMax aExtract pvOf PV.isCell nmbL PV.nmb List.map_cons List.map_nil List.all_cons List.all_nil Bool.and_true Bool.true_and if_true if_false List.getD_cons_zero List.getD_cons_succ List.getD_nil Option.isSome_some true_and and_true and_self eq_self true_or or_true List.drop_zero List.drop_succ_cons List.drop_nil List.take_zero List.take_succ_cons List.take_nil List.length_cons List.length_nil List.length_map Option.getD_some Option.getD_none List.nil_append List.cons_append List.append_nil Option.some.injEq exists_eq_left' List.getElem?_cons_zero List.getElem?_cons_succ Int.toNat_natCast Int.natCast_inj toNat_succ Nat.zero_add res res1 resC owns owns1 ownsC List.flatMap_cons List.flatMap_nil List.flatten_cons List.flatten_nil List.mem_cons List.not_mem_nil or_false false_or forall_eq forall_eq_or_imp isFro frz frz1 pureC tabA isBld List.cons.injEq PV.seq.injEq PV.int.injEq PV.str.injEq PV.bool.injEq PV.agg.injEq inR tab Γof aRes packR Option.map_some Option.map_none rel Prod.exists exists_and_left exists_eq_left and_assoc beq_self_eq_true Bool.not_true Bool.not_false decide_true decide_false List.set_cons_zero List.set_cons_succ rst_nil rst_cons
attribute [local go_sem ↓] evT upd_def aop aopc aopd
set_option maxRecDepth 100000
set_option linter.unusedVariables false
set_option linter.unusedSimpArgs false
open Go.RowKit
def lvY20_7 : Nat → List Nat
  | 0 => [0]
  | 1 => [0, 11]
  | 2 => [2]
  | 3 => [3, 4]
  | 4 => [3, 4, 5]
  | 5 => [3, 5, 25]
  | 6 => [2]
  | 7 => [5, 6]
  | 8 => [5, 6, 7]
  | 9 => [5, 6, 7, 8]
  | 10 => [5, 6, 7, 8, 31]
  | 11 => [5, 6, 7, 8]
  | 12 => [5, 6, 7, 8, 48]
  | 13 => [5, 6, 7, 8]
  | 14 => [5, 6, 7, 8, 81]
  | 15 => [2]
  | 16 => [2]
  | _ => []
def lvY20_24 : Nat → List Nat
  | 0 => [0, 1]
  | 1 => [0, 1, 10]
  | 2 => [4]
  | 3 => [0, 1, 5]
  | 4 => [0, 1, 5, 14]
  | 5 => [0, 1, 5]
  | 6 => [0, 1, 5, 25]
  | 7 => [4]
  | 8 => [4]
  | _ => []
--LV=Y20
@[go_sem] def stxD : PC := rel (α := List Bs × List Bs) (fun x => [.seq (strs x.1), .seq (strs x.2)]) (fun x => x.1.length ≤ 9223372036854775807 ∧ x.2.length ≤ 9223372036854775807) (fun x => .bool (decide (x.1 = x.2)))
theorem stx_ok20 : PureOk Try.prog 24 stxD := by
  refine pure_rel 2 tab_nil mixed [.tmp 4] Try.func24 rfl rfl (by kernel_rfl) (by kernel_rfl) (fun _ => rfl) (by kernel_rfl) ?_
  rintro ⟨a, b⟩ K ⟨ha, hb⟩ hK
  dsimp only at *
  have hga := strK_get a
  have hgb := strK_get b
  unfold entry
  by_cases hlen : a.length = b.length
  · repeat' (first | (refine qwd fun K hk => ?_; simp only [lvY20_24, mkT, go_sem, Nat.reduceEqDiff, Nat.reduceAdd, Nat.reduceLeDiff, Nat.reduceLT, Nat.reduceSub, Int.reduceToNat, ↓reduceIte, reduceCtorEq, strs_length, hlen, decide_true, Bool.not_true]; apply hk; clear hk K) | apply qw8 | apply qw1 | refine qwc lvY20_24 ?_ | apply qt1 | apply qw5 | apply qw2 | apply qw9 | apply qt2 | apply qt3 | apply qt4 | apply qt5 | apply qt6 | apply qw3 | apply qw4 | apply qj1 | apply qj2 | apply qj3 | apply qj4 | apply qj5 | apply qu1 | apply qu2 | ((first | apply qa1 | apply qa2 | apply qa3 | apply qh1 | apply qh2); intro K hk; simp only [go_sem, Nat.reduceEqDiff, Nat.reduceAdd, Nat.reduceLeDiff, Nat.reduceLT, Nat.reduceSub, Int.reduceToNat, ↓reduceIte, reduceCtorEq, strs_length, hlen, decide_true, Bool.not_true]; (repeat (refine And.intro ?_ ?_; focus (first | omega | assumption | with_reducible rfl | (simp only [go_sem, Nat.reduceEqDiff, Nat.reduceAdd, Nat.reduceLeDiff, Nat.reduceLT, Nat.reduceSub, Int.reduceToNat, ↓reduceIte, reduceCtorEq, strs_length, hlen, decide_true, Bool.not_true]; done)))); intros; apply hk; clear hk K) | ((first | apply qg1 rfl | apply qcd); focus (simp only [go_sem, Nat.reduceEqDiff, Nat.reduceAdd, Nat.reduceLeDiff, Nat.reduceLT, Nat.reduceSub, Int.reduceToNat, ↓reduceIte, reduceCtorEq, strs_length, hlen, decide_true, Bool.not_true]; exact rfl)) | (refine qj6 ?_ ?_ <;> intro hc <;> (try simp only [hc]) <;> (try simp only [decide_eq_true_eq, decide_eq_false_iff_not, Bool.not_eq_true', Bool.not_eq_false', Bool.not_eq_true, reduceCtorEq] at hc) <;> (try (exfalso; omega))) | (refine qt7 ?_ ?_; focus decide) | (refine qw7 ?_ ?_ ?_; (focus (decide +kernel)); (focus (decide +kernel))))
    refine s_loop (ι := Nat) (fun k => [(0, .seq (strs a)), (1, .seq (strs b)), (5, .int .i64 k)]) (fun _ => []) 0 (fun k => k ≤ a.length ∧ a.take k = b.take k) (fun k => a.length - k) 0 (by omega) ⟨Nat.zero_le _, rfl⟩ ?_ ?_
    · simp [fits, fitsT, fitsM, upd_def, PV.nmb, nmbL, MB.nmb, List.getD_cons_zero, List.getD_cons_succ]
    rintro k ⟨hk, ht⟩
    simp only [mkS, mkT, mkM]
    by_cases hkl : k < a.length
    · obtain ⟨x, hx⟩ := get_some (xs := a) (k := k) hkl
      obtain ⟨y, hy⟩ := get_some (xs := b) (k := k) (by omega)
      by_cases hxy : x = y
      · subst hxy
        repeat' (first | (refine qwd fun K hk => ?_; simp only [lvY20_24, mkT, go_sem, Nat.reduceEqDiff, Nat.reduceAdd, Nat.reduceLeDiff, Nat.reduceLT, Nat.reduceSub, Int.reduceToNat, ↓reduceIte, reduceCtorEq, strs_length, hga, hgb, hx, hy, Option.map_some, hlen, bne_self_eq_false, decide_true, Bool.not_true]; apply hk; clear hk K) | apply qw8 | apply qw1 | refine qwc lvY20_24 ?_ | apply qt1 | apply qw5 | apply qw2 | apply qw9 | apply qt2 | apply qt3 | apply qt4 | apply qt5 | apply qt6 | apply qw3 | apply qw4 | apply qj1 | apply qj2 | apply qj3 | apply qj4 | apply qj5 | apply qu1 | apply qu2 | ((first | apply qa1 | apply qa2 | apply qa3 | apply qh1 | apply qh2); intro K hk; simp only [go_sem, Nat.reduceEqDiff, Nat.reduceAdd, Nat.reduceLeDiff, Nat.reduceLT, Nat.reduceSub, Int.reduceToNat, ↓reduceIte, reduceCtorEq, strs_length, hga, hgb, hx, hy, Option.map_some, hlen, bne_self_eq_false, decide_true, Bool.not_true]; (repeat (refine And.intro ?_ ?_; focus (first | omega | assumption | with_reducible rfl | (simp only [go_sem, Nat.reduceEqDiff, Nat.reduceAdd, Nat.reduceLeDiff, Nat.reduceLT, Nat.reduceSub, Int.reduceToNat, ↓reduceIte, reduceCtorEq, strs_length, hga, hgb, hx, hy, Option.map_some, hlen, bne_self_eq_false, decide_true, Bool.not_true]; done)))); intros; apply hk; clear hk K) | ((first | apply qg1 rfl | apply qcd); focus (simp only [go_sem, Nat.reduceEqDiff, Nat.reduceAdd, Nat.reduceLeDiff, Nat.reduceLT, Nat.reduceSub, Int.reduceToNat, ↓reduceIte, reduceCtorEq, strs_length, hga, hgb, hx, hy, Option.map_some, hlen, bne_self_eq_false, decide_true, Bool.not_true]; exact rfl)) | (refine qj6 ?_ ?_ <;> intro hc <;> (try simp only [hc]) <;> (try simp only [decide_eq_true_eq, decide_eq_false_iff_not, Bool.not_eq_true', Bool.not_eq_false', Bool.not_eq_true, reduceCtorEq] at hc) <;> (try (exfalso; omega))) | (refine qt7 ?_ ?_; focus decide) | (refine qw7 ?_ ?_ ?_; (focus (decide +kernel)); (focus (decide +kernel))))
        refine s_again (k + 1) ?_ ?_ ?_ <;> (first | omega | (dsimp only; omega) | skip)
        · refine ⟨by omega, ?_⟩
          rw [take_snoc' hx, take_snoc' hy, ht]
        · simp [fits, fitsT, fitsM, upd_def, PV.nmb, nmbL, MB.nmb, List.getD_cons_zero, List.getD_cons_succ]
      · repeat' (first | (refine qwd fun K hk => ?_; simp only [lvY20_24, mkT, go_sem, Nat.reduceEqDiff, Nat.reduceAdd, Nat.reduceLeDiff, Nat.reduceLT, Nat.reduceSub, Int.reduceToNat, ↓reduceIte, reduceCtorEq, strs_length, hga, hgb, hx, hy, Option.map_some, hlen, hxy, decide_false, Bool.not_false]; apply hk; clear hk K) | apply qw8 | apply qw1 | refine qwc lvY20_24 ?_ | apply qt1 | apply qw5 | apply qw2 | apply qw9 | apply qt2 | apply qt3 | apply qt4 | apply qt5 | apply qt6 | apply qw3 | apply qw4 | apply qj1 | apply qj2 | apply qj3 | apply qj4 | apply qj5 | apply qu1 | apply qu2 | ((first | apply qa1 | apply qa2 | apply qa3 | apply qh1 | apply qh2); intro K hk; simp only [go_sem, Nat.reduceEqDiff, Nat.reduceAdd, Nat.reduceLeDiff, Nat.reduceLT, Nat.reduceSub, Int.reduceToNat, ↓reduceIte, reduceCtorEq, strs_length, hga, hgb, hx, hy, Option.map_some, hlen, hxy, decide_false, Bool.not_false]; (repeat (refine And.intro ?_ ?_; focus (first | omega | assumption | with_reducible rfl | (simp only [go_sem, Nat.reduceEqDiff, Nat.reduceAdd, Nat.reduceLeDiff, Nat.reduceLT, Nat.reduceSub, Int.reduceToNat, ↓reduceIte, reduceCtorEq, strs_length, hga, hgb, hx, hy, Option.map_some, hlen, hxy, decide_false, Bool.not_false]; done)))); intros; apply hk; clear hk K) | ((first | apply qg1 rfl | apply qcd); focus (simp only [go_sem, Nat.reduceEqDiff, Nat.reduceAdd, Nat.reduceLeDiff, Nat.reduceLT, Nat.reduceSub, Int.reduceToNat, ↓reduceIte, reduceCtorEq, strs_length, hga, hgb, hx, hy, Option.map_some, hlen, hxy, decide_false, Bool.not_false]; exact rfl)) | (refine qj6 ?_ ?_ <;> intro hc <;> (try simp only [hc]) <;> (try simp only [decide_eq_true_eq, decide_eq_false_iff_not, Bool.not_eq_true', Bool.not_eq_false', Bool.not_eq_true, reduceCtorEq] at hc) <;> (try (exfalso; omega))) | (refine qt7 ?_ ?_; focus decide) | (refine qw7 ?_ ?_ ?_; (focus (decide +kernel)); (focus (decide +kernel))))
        ((first | refine fin_ret ?_ | refine fin_end ?_); simp only [go_sem, ↓upd_def, Nat.reduceEqDiff, Nat.reduceAdd, ↓reduceIte, reduceCtorEq])
        refine K_bool hK ?_
        rw [decide_eq_false]
        rintro rfl
        rw [hx] at hy
        simp only [Option.some.injEq] at hy
        exact hxy hy
    · obtain rfl : k = a.length := by omega
      repeat' (first | (refine qwd fun K hk => ?_; simp only [lvY20_24, mkT, go_sem, Nat.reduceEqDiff, Nat.reduceAdd, Nat.reduceLeDiff, Nat.reduceLT, Nat.reduceSub, Int.reduceToNat, ↓reduceIte, reduceCtorEq, strs_length, hlen]; apply hk; clear hk K) | apply qw8 | apply qw1 | refine qwc lvY20_24 ?_ | apply qt1 | apply qw5 | apply qw2 | apply qw9 | apply qt2 | apply qt3 | apply qt4 | apply qt5 | apply qt6 | apply qw3 | apply qw4 | apply qj1 | apply qj2 | apply qj3 | apply qj4 | apply qj5 | apply qu1 | apply qu2 | ((first | apply qa1 | apply qa2 | apply qa3 | apply qh1 | apply qh2); intro K hk; simp only [go_sem, Nat.reduceEqDiff, Nat.reduceAdd, Nat.reduceLeDiff, Nat.reduceLT, Nat.reduceSub, Int.reduceToNat, ↓reduceIte, reduceCtorEq, strs_length, hlen]; (repeat (refine And.intro ?_ ?_; focus (first | omega | assumption | with_reducible rfl | (simp only [go_sem, Nat.reduceEqDiff, Nat.reduceAdd, Nat.reduceLeDiff, Nat.reduceLT, Nat.reduceSub, Int.reduceToNat, ↓reduceIte, reduceCtorEq, strs_length, hlen]; done)))); intros; apply hk; clear hk K) | ((first | apply qg1 rfl | apply qcd); focus (simp only [go_sem, Nat.reduceEqDiff, Nat.reduceAdd, Nat.reduceLeDiff, Nat.reduceLT, Nat.reduceSub, Int.reduceToNat, ↓reduceIte, reduceCtorEq, strs_length, hlen]; exact rfl)) | (refine qj6 ?_ ?_ <;> intro hc <;> (try simp only [hc]) <;> (try simp only [decide_eq_true_eq, decide_eq_false_iff_not, Bool.not_eq_true', Bool.not_eq_false', Bool.not_eq_true, reduceCtorEq] at hc) <;> (try (exfalso; omega))) | (refine qt7 ?_ ?_; focus decide) | (refine qw7 ?_ ?_ ?_; (focus (decide +kernel)); (focus (decide +kernel))))
      ((first | refine fin_ret ?_ | refine fin_end ?_); simp only [go_sem, ↓upd_def, Nat.reduceEqDiff, Nat.reduceAdd, ↓reduceIte, reduceCtorEq])
      refine K_bool hK ?_
      rw [List.take_length, hlen, List.take_length] at ht
      rw [decide_eq_true ht]
  · repeat' (first | (refine qwd fun K hk => ?_; simp only [lvY20_24, mkT, go_sem, Nat.reduceEqDiff, Nat.reduceAdd, Nat.reduceLeDiff, Nat.reduceLT, Nat.reduceSub, Int.reduceToNat, ↓reduceIte, reduceCtorEq, strs_length, hlen, decide_false, Bool.not_false]; apply hk; clear hk K) | apply qw8 | apply qw1 | refine qwc lvY20_24 ?_ | apply qt1 | apply qw5 | apply qw2 | apply qw9 | apply qt2 | apply qt3 | apply qt4 | apply qt5 | apply qt6 | apply qw3 | apply qw4 | apply qj1 | apply qj2 | apply qj3 | apply qj4 | apply qj5 | apply qu1 | apply qu2 | ((first | apply qa1 | apply qa2 | apply qa3 | apply qh1 | apply qh2); intro K hk; simp only [go_sem, Nat.reduceEqDiff, Nat.reduceAdd, Nat.reduceLeDiff, Nat.reduceLT, Nat.reduceSub, Int.reduceToNat, ↓reduceIte, reduceCtorEq, strs_length, hlen, decide_false, Bool.not_false]; (repeat (refine And.intro ?_ ?_; focus (first | omega | assumption | with_reducible rfl | (simp only [go_sem, Nat.reduceEqDiff, Nat.reduceAdd, Nat.reduceLeDiff, Nat.reduceLT, Nat.reduceSub, Int.reduceToNat, ↓reduceIte, reduceCtorEq, strs_length, hlen, decide_false, Bool.not_false]; done)))); intros; apply hk; clear hk K) | ((first | apply qg1 rfl | apply qcd); focus (simp only [go_sem, Nat.reduceEqDiff, Nat.reduceAdd, Nat.reduceLeDiff, Nat.reduceLT, Nat.reduceSub, Int.reduceToNat, ↓reduceIte, reduceCtorEq, strs_length, hlen, decide_false, Bool.not_false]; exact rfl)) | (refine qj6 ?_ ?_ <;> intro hc <;> (try simp only [hc]) <;> (try simp only [decide_eq_true_eq, decide_eq_false_iff_not, Bool.not_eq_true', Bool.not_eq_false', Bool.not_eq_true, reduceCtorEq] at hc) <;> (try (exfalso; omega))) | (refine qt7 ?_ ?_; focus decide) | (refine qw7 ?_ ?_ ?_; (focus (decide +kernel)); (focus (decide +kernel))))
    ((first | refine fin_ret ?_ | refine fin_end ?_); simp only [go_sem, ↓upd_def, Nat.reduceEqDiff, Nat.reduceAdd, ↓reduceIte, reduceCtorEq])
    refine K_bool hK ?_
    rw [decide_eq_false]
    rintro rfl
    exact hlen rfl
theorem usedM_asc (xs : List PartD) (q : Int) : Asc (usedM xs q) := by
  unfold usedM
  split
  · exact usedL_asc _
  · exact List.Pairwise.nil
theorem usedM_len (xs : List PartD) (q : Int) : (usedM xs q).length ≤ wtL xs := by
  unfold usedM
  split
  · exact Nat.le_trans (usedL_len _) (nmL_len q xs)
  · simp
theorem usedM_sub {xs : List PartD} {q : Int} {t : Bs} (h : t ∈ usedM xs q) : t ∈ usedM xs 0 := by
  unfold usedM at h ⊢
  split at h
  · rename_i hc
    have hq := (kindOk_iff q).1 hc.2
    rw [if_pos ⟨hc.1, (kindOk_iff 0).2 (.inl rfl)⟩]
    rw [usedL_mem] at h ⊢
    exact nm_subL q (by omega) xs t h
  · simp at h
theorem at_hit {a : List Bs} {y : Bs} {k : Nat} (ha : Asc a) (hy : y ∈ a) (hb : ∀ z ∈ a.take k, z < y) (hn : ∀ z, a[k]? = some z → ¬ z < y) : a[k]? = some y := by
  rw [← List.take_append_drop k a] at hy
  rcases List.mem_append.1 hy with h | h
  · exact absurd (hb y h) (bs_irr y)
  · by_cases hk : k < a.length
    · rw [List.drop_eq_getElem_cons hk] at h
      have e : a[k]? = some a[k] := List.getElem?_eq_getElem hk
      rcases List.mem_cons.1 h with h | h
      · rw [e, h]
      · have ha' : Asc (a.drop k) := List.Pairwise.drop ha
        rw [List.drop_eq_getElem_cons hk] at ha'
        exact absurd ((List.pairwise_cons.1 ha').1 y h) (hn _ e)
    · rw [List.drop_of_length_le (by omega)] at h
      simp at h
theorem asc_next {a : List Bs} {k : Nat} {x y : Bs} (ha : Asc a) (hx : a[k]? = some x) (hy : a[k + 1]? = some y) : x < y := by
  obtain ⟨h1, rfl⟩ := List.getElem?_eq_some_iff.1 hx
  obtain ⟨h2, rfl⟩ := List.getElem?_eq_some_iff.1 hy
  exact List.pairwise_iff_getElem.1 ha k (k + 1) h1 h2 (by omega)
set_option maxHeartbeats 8000000 in
theorem FnNamesUsed_pure : PureOk Try.prog 7 (rel (α := Bs) (fun x => [.seq (x.map bc)]) (fun x => x.length ≤ 9223372036854775807) (fun _ => .bool true)) := by
  refine pure_relA 1 (tabA_cons drwNU (tabA_nil (Γof_ok (tab_cons nu_i (tab_cons nu_s (tab_cons stx_ok20 (tab_cons alive9 tab_nil))))))) (tab_cons nu_i (tab_cons nu_s (tab_cons stx_ok20 (tab_cons alive9 tab_nil)))) mixed [.tmp 2] Try.func7 rfl rfl (by kernel_rfl) (by kernel_rfl) (fun _ => rfl) (by kernel_rfl) ?_
  rintro l0 K hl hK
  have hba := bc_all l0
  unfold entry
  repeat' (first | (refine qwd fun K hk => ?_; simp only [lvY20_7, mkT, go_sem, Nat.reduceEqDiff, Nat.reduceAdd, Nat.reduceLeDiff, Nat.reduceLT, Nat.reduceSub, Int.reduceToNat, ↓reduceIte, reduceCtorEq, exl, ex_unit9, true_and, encPs_iff, strs_iff, gdX, decide_true, Bool.not_true, strs_length]; apply hk; clear hk K) | apply qw8 | apply qw1 | refine qwc lvY20_7 ?_ | apply qt1 | apply qw5 | apply qw2 | apply qw9 | apply qt2 | apply qt3 | apply qt4 | apply qt5 | apply qt6 | apply qw3 | apply qw4 | apply qj1 | apply qj2 | apply qj3 | apply qj4 | apply qj5 | apply qu1 | apply qu2 | ((first | apply qa1 | apply qa2 | apply qa3 | apply qh1 | apply qh2); intro K hk; simp only [go_sem, Nat.reduceEqDiff, Nat.reduceAdd, Nat.reduceLeDiff, Nat.reduceLT, Nat.reduceSub, Int.reduceToNat, ↓reduceIte, reduceCtorEq, exl, ex_unit9, true_and, encPs_iff, strs_iff, gdX, decide_true, Bool.not_true, strs_length]; (repeat (refine And.intro ?_ ?_; focus (first | omega | assumption | with_reducible rfl | (simp only [go_sem, Nat.reduceEqDiff, Nat.reduceAdd, Nat.reduceLeDiff, Nat.reduceLT, Nat.reduceSub, Int.reduceToNat, ↓reduceIte, reduceCtorEq, exl, ex_unit9, true_and, encPs_iff, strs_iff, gdX, decide_true, Bool.not_true, strs_length]; done)))); intros; apply hk; clear hk K) | ((first | apply qg1 rfl | apply qcd); focus (simp only [go_sem, Nat.reduceEqDiff, Nat.reduceAdd, Nat.reduceLeDiff, Nat.reduceLT, Nat.reduceSub, Int.reduceToNat, ↓reduceIte, reduceCtorEq, exl, ex_unit9, true_and, encPs_iff, strs_iff, gdX, decide_true, Bool.not_true, strs_length]; exact rfl)) | (refine qj6 ?_ ?_ <;> intro hc <;> (try simp only [hc]) <;> (try simp only [decide_eq_true_eq, decide_eq_false_iff_not, Bool.not_eq_true', Bool.not_eq_false', Bool.not_eq_true, reduceCtorEq] at hc) <;> (try (exfalso; omega))) | (refine qt7 ?_ ?_; focus decide) | (refine qw7 ?_ ?_ ?_; (focus (decide +kernel)); (focus (decide +kernel))))
  · ((first | refine fin_ret ?_ | refine fin_end ?_); simp only [go_sem, ↓upd_def, Nat.reduceEqDiff, Nat.reduceAdd, ↓reduceIte, reduceCtorEq])
    exact hK
  rename (List PartD × Int) => x9
  obtain ⟨xs, q⟩ := x9
  rename _ ∧ _ ∧ _ ∧ _ => hgx
  obtain ⟨b1, b2, b3, b4⟩ := hgx
  dsimp only at b1 b2 b3 b4
  have hxl := usedM_len xs q
  have hal := usedM_len xs 0
  have hxa := usedM_asc xs q
  have haa := usedM_asc xs 0
  have hsub := fun t => @usedM_sub xs q t
  repeat' (first | (refine qwd fun K hk => ?_; simp only [lvY20_7, mkT, go_sem, Nat.reduceEqDiff, Nat.reduceAdd, Nat.reduceLeDiff, Nat.reduceLT, Nat.reduceSub, Int.reduceToNat, ↓reduceIte, reduceCtorEq, exl, ex_unit9, true_and, encPs_iff, strs_iff, gdX, decide_true, Bool.not_true, strs_length]; apply hk; clear hk K) | apply qw8 | apply qw1 | refine qwc lvY20_7 ?_ | apply qt1 | apply qw5 | apply qw2 | apply qw9 | apply qt2 | apply qt3 | apply qt4 | apply qt5 | apply qt6 | apply qw3 | apply qw4 | apply qj1 | apply qj2 | apply qj3 | apply qj4 | apply qj5 | apply qu1 | apply qu2 | ((first | apply qa1 | apply qa2 | apply qa3 | apply qh1 | apply qh2); intro K hk; simp only [go_sem, Nat.reduceEqDiff, Nat.reduceAdd, Nat.reduceLeDiff, Nat.reduceLT, Nat.reduceSub, Int.reduceToNat, ↓reduceIte, reduceCtorEq, exl, ex_unit9, true_and, encPs_iff, strs_iff, gdX, decide_true, Bool.not_true, strs_length]; (repeat (refine And.intro ?_ ?_; focus (first | omega | assumption | with_reducible rfl | (simp only [go_sem, Nat.reduceEqDiff, Nat.reduceAdd, Nat.reduceLeDiff, Nat.reduceLT, Nat.reduceSub, Int.reduceToNat, ↓reduceIte, reduceCtorEq, exl, ex_unit9, true_and, encPs_iff, strs_iff, gdX, decide_true, Bool.not_true, strs_length]; done)))); intros; apply hk; clear hk K) | ((first | apply qg1 rfl | apply qcd); focus (simp only [go_sem, Nat.reduceEqDiff, Nat.reduceAdd, Nat.reduceLeDiff, Nat.reduceLT, Nat.reduceSub, Int.reduceToNat, ↓reduceIte, reduceCtorEq, exl, ex_unit9, true_and, encPs_iff, strs_iff, gdX, decide_true, Bool.not_true, strs_length]; exact rfl)) | (refine qj6 ?_ ?_ <;> intro hc <;> (try simp only [hc]) <;> (try simp only [decide_eq_true_eq, decide_eq_false_iff_not, Bool.not_eq_true', Bool.not_eq_false', Bool.not_eq_true, reduceCtorEq] at hc) <;> (try (exfalso; omega))) | (refine qt7 ?_ ?_; focus decide) | (refine qw7 ?_ ?_ ?_; (focus (decide +kernel)); (focus (decide +kernel))))
  generalize usedM xs q = x at *
  generalize usedM xs 0 = a at *
  have hgx := strK_get x
  have hga := strK_get a
  refine s_loop (ι := Nat × Nat) (fun i => [(5, .seq (strs x)), (6, .seq (strs a)), (7, .int .i64 i.2), (8, .int .i64 i.1)]) (fun _ => []) 0 (fun i => i.1 ≤ x.length ∧ i.2 ≤ a.length ∧ ∀ y, x[i.1]? = some y → ∀ z ∈ a.take i.2, z < y) (fun i => x.length - i.1) (0, 0) (by omega) ⟨Nat.zero_le _, Nat.zero_le _, by simp⟩ ?_ ?_
  · simp [fits, fitsT, fitsM, upd_def, PV.nmb, nmbL, MB.nmb, List.getD_cons_zero, List.getD_cons_succ]
  rintro ⟨k, at0⟩ ⟨hk, hat, hbe⟩
  dsimp only at hk hat hbe
  simp only [mkS, mkT, mkM]
  by_cases hkl : k < x.length
  · obtain ⟨y, hy⟩ := get_some (xs := x) (k := k) hkl
    have hbe := hbe y hy
    have hya := hsub y (List.mem_of_getElem? hy)
    repeat' (first | (refine qwd fun K hk => ?_; simp only [lvY20_7, mkT, go_sem, Nat.reduceEqDiff, Nat.reduceAdd, Nat.reduceLeDiff, Nat.reduceLT, Nat.reduceSub, Int.reduceToNat, ↓reduceIte, reduceCtorEq, strs_length]; apply hk; clear hk K) | apply qw8 | apply qw1 | refine qwc lvY20_7 ?_ | apply qt1 | apply qw5 | apply qw2 | apply qw9 | apply qt2 | apply qt3 | apply qt4 | apply qt5 | apply qt6 | apply qw3 | apply qw4 | apply qj1 | apply qj2 | apply qj3 | apply qj4 | apply qj5 | apply qu1 | apply qu2 | ((first | apply qa1 | apply qa2 | apply qa3 | apply qh1 | apply qh2); intro K hk; simp only [go_sem, Nat.reduceEqDiff, Nat.reduceAdd, Nat.reduceLeDiff, Nat.reduceLT, Nat.reduceSub, Int.reduceToNat, ↓reduceIte, reduceCtorEq, strs_length]; (repeat (refine And.intro ?_ ?_; focus (first | omega | assumption | with_reducible rfl | (simp only [go_sem, Nat.reduceEqDiff, Nat.reduceAdd, Nat.reduceLeDiff, Nat.reduceLT, Nat.reduceSub, Int.reduceToNat, ↓reduceIte, reduceCtorEq, strs_length]; done)))); intros; apply hk; clear hk K) | ((first | apply qg1 rfl | apply qcd); focus (simp only [go_sem, Nat.reduceEqDiff, Nat.reduceAdd, Nat.reduceLeDiff, Nat.reduceLT, Nat.reduceSub, Int.reduceToNat, ↓reduceIte, reduceCtorEq, strs_length]; exact rfl)) | (refine qj6 ?_ ?_ <;> intro hc <;> (try simp only [hc]) <;> (try simp only [decide_eq_true_eq, decide_eq_false_iff_not, Bool.not_eq_true', Bool.not_eq_false', Bool.not_eq_true, reduceCtorEq] at hc) <;> (try (exfalso; omega))) | (refine qt7 ?_ ?_; focus decide) | (refine qw7 ?_ ?_ ?_; (focus (decide +kernel)); (focus (decide +kernel))))
    refine s_loop (ι := Nat) (fun j => [(5, .seq (strs x)), (6, .seq (strs a)), (7, .int .i64 j), (8, .int .i64 k)]) (fun _ => []) 0 (fun j => j ≤ a.length ∧ ∀ z ∈ a.take j, z < y) (fun j => a.length - j) at0 (by omega) ⟨hat, hbe⟩ ?_ ?_
    · simp [fits, fitsT, fitsM, upd_def, PV.nmb, nmbL, MB.nmb, List.getD_cons_zero, List.getD_cons_succ]
    rintro j ⟨hj, hjb⟩
    simp only [mkS, mkT, mkM]
    by_cases hz : ∃ z, a[j]? = some z ∧ z < y
    · obtain ⟨z, hz1, hz2⟩ := hz
      have hjl : j < a.length := (List.getElem?_eq_some_iff.1 hz1).1
      repeat' (first | (refine qwd fun K hk => ?_; simp only [lvY20_7, mkT, go_sem, Nat.reduceEqDiff, Nat.reduceAdd, Nat.reduceLeDiff, Nat.reduceLT, Nat.reduceSub, Int.reduceToNat, ↓reduceIte, reduceCtorEq, strs_length, hgx, hga, hy, hz1, Option.map_some, bl26, eq_true hz2, decide_true]; apply hk; clear hk K) | apply qw8 | apply qw1 | refine qwc lvY20_7 ?_ | apply qt1 | apply qw5 | apply qw2 | apply qw9 | apply qt2 | apply qt3 | apply qt4 | apply qt5 | apply qt6 | apply qw3 | apply qw4 | apply qj1 | apply qj2 | apply qj3 | apply qj4 | apply qj5 | apply qu1 | apply qu2 | ((first | apply qa1 | apply qa2 | apply qa3 | apply qh1 | apply qh2); intro K hk; simp only [go_sem, Nat.reduceEqDiff, Nat.reduceAdd, Nat.reduceLeDiff, Nat.reduceLT, Nat.reduceSub, Int.reduceToNat, ↓reduceIte, reduceCtorEq, strs_length, hgx, hga, hy, hz1, Option.map_some, bl26, eq_true hz2, decide_true]; (repeat (refine And.intro ?_ ?_; focus (first | omega | assumption | with_reducible rfl | (simp only [go_sem, Nat.reduceEqDiff, Nat.reduceAdd, Nat.reduceLeDiff, Nat.reduceLT, Nat.reduceSub, Int.reduceToNat, ↓reduceIte, reduceCtorEq, strs_length, hgx, hga, hy, hz1, Option.map_some, bl26, eq_true hz2, decide_true]; done)))); intros; apply hk; clear hk K) | ((first | apply qg1 rfl | apply qcd); focus (simp only [go_sem, Nat.reduceEqDiff, Nat.reduceAdd, Nat.reduceLeDiff, Nat.reduceLT, Nat.reduceSub, Int.reduceToNat, ↓reduceIte, reduceCtorEq, strs_length, hgx, hga, hy, hz1, Option.map_some, bl26, eq_true hz2, decide_true]; exact rfl)) | (refine qj6 ?_ ?_ <;> intro hc <;> (try simp only [hc]) <;> (try simp only [decide_eq_true_eq, decide_eq_false_iff_not, Bool.not_eq_true', Bool.not_eq_false', Bool.not_eq_true, reduceCtorEq] at hc) <;> (try (exfalso; omega))) | (refine qt7 ?_ ?_; focus decide) | (refine qw7 ?_ ?_ ?_; (focus (decide +kernel)); (focus (decide +kernel))))
      refine s_again (j + 1) ?_ ?_ ?_ <;> (first | omega | (dsimp only; omega) | skip)
      · refine ⟨by omega, ?_⟩
        rw [take_snoc' hz1]
        intro u hu
        rcases List.mem_append.1 hu with hu | hu
        · exact hjb u hu
        · rw [List.mem_singleton] at hu; subst hu; exact hz2
      · simp [fits, fitsT, fitsM, upd_def, PV.nmb, nmbL, MB.nmb, List.getD_cons_zero, List.getD_cons_succ]
    · have hhit := at_hit haa hya hjb (fun z h1 h2 => hz ⟨z, h1, h2⟩)
      have hjl : j < a.length := (List.getElem?_eq_some_iff.1 hhit).1
      have hirr := eq_false (bs_irr y)
      cases k with
      | zero =>
        have h00 : ((0 : Nat) : Int) = 0 := rfl
        repeat' (first | (refine qwd fun K hk => ?_; simp only [lvY20_7, mkT, go_sem, Nat.reduceEqDiff, Nat.reduceAdd, Nat.reduceLeDiff, Nat.reduceLT, Nat.reduceSub, Int.reduceToNat, ↓reduceIte, reduceCtorEq, strs_length, hgx, hga, hy, hhit, Option.map_some, bl26, hirr, h00, bne_self_eq_false, decide_true, decide_false, Bool.not_false, Bool.not_true, Int.reduceLT]; apply hk; clear hk K) | apply qw8 | apply qw1 | refine qwc lvY20_7 ?_ | apply qt1 | apply qw5 | apply qw2 | apply qw9 | apply qt2 | apply qt3 | apply qt4 | apply qt5 | apply qt6 | apply qw3 | apply qw4 | apply qj1 | apply qj2 | apply qj3 | apply qj4 | apply qj5 | apply qu1 | apply qu2 | ((first | apply qa1 | apply qa2 | apply qa3 | apply qh1 | apply qh2); intro K hk; simp only [go_sem, Nat.reduceEqDiff, Nat.reduceAdd, Nat.reduceLeDiff, Nat.reduceLT, Nat.reduceSub, Int.reduceToNat, ↓reduceIte, reduceCtorEq, strs_length, hgx, hga, hy, hhit, Option.map_some, bl26, hirr, h00, bne_self_eq_false, decide_true, decide_false, Bool.not_false, Bool.not_true, Int.reduceLT]; (repeat (refine And.intro ?_ ?_; focus (first | omega | assumption | with_reducible rfl | (simp only [go_sem, Nat.reduceEqDiff, Nat.reduceAdd, Nat.reduceLeDiff, Nat.reduceLT, Nat.reduceSub, Int.reduceToNat, ↓reduceIte, reduceCtorEq, strs_length, hgx, hga, hy, hhit, Option.map_some, bl26, hirr, h00, bne_self_eq_false, decide_true, decide_false, Bool.not_false, Bool.not_true, Int.reduceLT]; done)))); intros; apply hk; clear hk K) | ((first | apply qg1 rfl | apply qcd); focus (simp only [go_sem, Nat.reduceEqDiff, Nat.reduceAdd, Nat.reduceLeDiff, Nat.reduceLT, Nat.reduceSub, Int.reduceToNat, ↓reduceIte, reduceCtorEq, strs_length, hgx, hga, hy, hhit, Option.map_some, bl26, hirr, h00, bne_self_eq_false, decide_true, decide_false, Bool.not_false, Bool.not_true, Int.reduceLT]; exact rfl)) | (refine qj6 ?_ ?_ <;> intro hc <;> (try simp only [hc]) <;> (try simp only [decide_eq_true_eq, decide_eq_false_iff_not, Bool.not_eq_true', Bool.not_eq_false', Bool.not_eq_true, reduceCtorEq] at hc) <;> (try (exfalso; omega))) | (refine qt7 ?_ ?_; focus decide) | (refine qw7 ?_ ?_ ?_; (focus (decide +kernel)); (focus (decide +kernel))))
        refine s_again ((0 + 1, j)) ?_ ?_ ?_ <;> (first | omega | (dsimp only; omega) | skip)
        · refine ⟨by dsimp only; omega, by dsimp only; omega, fun y' hy' z hz' => bs_trans (hjb z hz') (asc_next hxa hy hy')⟩
        · simp [fits, fitsT, fitsM, upd_def, PV.nmb, nmbL, MB.nmb, List.getD_cons_zero, List.getD_cons_succ]
      | succ k =>
        obtain ⟨p, hp⟩ := get_some (xs := x) (k := k) (by omega)
        have hpy := asc_next hxa hp hy
        have n1 : ((k + 1 : Nat) : Int) - 1 = (k : Int) := by omega
        have hne : ¬ y = p := by rintro rfl; exact bs_irr _ hpy
        repeat' (first | (refine qwd fun K hk => ?_; simp only [lvY20_7, mkT, go_sem, Nat.reduceEqDiff, Nat.reduceAdd, Nat.reduceLeDiff, Nat.reduceLT, Nat.reduceSub, Int.reduceToNat, ↓reduceIte, reduceCtorEq, strs_length, hgx, hga, hy, hp, hhit, n1, Option.map_some, bl26, hirr, eq_true hpy, eq_false (bs_asymm hpy), eq_false hne, bne_self_eq_false, decide_true, decide_false, Bool.not_false, Bool.not_true, Bool.or_false, Int.toNat_natCast]; apply hk; clear hk K) | apply qw8 | apply qw1 | refine qwc lvY20_7 ?_ | apply qt1 | apply qw5 | apply qw2 | apply qw9 | apply qt2 | apply qt3 | apply qt4 | apply qt5 | apply qt6 | apply qw3 | apply qw4 | apply qj1 | apply qj2 | apply qj3 | apply qj4 | apply qj5 | apply qu1 | apply qu2 | ((first | apply qa1 | apply qa2 | apply qa3 | apply qh1 | apply qh2); intro K hk; simp only [go_sem, Nat.reduceEqDiff, Nat.reduceAdd, Nat.reduceLeDiff, Nat.reduceLT, Nat.reduceSub, Int.reduceToNat, ↓reduceIte, reduceCtorEq, strs_length, hgx, hga, hy, hp, hhit, n1, Option.map_some, bl26, hirr, eq_true hpy, eq_false (bs_asymm hpy), eq_false hne, bne_self_eq_false, decide_true, decide_false, Bool.not_false, Bool.not_true, Bool.or_false, Int.toNat_natCast]; (repeat (refine And.intro ?_ ?_; focus (first | omega | assumption | with_reducible rfl | (simp only [go_sem, Nat.reduceEqDiff, Nat.reduceAdd, Nat.reduceLeDiff, Nat.reduceLT, Nat.reduceSub, Int.reduceToNat, ↓reduceIte, reduceCtorEq, strs_length, hgx, hga, hy, hp, hhit, n1, Option.map_some, bl26, hirr, eq_true hpy, eq_false (bs_asymm hpy), eq_false hne, bne_self_eq_false, decide_true, decide_false, Bool.not_false, Bool.not_true, Bool.or_false, Int.toNat_natCast]; done)))); intros; apply hk; clear hk K) | ((first | apply qg1 rfl | apply qcd); focus (simp only [go_sem, Nat.reduceEqDiff, Nat.reduceAdd, Nat.reduceLeDiff, Nat.reduceLT, Nat.reduceSub, Int.reduceToNat, ↓reduceIte, reduceCtorEq, strs_length, hgx, hga, hy, hp, hhit, n1, Option.map_some, bl26, hirr, eq_true hpy, eq_false (bs_asymm hpy), eq_false hne, bne_self_eq_false, decide_true, decide_false, Bool.not_false, Bool.not_true, Bool.or_false, Int.toNat_natCast]; exact rfl)) | (refine qj6 ?_ ?_ <;> intro hc <;> (try simp only [hc]) <;> (try simp only [decide_eq_true_eq, decide_eq_false_iff_not, Bool.not_eq_true', Bool.not_eq_false', Bool.not_eq_true, reduceCtorEq] at hc) <;> (try (exfalso; omega))) | (refine qt7 ?_ ?_; focus decide) | (refine qw7 ?_ ?_ ?_; (focus (decide +kernel)); (focus (decide +kernel))))
        refine s_again ((k + 1 + 1, j)) ?_ ?_ ?_ <;> (first | omega | (dsimp only; omega) | skip)
        · refine ⟨by dsimp only; omega, by dsimp only; omega, fun y' hy' z hz' => bs_trans (hjb z hz') (asc_next hxa hy hy')⟩
        · simp [fits, fitsT, fitsM, upd_def, PV.nmb, nmbL, MB.nmb, List.getD_cons_zero, List.getD_cons_succ]
  · obtain rfl : k = x.length := by omega
    repeat' (first | (refine qwd fun K hk => ?_; simp only [lvY20_7, mkT, go_sem, Nat.reduceEqDiff, Nat.reduceAdd, Nat.reduceLeDiff, Nat.reduceLT, Nat.reduceSub, Int.reduceToNat, ↓reduceIte, reduceCtorEq, ex_unit9, true_and, strs_length]; apply hk; clear hk K) | apply qw8 | apply qw1 | refine qwc lvY20_7 ?_ | apply qt1 | apply qw5 | apply qw2 | apply qw9 | apply qt2 | apply qt3 | apply qt4 | apply qt5 | apply qt6 | apply qw3 | apply qw4 | apply qj1 | apply qj2 | apply qj3 | apply qj4 | apply qj5 | apply qu1 | apply qu2 | ((first | apply qa1 | apply qa2 | apply qa3 | apply qh1 | apply qh2); intro K hk; simp only [go_sem, Nat.reduceEqDiff, Nat.reduceAdd, Nat.reduceLeDiff, Nat.reduceLT, Nat.reduceSub, Int.reduceToNat, ↓reduceIte, reduceCtorEq, ex_unit9, true_and, strs_length]; (repeat (refine And.intro ?_ ?_; focus (first | omega | assumption | with_reducible rfl | (simp only [go_sem, Nat.reduceEqDiff, Nat.reduceAdd, Nat.reduceLeDiff, Nat.reduceLT, Nat.reduceSub, Int.reduceToNat, ↓reduceIte, reduceCtorEq, ex_unit9, true_and, strs_length]; done)))); intros; apply hk; clear hk K) | ((first | apply qg1 rfl | apply qcd); focus (simp only [go_sem, Nat.reduceEqDiff, Nat.reduceAdd, Nat.reduceLeDiff, Nat.reduceLT, Nat.reduceSub, Int.reduceToNat, ↓reduceIte, reduceCtorEq, ex_unit9, true_and, strs_length]; exact rfl)) | (refine qj6 ?_ ?_ <;> intro hc <;> (try simp only [hc]) <;> (try simp only [decide_eq_true_eq, decide_eq_false_iff_not, Bool.not_eq_true', Bool.not_eq_false', Bool.not_eq_true, reduceCtorEq] at hc) <;> (try (exfalso; omega))) | (refine qt7 ?_ ?_; focus decide) | (refine qw7 ?_ ?_ ?_; (focus (decide +kernel)); (focus (decide +kernel))))
    ((first | refine fin_ret ?_ | refine fin_end ?_); simp only [go_sem, ↓upd_def, Nat.reduceEqDiff, Nat.reduceAdd, ↓reduceIte, reduceCtorEq])
    exact hK
end Go.Proofs.Ytoocbpendccngaa
