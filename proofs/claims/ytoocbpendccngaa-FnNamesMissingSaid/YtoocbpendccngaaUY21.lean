/- The law's walk over drawn parts and data: NamesMissing. -/
import Derived.Test.YtoocbpendccngaaUX31
import Derived.Test.YtoocbpendccngaaUR12
import Derived.Test.YtoocbpendccngaaUY9

namespace Go.Proofs.Ytoocbpendccngaa
attribute [local irreducible] awp arun acalm FinP Fin AX.then AX.inBlock Again aG gsel amix amixN amixC aop aopc aopd cutK
attribute [local go_sem] aBSliceD aSlice aSliceC boundOf aMk aCall aCallC aLenL aLen aPick_t aPick_f aNil aAlloc aBox aBuild bldPV aBSlice bsPV aApp newsOf destOf drp aConvX aConv aConvInt aLoad cellsAt aStore cellsPV setAt aFld aField aIdx aIndex aUn aBin' aBin aMax aExtract pvOf PV.isCell nmbL PV.nmb List.map_cons List.map_nil List.all_cons List.all_nil Bool.and_true Bool.true_and if_true if_false List.getD_cons_zero List.getD_cons_succ List.getD_nil Option.isSome_some true_and and_true and_self eq_self true_or or_true List.drop_zero List.drop_succ_cons List.drop_nil List.take_zero List.take_succ_cons List.take_nil List.length_cons List.length_nil List.length_map Option.getD_some Option.getD_none List.nil_append List.cons_append List.append_nil Option.some.injEq exists_eq_left' List.getElem?_cons_zero List.getElem?_cons_succ Int.toNat_natCast Int.natCast_inj toNat_succ Nat.zero_add res res1 resC owns owns1 ownsC List.flatMap_cons List.flatMap_nil List.flatten_cons List.flatten_nil List.mem_cons List.not_mem_nil or_false false_or forall_eq forall_eq_or_imp isFro frz frz1 pureC tabA isBld List.cons.injEq PV.seq.injEq PV.int.injEq PV.str.injEq PV.bool.injEq PV.agg.injEq inR tab Γof aRes packR Option.map_some Option.map_none rel Prod.exists exists_and_left exists_eq_left and_assoc beq_self_eq_true Bool.not_true Bool.not_false decide_true decide_false List.set_cons_zero List.set_cons_succ rst_nil rst_cons
attribute [local go_sem ↓] evT upd_def aop aopc aopd
set_option maxRecDepth 100000
set_option linter.unusedVariables false
set_option linter.unusedSimpArgs false
open Go.RowKit
def lvY21_11 : Nat → List Nat
  | 0 => [0]
  | 1 => [0, 12]
  | 2 => [2]
  | 3 => [3, 4]
  | 4 => [3, 4, 5]
  | 5 => [3, 4, 5, 26]
  | 6 => [2]
  | 7 => [3, 4, 5, 6]
  | 8 => [3, 4, 5, 6, 7]
  | 9 => [3, 4, 5, 6, 7, 33]
  | 10 => [3, 4, 5, 6, 7]
  | 11 => [3, 4, 5, 6, 7, 9]
  | 12 => [3, 4, 5, 6, 7, 45]
  | 13 => [2]
  | 14 => [3, 4, 5, 6, 7]
  | 15 => [2]
  | _ => []
def lvY21_24 : Nat → List Nat
  | 0 => [0, 1]
  | 1 => [0, 1, 10]
  | 2 => [4]
  | 3 => [0, 1, 5]
  | 4 => [0, 1, 5, 14]
  | 5 => [0, 1, 5]
  | 6 => [0, 1, 5, 25]
  | 7 => [4]
  | 8 => [4]
  | _ => []
--LV=Y21
@[go_sem] def stxE : PC := rel (α := List Bs × List Bs) (fun x => [.seq (strs x.1), .seq (strs x.2)]) (fun x => x.1.length ≤ 9223372036854775807 ∧ x.2.length ≤ 9223372036854775807) (fun x => .bool (decide (x.1 = x.2)))
theorem stx_ok21 : PureOk Try.prog 24 stxE := by
  refine pure_rel 2 tab_nil mixed [.tmp 4] Try.func24 rfl rfl (by kernel_rfl) (by kernel_rfl) (fun _ => rfl) (by kernel_rfl) ?_
  rintro ⟨a, b⟩ K ⟨ha, hb⟩ hK
  dsimp only at *
  have hga := strK_get a
  have hgb := strK_get b
  unfold entry
  by_cases hlen : a.length = b.length
  · repeat' (first | (refine qwd fun K hk => ?_; simp only [lvY21_24, mkT, go_sem, Nat.reduceEqDiff, Nat.reduceAdd, Nat.reduceLeDiff, Nat.reduceLT, Nat.reduceSub, Int.reduceToNat, ↓reduceIte, reduceCtorEq, strs_length, hlen, decide_true, Bool.not_true]; apply hk; clear hk K) | apply qw8 | apply qw1 | refine qwc lvY21_24 ?_ | apply qt1 | apply qw5 | apply qw2 | apply qw9 | apply qt2 | apply qt3 | apply qt4 | apply qt5 | apply qt6 | apply qw3 | apply qw4 | apply qj1 | apply qj2 | apply qj3 | apply qj4 | apply qj5 | apply qu1 | apply qu2 | ((first | apply qa1 | apply qa2 | apply qa3 | apply qh1 | apply qh2); intro K hk; simp only [go_sem, Nat.reduceEqDiff, Nat.reduceAdd, Nat.reduceLeDiff, Nat.reduceLT, Nat.reduceSub, Int.reduceToNat, ↓reduceIte, reduceCtorEq, strs_length, hlen, decide_true, Bool.not_true]; (repeat (refine And.intro ?_ ?_; focus (first | omega | assumption | with_reducible rfl | (simp only [go_sem, Nat.reduceEqDiff, Nat.reduceAdd, Nat.reduceLeDiff, Nat.reduceLT, Nat.reduceSub, Int.reduceToNat, ↓reduceIte, reduceCtorEq, strs_length, hlen, decide_true, Bool.not_true]; done)))); intros; apply hk; clear hk K) | ((first | apply qg1 rfl | apply qcd); focus (simp only [go_sem, Nat.reduceEqDiff, Nat.reduceAdd, Nat.reduceLeDiff, Nat.reduceLT, Nat.reduceSub, Int.reduceToNat, ↓reduceIte, reduceCtorEq, strs_length, hlen, decide_true, Bool.not_true]; exact rfl)) | (refine qj6 ?_ ?_ <;> intro hc <;> (try simp only [hc]) <;> (try simp only [decide_eq_true_eq, decide_eq_false_iff_not, Bool.not_eq_true', Bool.not_eq_false', Bool.not_eq_true, reduceCtorEq] at hc) <;> (try (exfalso; omega))) | (refine qt7 ?_ ?_; focus decide) | (refine qw7 ?_ ?_ ?_; (focus (decide +kernel)); (focus (decide +kernel))))
    refine s_loop (ι := Nat) (fun k => [(0, .seq (strs a)), (1, .seq (strs b)), (5, .int .i64 k)]) (fun _ => []) 0 (fun k => k ≤ a.length ∧ a.take k = b.take k) (fun k => a.length - k) 0 (by omega) ⟨Nat.zero_le _, rfl⟩ ?_ ?_
    · simp [fits, fitsT, fitsM, upd_def, PV.nmb, nmbL, MB.nmb, List.getD_cons_zero, List.getD_cons_succ]
    rintro k ⟨hk, ht⟩
    simp only [mkS, mkT, mkM]
    by_cases hkl : k < a.length
    · obtain ⟨x, hx⟩ := get_some (xs := a) (k := k) hkl
      obtain ⟨y, hy⟩ := get_some (xs := b) (k := k) (by omega)
      by_cases hxy : x = y
      · subst hxy
        repeat' (first | (refine qwd fun K hk => ?_; simp only [lvY21_24, mkT, go_sem, Nat.reduceEqDiff, Nat.reduceAdd, Nat.reduceLeDiff, Nat.reduceLT, Nat.reduceSub, Int.reduceToNat, ↓reduceIte, reduceCtorEq, strs_length, hga, hgb, hx, hy, Option.map_some, hlen, bne_self_eq_false, decide_true, Bool.not_true]; apply hk; clear hk K) | apply qw8 | apply qw1 | refine qwc lvY21_24 ?_ | apply qt1 | apply qw5 | apply qw2 | apply qw9 | apply qt2 | apply qt3 | apply qt4 | apply qt5 | apply qt6 | apply qw3 | apply qw4 | apply qj1 | apply qj2 | apply qj3 | apply qj4 | apply qj5 | apply qu1 | apply qu2 | ((first | apply qa1 | apply qa2 | apply qa3 | apply qh1 | apply qh2); intro K hk; simp only [go_sem, Nat.reduceEqDiff, Nat.reduceAdd, Nat.reduceLeDiff, Nat.reduceLT, Nat.reduceSub, Int.reduceToNat, ↓reduceIte, reduceCtorEq, strs_length, hga, hgb, hx, hy, Option.map_some, hlen, bne_self_eq_false, decide_true, Bool.not_true]; (repeat (refine And.intro ?_ ?_; focus (first | omega | assumption | with_reducible rfl | (simp only [go_sem, Nat.reduceEqDiff, Nat.reduceAdd, Nat.reduceLeDiff, Nat.reduceLT, Nat.reduceSub, Int.reduceToNat, ↓reduceIte, reduceCtorEq, strs_length, hga, hgb, hx, hy, Option.map_some, hlen, bne_self_eq_false, decide_true, Bool.not_true]; done)))); intros; apply hk; clear hk K) | ((first | apply qg1 rfl | apply qcd); focus (simp only [go_sem, Nat.reduceEqDiff, Nat.reduceAdd, Nat.reduceLeDiff, Nat.reduceLT, Nat.reduceSub, Int.reduceToNat, ↓reduceIte, reduceCtorEq, strs_length, hga, hgb, hx, hy, Option.map_some, hlen, bne_self_eq_false, decide_true, Bool.not_true]; exact rfl)) | (refine qj6 ?_ ?_ <;> intro hc <;> (try simp only [hc]) <;> (try simp only [decide_eq_true_eq, decide_eq_false_iff_not, Bool.not_eq_true', Bool.not_eq_false', Bool.not_eq_true, reduceCtorEq] at hc) <;> (try (exfalso; omega))) | (refine qt7 ?_ ?_; focus decide) | (refine qw7 ?_ ?_ ?_; (focus (decide +kernel)); (focus (decide +kernel))))
        refine s_again (k + 1) ?_ ?_ ?_ <;> (first | omega | (dsimp only; omega) | skip)
        · refine ⟨by omega, ?_⟩
          rw [take_snoc' hx, take_snoc' hy, ht]
        · simp [fits, fitsT, fitsM, upd_def, PV.nmb, nmbL, MB.nmb, List.getD_cons_zero, List.getD_cons_succ]
      · repeat' (first | (refine qwd fun K hk => ?_; simp only [lvY21_24, mkT, go_sem, Nat.reduceEqDiff, Nat.reduceAdd, Nat.reduceLeDiff, Nat.reduceLT, Nat.reduceSub, Int.reduceToNat, ↓reduceIte, reduceCtorEq, strs_length, hga, hgb, hx, hy, Option.map_some, hlen, hxy, decide_false, Bool.not_false]; apply hk; clear hk K) | apply qw8 | apply qw1 | refine qwc lvY21_24 ?_ | apply qt1 | apply qw5 | apply qw2 | apply qw9 | apply qt2 | apply qt3 | apply qt4 | apply qt5 | apply qt6 | apply qw3 | apply qw4 | apply qj1 | apply qj2 | apply qj3 | apply qj4 | apply qj5 | apply qu1 | apply qu2 | ((first | apply qa1 | apply qa2 | apply qa3 | apply qh1 | apply qh2); intro K hk; simp only [go_sem, Nat.reduceEqDiff, Nat.reduceAdd, Nat.reduceLeDiff, Nat.reduceLT, Nat.reduceSub, Int.reduceToNat, ↓reduceIte, reduceCtorEq, strs_length, hga, hgb, hx, hy, Option.map_some, hlen, hxy, decide_false, Bool.not_false]; (repeat (refine And.intro ?_ ?_; focus (first | omega | assumption | with_reducible rfl | (simp only [go_sem, Nat.reduceEqDiff, Nat.reduceAdd, Nat.reduceLeDiff, Nat.reduceLT, Nat.reduceSub, Int.reduceToNat, ↓reduceIte, reduceCtorEq, strs_length, hga, hgb, hx, hy, Option.map_some, hlen, hxy, decide_false, Bool.not_false]; done)))); intros; apply hk; clear hk K) | ((first | apply qg1 rfl | apply qcd); focus (simp only [go_sem, Nat.reduceEqDiff, Nat.reduceAdd, Nat.reduceLeDiff, Nat.reduceLT, Nat.reduceSub, Int.reduceToNat, ↓reduceIte, reduceCtorEq, strs_length, hga, hgb, hx, hy, Option.map_some, hlen, hxy, decide_false, Bool.not_false]; exact rfl)) | (refine qj6 ?_ ?_ <;> intro hc <;> (try simp only [hc]) <;> (try simp only [decide_eq_true_eq, decide_eq_false_iff_not, Bool.not_eq_true', Bool.not_eq_false', Bool.not_eq_true, reduceCtorEq] at hc) <;> (try (exfalso; omega))) | (refine qt7 ?_ ?_; focus decide) | (refine qw7 ?_ ?_ ?_; (focus (decide +kernel)); (focus (decide +kernel))))
        ((first | refine fin_ret ?_ | refine fin_end ?_); simp only [go_sem, ↓upd_def, Nat.reduceEqDiff, Nat.reduceAdd, ↓reduceIte, reduceCtorEq])
        refine K_bool hK ?_
        rw [decide_eq_false]
        rintro rfl
        rw [hx] at hy
        simp only [Option.some.injEq] at hy
        exact hxy hy
    · obtain rfl : k = a.length := by omega
      repeat' (first | (refine qwd fun K hk => ?_; simp only [lvY21_24, mkT, go_sem, Nat.reduceEqDiff, Nat.reduceAdd, Nat.reduceLeDiff, Nat.reduceLT, Nat.reduceSub, Int.reduceToNat, ↓reduceIte, reduceCtorEq, strs_length, hlen]; apply hk; clear hk K) | apply qw8 | apply qw1 | refine qwc lvY21_24 ?_ | apply qt1 | apply qw5 | apply qw2 | apply qw9 | apply qt2 | apply qt3 | apply qt4 | apply qt5 | apply qt6 | apply qw3 | apply qw4 | apply qj1 | apply qj2 | apply qj3 | apply qj4 | apply qj5 | apply qu1 | apply qu2 | ((first | apply qa1 | apply qa2 | apply qa3 | apply qh1 | apply qh2); intro K hk; simp only [go_sem, Nat.reduceEqDiff, Nat.reduceAdd, Nat.reduceLeDiff, Nat.reduceLT, Nat.reduceSub, Int.reduceToNat, ↓reduceIte, reduceCtorEq, strs_length, hlen]; (repeat (refine And.intro ?_ ?_; focus (first | omega | assumption | with_reducible rfl | (simp only [go_sem, Nat.reduceEqDiff, Nat.reduceAdd, Nat.reduceLeDiff, Nat.reduceLT, Nat.reduceSub, Int.reduceToNat, ↓reduceIte, reduceCtorEq, strs_length, hlen]; done)))); intros; apply hk; clear hk K) | ((first | apply qg1 rfl | apply qcd); focus (simp only [go_sem, Nat.reduceEqDiff, Nat.reduceAdd, Nat.reduceLeDiff, Nat.reduceLT, Nat.reduceSub, Int.reduceToNat, ↓reduceIte, reduceCtorEq, strs_length, hlen]; exact rfl)) | (refine qj6 ?_ ?_ <;> intro hc <;> (try simp only [hc]) <;> (try simp only [decide_eq_true_eq, decide_eq_false_iff_not, Bool.not_eq_true', Bool.not_eq_false', Bool.not_eq_true, reduceCtorEq] at hc) <;> (try (exfalso; omega))) | (refine qt7 ?_ ?_; focus decide) | (refine qw7 ?_ ?_ ?_; (focus (decide +kernel)); (focus (decide +kernel))))
      ((first | refine fin_ret ?_ | refine fin_end ?_); simp only [go_sem, ↓upd_def, Nat.reduceEqDiff, Nat.reduceAdd, ↓reduceIte, reduceCtorEq])
      refine K_bool hK ?_
      rw [List.take_length, hlen, List.take_length] at ht
      rw [decide_eq_true ht]
  · repeat' (first | (refine qwd fun K hk => ?_; simp only [lvY21_24, mkT, go_sem, Nat.reduceEqDiff, Nat.reduceAdd, Nat.reduceLeDiff, Nat.reduceLT, Nat.reduceSub, Int.reduceToNat, ↓reduceIte, reduceCtorEq, strs_length, hlen, decide_false, Bool.not_false]; apply hk; clear hk K) | apply qw8 | apply qw1 | refine qwc lvY21_24 ?_ | apply qt1 | apply qw5 | apply qw2 | apply qw9 | apply qt2 | apply qt3 | apply qt4 | apply qt5 | apply qt6 | apply qw3 | apply qw4 | apply qj1 | apply qj2 | apply qj3 | apply qj4 | apply qj5 | apply qu1 | apply qu2 | ((first | apply qa1 | apply qa2 | apply qa3 | apply qh1 | apply qh2); intro K hk; simp only [go_sem, Nat.reduceEqDiff, Nat.reduceAdd, Nat.reduceLeDiff, Nat.reduceLT, Nat.reduceSub, Int.reduceToNat, ↓reduceIte, reduceCtorEq, strs_length, hlen, decide_false, Bool.not_false]; (repeat (refine And.intro ?_ ?_; focus (first | omega | assumption | with_reducible rfl | (simp only [go_sem, Nat.reduceEqDiff, Nat.reduceAdd, Nat.reduceLeDiff, Nat.reduceLT, Nat.reduceSub, Int.reduceToNat, ↓reduceIte, reduceCtorEq, strs_length, hlen, decide_false, Bool.not_false]; done)))); intros; apply hk; clear hk K) | ((first | apply qg1 rfl | apply qcd); focus (simp only [go_sem, Nat.reduceEqDiff, Nat.reduceAdd, Nat.reduceLeDiff, Nat.reduceLT, Nat.reduceSub, Int.reduceToNat, ↓reduceIte, reduceCtorEq, strs_length, hlen, decide_false, Bool.not_false]; exact rfl)) | (refine qj6 ?_ ?_ <;> intro hc <;> (try simp only [hc]) <;> (try simp only [decide_eq_true_eq, decide_eq_false_iff_not, Bool.not_eq_true', Bool.not_eq_false', Bool.not_eq_true, reduceCtorEq] at hc) <;> (try (exfalso; omega))) | (refine qt7 ?_ ?_; focus decide) | (refine qw7 ?_ ?_ ?_; (focus (decide +kernel)); (focus (decide +kernel))))
    ((first | refine fin_ret ?_ | refine fin_end ?_); simp only [go_sem, ↓upd_def, Nat.reduceEqDiff, Nat.reduceAdd, ↓reduceIte, reduceCtorEq])
    refine K_bool hK ?_
    rw [decide_eq_false]
    rintro rfl
    exact hlen rfl
/-- Fields for names. -/
def mk0 (l : List Bs) : List FieldD := l.map fun n => ⟨n, [], false, []⟩
theorem mk0_snoc {l : List Bs} {k : Nat} {t : Bs} (h : l[k]? = some t) : mk0 (l.take (k + 1)) = mk0 (l.take k) ++ [⟨t, [], false, []⟩] := by
  unfold mk0; rw [take_snoc' h, List.map_append]; rfl
theorem mk0_len (l : List Bs) : (mk0 l).length = l.length := by simp [mk0]
theorem hasF_app (a b : List FieldD) (n : Bs) : hasF (a ++ b) n = (hasF a n || hasF b n) := by unfold hasF; rw [List.any_append]
theorem hasF_mk0 {l : List Bs} {n : Bs} (h : n ∈ l) : hasF (mk0 l) n = true := by
  unfold hasF mk0
  rw [List.any_eq_true]
  exact ⟨⟨n, [], false, []⟩, List.mem_map.2 ⟨n, h, rfl⟩, by simp⟩
theorem miss_none {xs : List PartD} {data : List FieldD} {t : Bs} (h : t ∈ missM xs data) : (dataB data && hasF data t) = false := by
  rw [missM_used] at h
  split at h
  · unfold fltN at h
    have := (List.mem_filter.1 h).2
    simp only [Bool.and_eq_true, Bool.not_eq_true', decide_eq_false_iff_not] at this
    rw [this.1, Bool.and_false]
  · simp at h
theorem miss_all (xs : List PartD) (data : List FieldD) : missM xs (data ++ mk0 (missM xs data)) = [] := by
  rw [missM_used xs (data ++ _)]
  split
  · rename_i hd
    unfold fltN
    rw [List.filter_eq_nil_iff]
    intro t ht
    rw [hasF_app]
    by_cases h1 : hasF data t = true
    · simp [h1]
    by_cases h2 : t = itemN
    · simp [h2]
    have hm : t ∈ missM xs data := by
      rw [missM_used, if_pos ?_]
      · unfold fltN
        rw [List.mem_filter]
        exact ⟨ht, by simp [h1, h2]⟩
      · have := hd
        unfold dataB at this ⊢
        rw [datL_append] at this
        simp only [Bool.and_eq_true, decide_eq_true_eq, List.length_append] at this ⊢
        exact ⟨by omega, this.2.1⟩
    rw [hasF_mk0 hm]
    simp
  · rfl
theorem miss_len (xs : List PartD) (data : List FieldD) : (missM xs data).length ≤ wtL xs := by
  rw [missM_flt]
  split
  · exact Nat.le_trans (fltN_len _ _) (Nat.le_trans (usedL_len _) (nmL_len 0 xs))
  · simp
theorem miss_short {xs : List PartD} {data : List FieldD} {t : Bs} (h : t ∈ missM xs data) : t.length ≤ wtL xs := by
  rw [missM_flt] at h
  split at h
  · exact nm_short (List.mem_filter.1 h).1
  · simp at h
theorem bdFs_sm {d : List FieldD} (h : bdFs d) : smFs d := ⟨by have := h.1; omega, fun f hf => by
  obtain ⟨h1, h2, h3, h4⟩ := h.2 f hf
  exact ⟨by omega, by omega, by omega, fun t ht => by have := h4 t ht; omega⟩⟩
theorem mk0_sm {d : List FieldD} {xs : List PartD} (h : bdFs d) (hw : wtL xs ≤ 6000) : smFs (d ++ mk0 (missM xs d)) := by
  refine ⟨?_, ?_⟩
  · have := miss_len xs d
    rw [List.length_append, mk0_len]
    have := h.1
    omega
  · intro f hf
    rcases List.mem_append.1 hf with hf | hf
    · exact (bdFs_sm h).2 f hf
    · unfold mk0 at hf
      obtain ⟨t, ht, rfl⟩ := List.mem_map.1 hf
      have := miss_short ht
      exact ⟨by dsimp only; omega, by simp, by simp, by simp⟩
theorem drwNM : ACok Try.prog 51 (drwG (α := List PartD × List FieldD) (fun x => gdX x.1 ∧ bdFs x.2) (fun x => .tup [.seq (encPs x.1), .seq (encFs x.2)])) := drw_of (by
  refine ac_body 1 (tabA_cons drwFP (tabA_nil (Γof_ok tab_nil))) tab_nil mixed [.tmp 2, .tmp 3] Try.func51 rfl rfl (by kernel_rfl) (by kernel_rfl) ?_ (by kernel_rfl) ?_
  · intro args mem n K h
    obtain ⟨es, rfl, h⟩ := drw_args h
    rfl
  intro args mem n K h
  obtain ⟨es, rfl, ⟨l, rfl, hl⟩, hK⟩ := drw_args h
  have hba := bc_all l
  unfold entry
  repeat' (first | apply qw8 | apply qw1 | apply qw6 | apply qt1 | apply qw5 | apply qw2 | apply qw9 | apply qt2 | apply qt3 | apply qt4 | apply qt5 | apply qt6 | apply qw3 | apply qw4 | apply qj1 | apply qj2 | apply qj3 | apply qj4 | apply qj5 | apply qu1 | apply qu2 | ((first | apply qa1 | apply qa2 | apply qa3 | apply qh1 | apply qh2); intro K hk; simp only [go_sem, Nat.reduceEqDiff, Nat.reduceAdd, Nat.reduceLeDiff, Nat.reduceLT, Nat.reduceSub, Int.reduceToNat, ↓reduceIte, reduceCtorEq, exl, encPs_iff, encFs_iff]; (repeat (refine And.intro ?_ ?_; focus (first | omega | assumption | with_reducible rfl | (simp only [go_sem, Nat.reduceEqDiff, Nat.reduceAdd, Nat.reduceLeDiff, Nat.reduceLT, Nat.reduceSub, Int.reduceToNat, ↓reduceIte, reduceCtorEq, exl, encPs_iff, encFs_iff]; done)))); intros; apply hk; clear hk K) | ((first | apply qg1 rfl | apply qcd); focus (simp only [go_sem, Nat.reduceEqDiff, Nat.reduceAdd, Nat.reduceLeDiff, Nat.reduceLT, Nat.reduceSub, Int.reduceToNat, ↓reduceIte, reduceCtorEq, exl, encPs_iff, encFs_iff]; exact rfl)) | (refine qj6 ?_ ?_ <;> intro hc <;> (try simp only [hc]) <;> (try simp only [decide_eq_true_eq, decide_eq_false_iff_not, Bool.not_eq_true', Bool.not_eq_false', Bool.not_eq_true, reduceCtorEq] at hc) <;> (try (exfalso; omega))) | (refine qt7 ?_ ?_; focus decide) | (refine qw7 ?_ ?_ ?_; (focus (decide +kernel)); (focus (decide +kernel))))
  rename (List PartD × List FieldD) => x
  refine fin_retA ?_
  simp only [go_sem, ↓upd_def, Nat.reduceEqDiff, ↓reduceIte]
  refine hK x _ _ _ (by assumption) ?_ (by omega)
  simp [res, res1, resC, upd_def])
set_option maxHeartbeats 8000000 in
theorem FnNamesMissing_pure : PureOk Try.prog 11 (rel (α := Bs) (fun x => [.seq (x.map bc)]) (fun x => x.length ≤ 9223372036854775807) (fun _ => .bool true)) := by
  refine pure_relA 1 (tabA_cons drwNM (tabA_nil (Γof_ok (tab_cons mis_i (tab_cons mis_s (tab_cons stx_ok21 (tab_cons fo_i (tab_cons alive9 tab_nil)))))))) (tab_cons mis_i (tab_cons mis_s (tab_cons stx_ok21 (tab_cons fo_i (tab_cons alive9 tab_nil))))) mixed [.tmp 2] Try.func11 rfl rfl (by kernel_rfl) (by kernel_rfl) (fun _ => rfl) (by kernel_rfl) ?_
  rintro l0 K hl hK
  have hba := bc_all l0
  unfold entry
  repeat' (first | (refine qwd fun K hk => ?_; simp only [lvY21_11, mkT, go_sem, Nat.reduceEqDiff, Nat.reduceAdd, Nat.reduceLeDiff, Nat.reduceLT, Nat.reduceSub, Int.reduceToNat, ↓reduceIte, reduceCtorEq, exl, ex_unit9, true_and, encPs_iff, encFs_iff, strs_iff, gdX, decide_true, Bool.not_true, strs_length]; apply hk; clear hk K) | apply qw8 | apply qw1 | refine qwc lvY21_11 ?_ | apply qt1 | apply qw5 | apply qw2 | apply qw9 | apply qt2 | apply qt3 | apply qt4 | apply qt5 | apply qt6 | apply qw3 | apply qw4 | apply qj1 | apply qj2 | apply qj3 | apply qj4 | apply qj5 | apply qu1 | apply qu2 | ((first | apply qa1 | apply qa2 | apply qa3 | apply qh1 | apply qh2); intro K hk; simp only [go_sem, Nat.reduceEqDiff, Nat.reduceAdd, Nat.reduceLeDiff, Nat.reduceLT, Nat.reduceSub, Int.reduceToNat, ↓reduceIte, reduceCtorEq, exl, ex_unit9, true_and, encPs_iff, encFs_iff, strs_iff, gdX, decide_true, Bool.not_true, strs_length]; (repeat (refine And.intro ?_ ?_; focus (first | omega | assumption | with_reducible rfl | (simp only [go_sem, Nat.reduceEqDiff, Nat.reduceAdd, Nat.reduceLeDiff, Nat.reduceLT, Nat.reduceSub, Int.reduceToNat, ↓reduceIte, reduceCtorEq, exl, ex_unit9, true_and, encPs_iff, encFs_iff, strs_iff, gdX, decide_true, Bool.not_true, strs_length]; done)))); intros; apply hk; clear hk K) | ((first | apply qg1 rfl | apply qcd); focus (simp only [go_sem, Nat.reduceEqDiff, Nat.reduceAdd, Nat.reduceLeDiff, Nat.reduceLT, Nat.reduceSub, Int.reduceToNat, ↓reduceIte, reduceCtorEq, exl, ex_unit9, true_and, encPs_iff, encFs_iff, strs_iff, gdX, decide_true, Bool.not_true, strs_length]; exact rfl)) | (refine qj6 ?_ ?_ <;> intro hc <;> (try simp only [hc]) <;> (try simp only [decide_eq_true_eq, decide_eq_false_iff_not, Bool.not_eq_true', Bool.not_eq_false', Bool.not_eq_true, reduceCtorEq] at hc) <;> (try (exfalso; omega))) | (refine qt7 ?_ ?_; focus decide) | (refine qw7 ?_ ?_ ?_; (focus (decide +kernel)); (focus (decide +kernel))))
  · ((first | refine fin_ret ?_ | refine fin_end ?_); simp only [go_sem, ↓upd_def, Nat.reduceEqDiff, Nat.reduceAdd, ↓reduceIte, reduceCtorEq])
    exact hK
  rename (List PartD × List FieldD) => x9
  rename Nat => n9
  obtain ⟨xs, d⟩ := x9
  rename _ ∧ _ ∧ _ => hgx
  obtain ⟨b1, b2, b3⟩ := hgx
  dsimp only at b1 b2 b3
  have hsm := bdFs_sm b3
  have hd8 := b3.1
  have hxl := miss_len xs d
  have hms := fun t => @miss_short xs d t
  have hmn := fun t => @miss_none xs d t
  have hma := miss_all xs d
  have hsm2 := mk0_sm (xs := xs) b3 b1
  have hfl := encFs_length d
  have hfa := encFs_all d
  repeat' (first | (refine qwd fun K hk => ?_; simp only [lvY21_11, mkT, go_sem, Nat.reduceEqDiff, Nat.reduceAdd, Nat.reduceLeDiff, Nat.reduceLT, Nat.reduceSub, Int.reduceToNat, ↓reduceIte, reduceCtorEq, exl, ex_unit9, true_and, encPs_iff, encFs_iff, strs_iff, gdX, decide_true, Bool.not_true, strs_length, q_1, q_2, hfl, hfa, List.nil_append]; apply hk; clear hk K) | apply qw8 | apply qw1 | refine qwc lvY21_11 ?_ | apply qt1 | apply qw5 | apply qw2 | apply qw9 | apply qt2 | apply qt3 | apply qt4 | apply qt5 | apply qt6 | apply qw3 | apply qw4 | apply qj1 | apply qj2 | apply qj3 | apply qj4 | apply qj5 | apply qu1 | apply qu2 | ((first | apply qa1 | apply qa2 | apply qa3 | apply qh1 | apply qh2); intro K hk; simp only [go_sem, Nat.reduceEqDiff, Nat.reduceAdd, Nat.reduceLeDiff, Nat.reduceLT, Nat.reduceSub, Int.reduceToNat, ↓reduceIte, reduceCtorEq, exl, ex_unit9, true_and, encPs_iff, encFs_iff, strs_iff, gdX, decide_true, Bool.not_true, strs_length, q_1, q_2, hfl, hfa, List.nil_append]; (repeat (refine And.intro ?_ ?_; focus (first | omega | assumption | with_reducible rfl | (simp only [go_sem, Nat.reduceEqDiff, Nat.reduceAdd, Nat.reduceLeDiff, Nat.reduceLT, Nat.reduceSub, Int.reduceToNat, ↓reduceIte, reduceCtorEq, exl, ex_unit9, true_and, encPs_iff, encFs_iff, strs_iff, gdX, decide_true, Bool.not_true, strs_length, q_1, q_2, hfl, hfa, List.nil_append]; done)))); intros; apply hk; clear hk K) | ((first | apply qg1 rfl | apply qcd); focus (simp only [go_sem, Nat.reduceEqDiff, Nat.reduceAdd, Nat.reduceLeDiff, Nat.reduceLT, Nat.reduceSub, Int.reduceToNat, ↓reduceIte, reduceCtorEq, exl, ex_unit9, true_and, encPs_iff, encFs_iff, strs_iff, gdX, decide_true, Bool.not_true, strs_length, q_1, q_2, hfl, hfa, List.nil_append]; exact rfl)) | (refine qj6 ?_ ?_ <;> intro hc <;> (try simp only [hc]) <;> (try simp only [decide_eq_true_eq, decide_eq_false_iff_not, Bool.not_eq_true', Bool.not_eq_false', Bool.not_eq_true, reduceCtorEq] at hc) <;> (try (exfalso; omega))) | (refine qt7 ?_ ?_; focus decide) | (refine qw7 ?_ ?_ ?_; (focus (decide +kernel)); (focus (decide +kernel))))
  generalize missM xs d = x at *
  have hgx := strK_get x
  refine s_loopR (ι := Nat) (fun k => [(3, .seq (encPs xs)), (4, .seq (encFs d)), (5, .seq (strs x)), (6, .own 0), (7, .int .i64 k)]) (fun k => [(0, .row 67 4 (encFs (d ++ mk0 (x.take k))))]) 1 (fun k => k ≤ x.length) (fun k => x.length - k) 0 (fun _ => n9 + 1) (by omega) (Nat.zero_le _) (fun i hi => by omega) (fun i j hi hj _ => by omega) ?_ ?_ ?_
  · simp [fitsTR, fitsMR, PV.ren, renL, MB.ren, upd_def, PV.nmb, nmbL, MB.nmb, List.getD_cons_zero, List.getD_cons_succ, frz, drp]
  · simp [fitsTR, fitsMR, PV.ren, renL, MB.ren, upd_def, PV.nmb, nmbL, MB.nmb, List.getD_cons_zero, List.getD_cons_succ, frz, drp, mk0]
  intro k hk
  simp only [mkS, mkT, mkM]
  by_cases hkl : k < x.length
  · obtain ⟨t, ht⟩ := get_some (xs := x) (k := k) hkl
    have hmt := List.mem_of_getElem? ht
    have ht1 := hms t hmt
    have ht2 := hmn t hmt
    have hsn := mk0_snoc ht
    have hl1 : (encFs (d ++ mk0 (x.take k))).length ≤ 8 + x.length := by rw [encFs_length, List.length_append, mk0_len, List.length_take]; omega
    have ha1 := encFs_all (d ++ mk0 (x.take k))
    generalize hff : foF d t = f at *
    obtain ⟨fn, ft, fh, fi⟩ := f
    repeat' (first | (refine qwd fun K hk => ?_; simp only [lvY21_11, mkT, go_sem, Nat.reduceEqDiff, Nat.reduceAdd, Nat.reduceLeDiff, Nat.reduceLT, Nat.reduceSub, Int.reduceToNat, ↓reduceIte, reduceCtorEq, exl, ex_unit9, true_and, encPs_iff, encFs_iff, strs_iff, strs_length, hgx, ht, Option.map_some, encF_mk, hff, ht2, fs_p0, ha1]; apply hk; clear hk K) | apply qw8 | apply qw1 | refine qwc lvY21_11 ?_ | apply qt1 | apply qw5 | apply qw2 | apply qw9 | apply qt2 | apply qt3 | apply qt4 | apply qt5 | apply qt6 | apply qw3 | apply qw4 | apply qj1 | apply qj2 | apply qj3 | apply qj4 | apply qj5 | apply qu1 | apply qu2 | ((first | apply qa1 | apply qa2 | apply qa3 | apply qh1 | apply qh2); intro K hk; simp only [go_sem, Nat.reduceEqDiff, Nat.reduceAdd, Nat.reduceLeDiff, Nat.reduceLT, Nat.reduceSub, Int.reduceToNat, ↓reduceIte, reduceCtorEq, exl, ex_unit9, true_and, encPs_iff, encFs_iff, strs_iff, strs_length, hgx, ht, Option.map_some, encF_mk, hff, ht2, fs_p0, ha1]; (repeat (refine And.intro ?_ ?_; focus (first | omega | assumption | with_reducible rfl | (simp only [go_sem, Nat.reduceEqDiff, Nat.reduceAdd, Nat.reduceLeDiff, Nat.reduceLT, Nat.reduceSub, Int.reduceToNat, ↓reduceIte, reduceCtorEq, exl, ex_unit9, true_and, encPs_iff, encFs_iff, strs_iff, strs_length, hgx, ht, Option.map_some, encF_mk, hff, ht2, fs_p0, ha1]; done)))); intros; apply hk; clear hk K) | ((first | apply qg1 rfl | apply qcd); focus (simp only [go_sem, Nat.reduceEqDiff, Nat.reduceAdd, Nat.reduceLeDiff, Nat.reduceLT, Nat.reduceSub, Int.reduceToNat, ↓reduceIte, reduceCtorEq, exl, ex_unit9, true_and, encPs_iff, encFs_iff, strs_iff, strs_length, hgx, ht, Option.map_some, encF_mk, hff, ht2, fs_p0, ha1]; exact rfl)) | (refine qj6 ?_ ?_ <;> intro hc <;> (try simp only [hc]) <;> (try simp only [decide_eq_true_eq, decide_eq_false_iff_not, Bool.not_eq_true', Bool.not_eq_false', Bool.not_eq_true, reduceCtorEq] at hc) <;> (try (exfalso; omega))) | (refine qt7 ?_ ?_; focus decide) | (refine qw7 ?_ ?_ ?_; (focus (decide +kernel)); (focus (decide +kernel))))
    refine s_againR (k + 1) (fun i => if i = 0 then 3 else i) ?_ ?_ ?_ ?_ ?_ ?_ <;> (first | omega | (dsimp only; omega) | (intro i hi; (try dsimp only); (repeat' split) <;> omega) | (intro i j hi hj h; (try dsimp only at h); (repeat' split at h) <;> omega) | skip)
    all_goals (simp [fitsTR, fitsMR, PV.ren, renL, MB.ren, upd_def, PV.nmb, nmbL, MB.nmb, List.getD_cons_zero, List.getD_cons_succ, frz, drp, hsn]; done)
  · obtain rfl : k = x.length := by omega
    rw [List.take_length]
    have h00 : ((0 : Nat) : Int) = 0 := rfl
    repeat' (first | (refine qwd fun K hk => ?_; simp only [lvY21_11, mkT, go_sem, Nat.reduceEqDiff, Nat.reduceAdd, Nat.reduceLeDiff, Nat.reduceLT, Nat.reduceSub, Int.reduceToNat, ↓reduceIte, reduceCtorEq, exl, ex_unit9, true_and, encPs_iff, encFs_iff, strs_iff, strs_length, hma, h00, List.length_nil, decide_true]; apply hk; clear hk K) | apply qw8 | apply qw1 | refine qwc lvY21_11 ?_ | apply qt1 | apply qw5 | apply qw2 | apply qw9 | apply qt2 | apply qt3 | apply qt4 | apply qt5 | apply qt6 | apply qw3 | apply qw4 | apply qj1 | apply qj2 | apply qj3 | apply qj4 | apply qj5 | apply qu1 | apply qu2 | ((first | apply qa1 | apply qa2 | apply qa3 | apply qh1 | apply qh2); intro K hk; simp only [go_sem, Nat.reduceEqDiff, Nat.reduceAdd, Nat.reduceLeDiff, Nat.reduceLT, Nat.reduceSub, Int.reduceToNat, ↓reduceIte, reduceCtorEq, exl, ex_unit9, true_and, encPs_iff, encFs_iff, strs_iff, strs_length, hma, h00, List.length_nil, decide_true]; (repeat (refine And.intro ?_ ?_; focus (first | omega | assumption | with_reducible rfl | (simp only [go_sem, Nat.reduceEqDiff, Nat.reduceAdd, Nat.reduceLeDiff, Nat.reduceLT, Nat.reduceSub, Int.reduceToNat, ↓reduceIte, reduceCtorEq, exl, ex_unit9, true_and, encPs_iff, encFs_iff, strs_iff, strs_length, hma, h00, List.length_nil, decide_true]; done)))); intros; apply hk; clear hk K) | ((first | apply qg1 rfl | apply qcd); focus (simp only [go_sem, Nat.reduceEqDiff, Nat.reduceAdd, Nat.reduceLeDiff, Nat.reduceLT, Nat.reduceSub, Int.reduceToNat, ↓reduceIte, reduceCtorEq, exl, ex_unit9, true_and, encPs_iff, encFs_iff, strs_iff, strs_length, hma, h00, List.length_nil, decide_true]; exact rfl)) | (refine qj6 ?_ ?_ <;> intro hc <;> (try simp only [hc]) <;> (try simp only [decide_eq_true_eq, decide_eq_false_iff_not, Bool.not_eq_true', Bool.not_eq_false', Bool.not_eq_true, reduceCtorEq] at hc) <;> (try (exfalso; omega))) | (refine qt7 ?_ ?_; focus decide) | (refine qw7 ?_ ?_ ?_; (focus (decide +kernel)); (focus (decide +kernel))))
    all_goals first
      | (((first | refine fin_ret ?_ | refine fin_end ?_); simp only [go_sem, ↓upd_def, Nat.reduceEqDiff, Nat.reduceAdd, ↓reduceIte, reduceCtorEq])
         exact hK)
      | skip
end Go.Proofs.Ytoocbpendccngaa
