/- The law's walk: ExactNamesMissing. -/
import Derived.Test.YtdedddmnacomfaaVT6
import Derived.Test.YtdedddmnacomfaaVX40
import Derived.Test.YtdedddmnacomfaaVX30
import Derived.Test.YtdedddmnacomfaaVX9
import Derived.Test.YtdedddmnacomfaaVT2
import Derived.Test.YtdedddmnacomfaaVX25
import Derived.Test.YtdedddmnacomfaaVK3

namespace Go.Proofs.Ytdedddmnacomfaa
attribute [local irreducible] awp arun acalm FinP Fin AX.then AX.inBlock Again aG gsel amix amixN amixC aop aopc aopd cutK
attribute [local go_sem] aBSliceD aSlice aSliceC boundOf aMk aCall aCallC aLenL aLen aPick_t aPick_f aNil aAlloc aBox aBuild bldPV aBSlice bsPV aApp newsOf destOf drp aConvX aConv aConvInt aLoad cellsAt aStore cellsPV setAt aFld aField aIdx aIndex aUn aBin' aBin aMax aExtract pvOf PV.isCell nmbL PV.nmb List.map_cons List.map_nil List.all_cons List.all_nil Bool.and_true Bool.true_and if_true if_false List.getD_cons_zero List.getD_cons_succ List.getD_nil Option.isSome_some true_and and_true and_self eq_self true_or or_true List.drop_zero List.drop_succ_cons List.drop_nil List.take_zero List.take_succ_cons List.take_nil List.length_cons List.length_nil List.length_map Option.getD_some Option.getD_none List.nil_append List.cons_append List.append_nil Option.some.injEq exists_eq_left' List.getElem?_cons_zero List.getElem?_cons_succ Int.toNat_natCast Int.natCast_inj toNat_succ Nat.zero_add res res1 resC owns owns1 ownsC List.flatMap_cons List.flatMap_nil List.flatten_cons List.flatten_nil List.mem_cons List.not_mem_nil or_false false_or forall_eq forall_eq_or_imp isFro frz frz1 pureC tabA isBld List.cons.injEq PV.seq.injEq PV.int.injEq PV.str.injEq PV.bool.injEq PV.agg.injEq inR tab Γof aRes packR Option.map_some Option.map_none rel Prod.exists exists_and_left exists_eq_left and_assoc beq_self_eq_true Bool.not_true Bool.not_false decide_true decide_false List.set_cons_zero List.set_cons_succ rst_nil rst_cons
attribute [local go_sem ↓] evT upd_def aop aopc aopd
set_option maxRecDepth 100000
set_option linter.unusedVariables false
set_option linter.unusedSimpArgs false
open Go.RowKit
--LV=Y34
theorem missM_bd (xs : List PartD) (data : List FieldD) : (missM xs data).length ≤ wtL xs ∧ ∀ t ∈ missM xs data, t.length ≤ wtL xs := by
  rw [missM_flt]
  split
  · have h0 := fltN_len data (usedL (nmL 0 xs))
    have h1 := usedL_len (nmL 0 xs)
    have h2 := nmL_len 0 xs
    exact ⟨by omega, fun t ht => nm_short (List.mem_filter.1 ht).1⟩
  · exact ⟨by simp, fun t ht => by cases ht⟩
theorem wtS_mem : ∀ {l : List Bs} {t : Bs}, t ∈ l → t.length ≤ wtS l
  | y :: l, t, h => by
    have e : wtS (y :: l) = y.length + wtS l := by simp [wtS]
    rcases List.mem_cons.1 h with rfl | h
    · omega
    · have := wtS_mem h; omega
theorem small_fs {l : List FieldD} (hw : l.length + wtFs l ≤ 1048576) : smFs l := by
  refine ⟨by omega, fun f hf => ?_⟩
  have := wtF_mem hf
  unfold wtF at this
  refine ⟨by omega, by omega, by omega, fun t ht => ?_⟩
  have := wtS_mem ht
  omega
set_option maxHeartbeats 8000000 in
theorem FnExactNamesMissing_pure : PureOk Try.prog 9 (rel (α := List PartD × List FieldD) (fun x => [.seq (encPs x.1), .seq (encFs x.2)]) (fun x => (okL x.1 ∧ x.1.length ≤ 9223372036854775807) ∧ okF x.2) (fun _ => .bool true)) := by
  refine pure_relA 2 (tabA_cons tjT_ok (tabA_cons tjFT_ok (tabA_cons misM_i (tabA_cons (borT_ok eqSs_ok) (tabA_cons (borT_ok eq_c) (tabA_cons (borT_ok eqFs_ok) (tabA_cons mkPT_ok (tabA_cons mkFT_ok (tabA_cons mkSs_ok (tabA_cons (borT_ok hlSs_ok) (tabA_cons (pureT_ok mis_s) (tabA_nil (Γof_ok (tab_cons sz_c (tab_cons szFs_ok tab_nil))))))))))))))) (tab_cons sz_c (tab_cons szFs_ok tab_nil)) mixed [.tmp 4] Try.func9 rfl rfl (by kernel_rfl) (by kernel_rfl) (fun _ => rfl) (by kernel_rfl) ?_
  rintro ⟨xs, data⟩ K ⟨⟨hok, hl⟩, hof⟩ hK
  dsimp only at *
  have hul := missM_bd xs data
  have hmn := mnL_wt xs
  have hmf := mfL_wt data
  unfold entry
  repeat' (first | ((first | apply qa1 | apply qa2 | apply qa3 | apply qh1 | apply qh2 | apply qg1 rfl | apply qcd); (try intro K hk); focus (simp only [go_sem, Nat.reduceEqDiff, Nat.reduceAdd, Nat.reduceLeDiff, Nat.reduceLT, Nat.reduceSub, Int.reduceToNat, ↓reduceIte, reduceCtorEq, encFs_iff]; first | exact rfl | ((repeat (refine And.intro ?_ ?_; focus (first | omega | assumption | with_reducible rfl))); intros; apply hk; clear hk K))) | apply qw8 | apply qw1 | apply qw6 | apply qt1 | apply qw5 | apply qw2 | apply qw9 | apply qt2 | apply qt3 | apply qt4 | apply qt5 | apply qt6 | apply qw3 | apply qw4 | apply qj1 | apply qj2 | apply qj3 | apply qj4 | apply qj5 | apply qu1 | apply qu2 | (refine qj6 ?_ ?_ <;> intro hc <;> (try simp only [hc]) <;> (try simp only [decide_eq_true_eq, decide_eq_false_iff_not, Bool.not_eq_true', Bool.not_eq_false', Bool.not_eq_true, reduceCtorEq] at hc) <;> (try (exfalso; omega))) | (refine qt7 ?_ ?_; focus decide) | (refine qw7 ?_ ?_ ?_; (focus (decide +kernel)); (focus (decide +kernel))))
  · ((first | refine fin_ret ?_ | refine fin_end ?_); simp only [go_sem, ↓upd_def, Nat.reduceEqDiff, Nat.reduceAdd, ↓reduceIte, reduceCtorEq])
    exact hK
  have h1 := leftI_pos ‹_›
  repeat' (first | ((first | apply qa1 | apply qa2 | apply qa3 | apply qh1 | apply qh2 | apply qg1 rfl | apply qcd); (try intro K hk); focus (simp only [go_sem, Nat.reduceEqDiff, Nat.reduceAdd, Nat.reduceLeDiff, Nat.reduceLT, Nat.reduceSub, Int.reduceToNat, ↓reduceIte, reduceCtorEq, encFs_iff]; first | exact rfl | ((repeat (refine And.intro ?_ ?_; focus (first | omega | assumption | with_reducible rfl))); intros; apply hk; clear hk K))) | apply qw8 | apply qw1 | apply qw6 | apply qt1 | apply qw5 | apply qw2 | apply qw9 | apply qt2 | apply qt3 | apply qt4 | apply qt5 | apply qt6 | apply qw3 | apply qw4 | apply qj1 | apply qj2 | apply qj3 | apply qj4 | apply qj5 | apply qu1 | apply qu2 | (refine qj6 ?_ ?_ <;> intro hc <;> (try simp only [hc]) <;> (try simp only [decide_eq_true_eq, decide_eq_false_iff_not, Bool.not_eq_true', Bool.not_eq_false', Bool.not_eq_true, reduceCtorEq] at hc) <;> (try (exfalso; omega))) | (refine qt7 ?_ ?_; focus decide) | (refine qw7 ?_ ?_ ?_; (focus (decide +kernel)); (focus (decide +kernel))))
  · ((first | refine fin_ret ?_ | refine fin_end ?_); simp only [go_sem, ↓upd_def, Nat.reduceEqDiff, Nat.reduceAdd, ↓reduceIte, reduceCtorEq])
    exact hK
  have h2 := leftI_pos ‹_›
  obtain ⟨h3, h4⟩ := ok_items (l := data) (by omega)
  have hsm : smFs data := small_fs (by omega)
  have hd1 : decide (1 + (mnL xs : Int) + (mfL data : Int) < 0) = false := decide_eq_false (by omega)
  have hd2 : decide (1 + ((missM xs data).length : Int) < 0) = false := decide_eq_false (by omega)
  have hss : okSs (missM xs data) := ⟨by omega, fun t ht => by have := hul.2 t ht; omega⟩
  have hmk : okSs (marks 1 (missM xs data).length) = True := okSs_marks (by omega) (by omega)
  repeat' (first | ((first | apply qa1 | apply qa2 | apply qa3 | apply qh1 | apply qh2 | apply qg1 rfl | apply qcd); (try intro K hk); focus (simp only [go_sem, Nat.reduceEqDiff, Nat.reduceAdd, Nat.reduceLeDiff, Nat.reduceLT, Nat.reduceSub, Int.reduceToNat, ↓reduceIte, reduceCtorEq, newT, newL, newTB, wrtF, borT, pureT, mrkK, plainV, plainU, resT, lendM, lendG_tree, encL_iff, MB.gen.injEq, MB.row.injEq, PV.own.injEq, hd1, hd2, bne_self_eq_false, Bool.not_true, decide_true, decide_eq_true_eq, nsM, encFs_iff, strs_inj, heldM_marks, hmk, marks_len]; first | exact rfl | ((repeat (refine And.intro ?_ ?_; focus (first | omega | assumption | with_reducible rfl))); intros; apply hk; clear hk K))) | apply qw8 | apply qw1 | apply qw6 | apply qt1 | apply qw5 | apply qw2 | apply qw9 | apply qt2 | apply qt3 | apply qt4 | apply qt5 | apply qt6 | apply qw3 | apply qw4 | apply qj1 | apply qj2 | apply qj3 | apply qj4 | apply qj5 | apply qu1 | apply qu2 | (refine qj6 ?_ ?_ <;> intro hc <;> (try simp only [hc]) <;> (try simp only [decide_eq_true_eq, decide_eq_false_iff_not, Bool.not_eq_true', Bool.not_eq_false', Bool.not_eq_true, reduceCtorEq] at hc) <;> (try (exfalso; omega))) | (refine qt7 ?_ ?_; focus decide) | (refine qw7 ?_ ?_ ?_; (focus (decide +kernel)); (focus (decide +kernel))))
  all_goals first
    | (((first | refine fin_ret ?_ | refine fin_end ?_); simp only [go_sem, ↓upd_def, Nat.reduceEqDiff, Nat.reduceAdd, ↓reduceIte, reduceCtorEq])
       exact hK)
    | skip
end Go.Proofs.Ytdedddmnacomfaa

/- The law's walk: ExactHolesOf. -/
namespace Go.Proofs.Ytdedddmnacomfaa
attribute [local irreducible] awp arun acalm FinP Fin AX.then AX.inBlock Again aG gsel amix amixN amixC aop aopc aopd cutK
attribute [local go_sem] aBSliceD aSlice aSliceC boundOf aMk aCall aCallC aLenL aLen aPick_t aPick_f aNil aAlloc aBox aBuild bldPV aBSlice bsPV aApp newsOf destOf drp aConvX aConv aConvInt aLoad cellsAt aStore cellsPV setAt aFld aField aIdx aIndex aUn aBin' aBin aMax aExtract pvOf PV.isCell nmbL PV.nmb List.map_cons List.map_nil List.all_cons List.all_nil Bool.and_true Bool.true_and if_true if_false List.getD_cons_zero List.getD_cons_succ List.getD_nil Option.isSome_some true_and and_true and_self eq_self true_or or_true List.drop_zero List.drop_succ_cons List.drop_nil List.take_zero List.take_succ_cons List.take_nil List.length_cons List.length_nil List.length_map Option.getD_some Option.getD_none List.nil_append List.cons_append List.append_nil Option.some.injEq exists_eq_left' List.getElem?_cons_zero List.getElem?_cons_succ Int.toNat_natCast Int.natCast_inj toNat_succ Nat.zero_add res res1 resC owns owns1 ownsC List.flatMap_cons List.flatMap_nil List.flatten_cons List.flatten_nil List.mem_cons List.not_mem_nil or_false false_or forall_eq forall_eq_or_imp isFro frz frz1 pureC tabA isBld List.cons.injEq PV.seq.injEq PV.int.injEq PV.str.injEq PV.bool.injEq PV.agg.injEq inR tab Γof aRes packR Option.map_some Option.map_none rel Prod.exists exists_and_left exists_eq_left and_assoc beq_self_eq_true Bool.not_true Bool.not_false decide_true decide_false List.set_cons_zero List.set_cons_succ rst_nil rst_cons
attribute [local go_sem ↓] evT upd_def aop aopc aopd
set_option maxRecDepth 100000
set_option linter.unusedVariables false
set_option linter.unusedSimpArgs false
open Go.RowKit
--LV=Y35
theorem flat_ct {α : Type} (g : α → List Ev) (m : Nat) : ∀ l : List α, (∀ x ∈ l, (g x).length ≤ m) → (l.flatMap g).length ≤ l.length * m
  | [], _ => by simp
  | x :: l, h => by
    rw [List.flatMap_cons, List.length_append, List.length_cons, Nat.add_mul, Nat.one_mul]
    have h1 := h x (by simp)
    have h2 := flat_ct g m l (fun y hy => h y (by simp [hy]))
    omega
mutual
theorem evP_ct : ∀ (x : PartD) (d : Nat) (data : List FieldD) (s : St), gdP d x = true → dBd data → (evP data s x).1.length ≤ 5 ^ d * (cntP x + 1)
  | .mk k t n ps os, d, data, s, hg, hd => by
    have hp : 1 ≤ 5 ^ d := Nat.pow_pos (by omega)
    have hf := find_bd hd n
    have big : ∀ m : Nat, m ≤ cntP (.mk k t n ps os) + 1 → m ≤ 5 ^ d * (cntP (.mk k t n ps os) + 1) := fun m h => Nat.le_trans h (Nat.le_mul_of_pos_left _ hp)
    rw [gdP_mk] at hg
    rw [evP_mk]
    split
    · exact big _ (by simp)
    rename_i k1
    rw [if_neg k1] at hg
    split
    · exact big _ (by simp)
    rename_i k2
    rw [if_neg k2] at hg
    by_cases k34 : k = 3 ∨ k = 4
    · rw [if_pos k34] at hg
      simp only [Bool.and_eq_true, Bool.not_eq_true', decide_eq_false_iff_not] at hg
      have hd0 : d ≠ 0 := hg.1.1.2
      have e5 : 5 ^ d = 5 * 5 ^ (d - 1) := by rw [← Nat.pow_succ']; congr 1; omega
      have h1 := fun da hda => evL_ct ps (d - 1) da s false hg.1.2 hda
      have h2 := evL_ct os (d - 1) data s false hg.2 hd
      have w1 : 5 ^ (d - 1) * cntL ps ≤ 5 ^ (d - 1) * (cntP (.mk k t n ps os) + 1) := Nat.mul_le_mul_left _ (by rw [cntP_mk]; omega)
      have w2 : 5 ^ (d - 1) * cntL os ≤ 5 ^ (d - 1) * (cntP (.mk k t n ps os) + 1) := Nat.mul_le_mul_left _ (by rw [cntP_mk]; omega)
      rw [e5, Nat.mul_assoc]
      split
      · split
        · have := h1 data hd; omega
        · omega
      · split
        · have h3 := flat_ct (fun it => (evL (withF data it) s ps).1) (5 ^ (d - 1) * cntL ps) (findF data n).items (fun it hit => h1 _ (with_bd hd (hf.2.2 it hit)))
          have h4 : (findF data n).items.length * (5 ^ (d - 1) * cntL ps) ≤ 5 * (5 ^ (d - 1) * cntL ps) := Nat.mul_le_mul_right _ hf.2.1
          dsimp only
          omega
        · simp
    · rw [if_neg k34] at hg; cases hg
theorem evL_ct : ∀ (xs : List PartD) (d : Nat) (data : List FieldD) (s : St) (b : Bool), gdL d b xs = true → dBd data → (evL data s xs).1.length ≤ 5 ^ d * cntL xs
  | [], d, data, s, b, _, _ => by rw [evL_nil]; simp
  | x :: xs, d, data, s, b, hg, hd => by
    rw [gdL] at hg
    simp only [Bool.and_eq_true] at hg
    have h1 := evP_ct x d data s hg.1.1 hd
    have h2 := evL_ct xs d data (evP data s x).2 _ hg.2 hd
    rw [evL_cons, List.length_append]
    have e : cntL (x :: xs) = (cntP x + 1) + cntL xs := by rw [cntL]; omega
    rw [e, Nat.mul_add]
    omega
end
theorem holesE_ct : ∀ l : List Ev, (holesE l).length ≤ l.length
  | [] => by simp [holesE]
  | e :: l => by
    have := holesE_ct l
    rw [show e :: l = [e] ++ l from rfl, holesE_append, List.length_append, List.length_append]
    have h1 : (holesE [e]).length ≤ 1 := by cases e <;> simp [holesE, hole1]
    simp only [List.length_singleton]
    omega
theorem holesM_bd (xs : List PartD) (data : List FieldD) : (holesM xs data).length ≤ 100000 ∧ ∀ t ∈ holesM xs data, t.2.length ≤ 40 := by
  unfold holesM
  split
  · rename_i h
    have hd := dataB_bd h.2
    obtain ⟨g0, g1, _, _⟩ := safe_parts h.1
    have h1 := evL_ct xs 3 data st0 false g1 hd
    have h2 := holesE_ct (evL data st0 xs).1
    unfold partsB at g0
    rw [Bool.and_eq_true, decide_eq_true_eq] at g0
    have h3 : 5 ^ 3 * cntL xs ≤ 5 ^ 3 * 30 := Nat.mul_le_mul_left _ g0.1
    exact ⟨by omega, fun t ht => ev_t40L xs data st0 hd t ht⟩
  · exact ⟨by simp, fun t ht => by cases ht⟩
set_option maxHeartbeats 8000000 in
theorem FnExactHolesOf_pure : PureOk Try.prog 10 (rel (α := List PartD × List FieldD) (fun x => [.seq (encPs x.1), .seq (encFs x.2)]) (fun x => (okL x.1 ∧ x.1.length ≤ 9223372036854775807) ∧ okF x.2) (fun _ => .bool true)) := by
  refine pure_relA 2 (tabA_cons tjT_ok (tabA_cons tjFT_ok (tabA_cons hofM_i (tabA_cons (borT_ok eqHs_ok) (tabA_cons (borT_ok eq_c) (tabA_cons (borT_ok eqFs_ok) (tabA_cons mkPT_ok (tabA_cons mkFT_ok (tabA_cons mkHs_ok (tabA_cons (borT_ok hlHs_ok) (tabA_cons (pureT_ok hof_s) (tabA_nil (Γof_ok (tab_cons sz_c (tab_cons szFs_ok tab_nil))))))))))))))) (tab_cons sz_c (tab_cons szFs_ok tab_nil)) mixed [.tmp 4] Try.func10 rfl rfl (by kernel_rfl) (by kernel_rfl) (fun _ => rfl) (by kernel_rfl) ?_
  rintro ⟨xs, data⟩ K ⟨⟨hok, hl⟩, hof⟩ hK
  dsimp only at *
  have hul := holesM_bd xs data
  have hmn := mnL_wt xs
  have hmf := mfL_wt data
  unfold entry
  repeat' (first | ((first | apply qa1 | apply qa2 | apply qa3 | apply qh1 | apply qh2 | apply qg1 rfl | apply qcd); (try intro K hk); focus (simp only [go_sem, Nat.reduceEqDiff, Nat.reduceAdd, Nat.reduceLeDiff, Nat.reduceLT, Nat.reduceSub, Int.reduceToNat, ↓reduceIte, reduceCtorEq, encFs_iff]; first | exact rfl | ((repeat (refine And.intro ?_ ?_; focus (first | omega | assumption | with_reducible rfl))); intros; apply hk; clear hk K))) | apply qw8 | apply qw1 | apply qw6 | apply qt1 | apply qw5 | apply qw2 | apply qw9 | apply qt2 | apply qt3 | apply qt4 | apply qt5 | apply qt6 | apply qw3 | apply qw4 | apply qj1 | apply qj2 | apply qj3 | apply qj4 | apply qj5 | apply qu1 | apply qu2 | (refine qj6 ?_ ?_ <;> intro hc <;> (try simp only [hc]) <;> (try simp only [decide_eq_true_eq, decide_eq_false_iff_not, Bool.not_eq_true', Bool.not_eq_false', Bool.not_eq_true, reduceCtorEq] at hc) <;> (try (exfalso; omega))) | (refine qt7 ?_ ?_; focus decide) | (refine qw7 ?_ ?_ ?_; (focus (decide +kernel)); (focus (decide +kernel))))
  · ((first | refine fin_ret ?_ | refine fin_end ?_); simp only [go_sem, ↓upd_def, Nat.reduceEqDiff, Nat.reduceAdd, ↓reduceIte, reduceCtorEq])
    exact hK
  have h1 := leftI_pos ‹_›
  repeat' (first | ((first | apply qa1 | apply qa2 | apply qa3 | apply qh1 | apply qh2 | apply qg1 rfl | apply qcd); (try intro K hk); focus (simp only [go_sem, Nat.reduceEqDiff, Nat.reduceAdd, Nat.reduceLeDiff, Nat.reduceLT, Nat.reduceSub, Int.reduceToNat, ↓reduceIte, reduceCtorEq, encFs_iff]; first | exact rfl | ((repeat (refine And.intro ?_ ?_; focus (first | omega | assumption | with_reducible rfl))); intros; apply hk; clear hk K))) | apply qw8 | apply qw1 | apply qw6 | apply qt1 | apply qw5 | apply qw2 | apply qw9 | apply qt2 | apply qt3 | apply qt4 | apply qt5 | apply qt6 | apply qw3 | apply qw4 | apply qj1 | apply qj2 | apply qj3 | apply qj4 | apply qj5 | apply qu1 | apply qu2 | (refine qj6 ?_ ?_ <;> intro hc <;> (try simp only [hc]) <;> (try simp only [decide_eq_true_eq, decide_eq_false_iff_not, Bool.not_eq_true', Bool.not_eq_false', Bool.not_eq_true, reduceCtorEq] at hc) <;> (try (exfalso; omega))) | (refine qt7 ?_ ?_; focus decide) | (refine qw7 ?_ ?_ ?_; (focus (decide +kernel)); (focus (decide +kernel))))
  · ((first | refine fin_ret ?_ | refine fin_end ?_); simp only [go_sem, ↓upd_def, Nat.reduceEqDiff, Nat.reduceAdd, ↓reduceIte, reduceCtorEq])
    exact hK
  have h2 := leftI_pos ‹_›
  obtain ⟨h3, h4⟩ := ok_items (l := data) (by omega)
  have hd1 : decide (1 + (mnL xs : Int) + (mfL data : Int) < 0) = false := decide_eq_false (by omega)
  have hd2 : decide (1 + 2 * ((holesM xs data).length : Int) < 0) = false := decide_eq_false (by omega)
  have hss : okH (holesM xs data) := ⟨by omega, fun t ht => by have := hul.2 t ht; omega⟩
  repeat' (first | ((first | apply qa1 | apply qa2 | apply qa3 | apply qh1 | apply qh2 | apply qg1 rfl | apply qcd); (try intro K hk); focus (simp only [go_sem, Nat.reduceEqDiff, Nat.reduceAdd, Nat.reduceLeDiff, Nat.reduceLT, Nat.reduceSub, Int.reduceToNat, ↓reduceIte, reduceCtorEq, newT, newL, newTB, wrtF, borT, pureT, mrkK, plainV, plainU, resT, lendM, lendG_tree, encL_iff, MB.gen.injEq, MB.row.injEq, PV.own.injEq, hd1, hd2, bne_self_eq_false, Bool.not_true, decide_true, decide_eq_true_eq, encFs_iff, encHs_inj, marksH_len]; first | exact rfl | ((repeat (refine And.intro ?_ ?_; focus (first | omega | assumption | with_reducible rfl))); intros; apply hk; clear hk K))) | apply qw8 | apply qw1 | apply qw6 | apply qt1 | apply qw5 | apply qw2 | apply qw9 | apply qt2 | apply qt3 | apply qt4 | apply qt5 | apply qt6 | apply qw3 | apply qw4 | apply qj1 | apply qj2 | apply qj3 | apply qj4 | apply qj5 | apply qu1 | apply qu2 | (refine qj6 ?_ ?_ <;> intro hc <;> (try simp only [hc]) <;> (try simp only [decide_eq_true_eq, decide_eq_false_iff_not, Bool.not_eq_true', Bool.not_eq_false', Bool.not_eq_true, reduceCtorEq] at hc) <;> (try (exfalso; omega))) | (refine qt7 ?_ ?_; focus decide) | (refine qw7 ?_ ?_ ?_; (focus (decide +kernel)); (focus (decide +kernel))))
  all_goals first
    | (((first | refine fin_ret ?_ | refine fin_end ?_); simp only [go_sem, ↓upd_def, Nat.reduceEqDiff, Nat.reduceAdd, ↓reduceIte, reduceCtorEq])
       exact hK)
    | skip
end Go.Proofs.Ytdedddmnacomfaa
