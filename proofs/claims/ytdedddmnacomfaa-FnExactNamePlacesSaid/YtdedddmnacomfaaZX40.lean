/- Contracts of functions whose results are new rows, their arguments lent. -/
import Derived.Test.YtdedddmnacomfaaZFT
import Derived.Test.YtdedddmnacomfaaZX20
import Derived.Test.YtdedddmnacomfaaZSh
import Derived.Test.YtdedddmnacomfaaZFG
import Derived.Test.YtdedddmnacomfaaZK3
import Derived.Test.YtdedddmnacomfaaZX9
import Derived.Lib.SlicesCompact
import Derived.Sort.OwnSorted
import Derived.Lib.OwnBridge
import Derived.Test.YtdedddmnacomfaaZX30
import Derived.Test.YtdedddmnacomfaaZX23
import Derived.Test.YtdedddmnacomfaaZT2
import Derived.Test.YtdedddmnacomfaaZS10
import Derived.Test.YtdedddmnacomfaaZS7

namespace Go.Proofs.Ytdedddmnacomfaa
attribute [local irreducible] awp arun acalm FinP Fin AX.then AX.inBlock Again aG gsel amix amixN amixC aop aopc aopd cutK
attribute [local go_sem] aBSliceD aSlice aSliceC boundOf aMk aCall aCallC aLenL aLen aPick_t aPick_f aNil aAlloc aBox aBuild bldPV aBSlice bsPV aApp newsOf destOf drp aConvX aConv aConvInt aLoad cellsAt aStore cellsPV setAt aFld aField aIdx aIndex aUn aBin' aBin aMax aExtract pvOf PV.isCell nmbL PV.nmb List.map_cons List.map_nil List.all_cons List.all_nil Bool.and_true Bool.true_and if_true if_false List.getD_cons_zero List.getD_cons_succ List.getD_nil Option.isSome_some true_and and_true and_self eq_self true_or or_true List.drop_zero List.drop_succ_cons List.drop_nil List.take_zero List.take_succ_cons List.take_nil List.length_cons List.length_nil List.length_map Option.getD_some Option.getD_none List.nil_append List.cons_append List.append_nil Option.some.injEq exists_eq_left' List.getElem?_cons_zero List.getElem?_cons_succ Int.toNat_natCast Int.natCast_inj toNat_succ Nat.zero_add res res1 resC owns owns1 ownsC List.flatMap_cons List.flatMap_nil List.flatten_cons List.flatten_nil List.mem_cons List.not_mem_nil or_false false_or forall_eq forall_eq_or_imp isFro frz frz1 pureC tabA isBld List.cons.injEq PV.seq.injEq PV.int.injEq PV.str.injEq PV.bool.injEq PV.agg.injEq inR tab Γof aRes packR Option.map_some Option.map_none rel Prod.exists exists_and_left exists_eq_left and_assoc beq_self_eq_true Bool.not_true Bool.not_false decide_true decide_false List.set_cons_zero List.set_cons_succ rst_nil rst_cons
attribute [local go_sem ↓] evT upd_def aop aopc aopd
set_option maxRecDepth 100000
set_option linter.unusedVariables false
set_option linter.unusedSimpArgs false
open Go.RowKit
def lvX40_28 : Nat → List Nat
  | 0 => [0]
  | 1 => [0, 6]
  | 2 => [2]
  | 3 => [0, 3]
  | 4 => [3]
  | 5 => [2]
  | _ => []
def lvX40_33 : Nat → List Nat
  | 0 => [0, 3]
  | 1 => [0, 3, 8]
  | 2 => [4]
  | 3 => [0, 3, 5]
  | 4 => [5]
  | 5 => [4]
  | _ => []
--LV=X40
@[go_sem] def hpM : AC := newL 3 1 (α := List PartD) (fun x => [.seq (encPs x)]) (fun x => wtL x ≤ 1073741824) (fun x es => es = ints (placesM x))
theorem hpM_i : ACok Try.prog 28 hpM := by
  refine newM_ok 1 (tabA_cons whO_h (tabA_nil (Γof_ok (tab_cons ts_i tab_nil)))) (tab_cons ts_i tab_nil) mixed [.tmp 2] Try.func28 rfl rfl (by kernel_rfl) (by kernel_rfl) (fun _ => rfl) (by kernel_rfl) (fun x => by simp [nmbL, PV.nmb]) ?_ ?_
  · rintro x es rfl; exact ints_plain _
  rintro xs K hb hK
  have hK := hK _ rfl
  unfold entry
  unfold placesM at hK
  cases hs : safeM xs
  · rw [hs] at hK
    repeat' (first | ((first | apply qwd | apply qa1 | apply qa2 | apply qa3 | apply qh1 | apply qh2 | apply qg1 rfl | apply qcd); (try intro K hk); focus (simp only [lvX40_28, mkT, go_sem, Nat.reduceEqDiff, Nat.reduceAdd, Nat.reduceLeDiff, Nat.reduceLT, Nat.reduceSub, Int.reduceToNat, ↓reduceIte, reduceCtorEq, encS_st0, hs, Bool.not_false]; first | exact rfl | ((repeat (refine And.intro ?_ ?_; focus (first | omega | assumption | with_reducible rfl))); intros; apply hk; clear hk K))) | apply qw8 | apply qw1 | refine qwc lvX40_28 ?_ | apply qt1 | apply qw5 | apply qw2 | apply qw9 | apply qt2 | apply qt3 | apply qt4 | apply qt5 | apply qt6 | apply qw3 | apply qw4 | apply qj1 | apply qj2 | apply qj3 | apply qj4 | apply qj5 | apply qu1 | apply qu2 | (refine qj6 ?_ ?_ <;> intro hc <;> (try simp only [hc]) <;> (try simp only [decide_eq_true_eq, decide_eq_false_iff_not, Bool.not_eq_true', Bool.not_eq_false', Bool.not_eq_true, reduceCtorEq] at hc) <;> (try (exfalso; omega))) | (refine qt7 ?_ ?_; focus decide) | (refine qw7 ?_ ?_ ?_; (focus (decide +kernel)); (focus (decide +kernel))))
    ((first | refine fin_H ?_ | refine fin_He ?_ | refine fin_J ?_ | refine fin_Je ?_ | refine fin_Y ?_ | refine fin_K ?_ | refine fin_T ?_ | refine fin_M ?_); simp only [go_sem, not_false_eq_true, ne_eq, ↓upd_def, Nat.reduceEqDiff, Nat.reduceAdd, ↓reduceIte, reduceCtorEq])
    first | exact .inl ⟨_, rfl, _, rfl, hK⟩ | exact .inr hK
  · rw [hs, if_pos rfl] at hK
    repeat' (first | ((first | apply qwd | apply qa1 | apply qa2 | apply qa3 | apply qh1 | apply qh2 | apply qg1 rfl | apply qcd); (try intro K hk); focus (simp only [lvX40_28, mkT, go_sem, Nat.reduceEqDiff, Nat.reduceAdd, Nat.reduceLeDiff, Nat.reduceLT, Nat.reduceSub, Int.reduceToNat, ↓reduceIte, reduceCtorEq, encS_st0, exl9, encPs_iff, hs, Bool.not_true, List.size_toArray, Array.size_empty]; first | exact rfl | ((repeat (refine And.intro ?_ ?_; focus (first | omega | assumption | with_reducible rfl))); intros; apply hk; clear hk K))) | apply qw8 | apply qw1 | refine qwc lvX40_28 ?_ | apply qt1 | apply qw5 | apply qw2 | apply qw9 | apply qt2 | apply qt3 | apply qt4 | apply qt5 | apply qt6 | apply qw3 | apply qw4 | apply qj1 | apply qj2 | apply qj3 | apply qj4 | apply qj5 | apply qu1 | apply qu2 | (refine qj6 ?_ ?_ <;> intro hc <;> (try simp only [hc]) <;> (try simp only [decide_eq_true_eq, decide_eq_false_iff_not, Bool.not_eq_true', Bool.not_eq_false', Bool.not_eq_true, reduceCtorEq] at hc) <;> (try (exfalso; omega))) | (refine qt7 ?_ ?_; focus decide) | (refine qw7 ?_ ?_ ?_; (focus (decide +kernel)); (focus (decide +kernel))))
    ((first | refine fin_H ?_ | refine fin_He ?_ | refine fin_J ?_ | refine fin_Je ?_ | refine fin_Y ?_ | refine fin_K ?_ | refine fin_T ?_ | refine fin_M ?_); simp only [go_sem, not_false_eq_true, ne_eq, ↓upd_def, Nat.reduceEqDiff, Nat.reduceAdd, ↓reduceIte, reduceCtorEq])
    first | exact .inl ⟨_, rfl, _, rfl, hK⟩ | exact .inr hK
@[go_sem] def npM : AC := newL 3 1 (α := List PartD × Bs) (fun x => [.seq (encPs x.1), .str x.2]) (fun x => wtL x.1 ≤ 1073741824 ∧ x.2.length ≤ 9223372036854775807) (fun x es => es = ints (namePl x.1 x.2))
theorem npM_i : ACok Try.prog 33 npM := by
  refine newM_ok 2 (tabA_cons whO_n (tabA_nil (Γof_ok (tab_cons ts_i tab_nil)))) (tab_cons ts_i tab_nil) mixed [.tmp 4] Try.func33 rfl rfl (by kernel_rfl) (by kernel_rfl) (fun _ => rfl) (by kernel_rfl) (fun x => by simp [nmbL, PV.nmb]) ?_ ?_
  · rintro x es rfl; exact ints_plain _
  rintro ⟨xs, m⟩ K ⟨hb, hm⟩ hK
  have hK := hK _ rfl
  dsimp only at *
  unfold entry
  unfold namePl at hK
  cases hs : safeM xs
  · rw [hs] at hK
    repeat' (first | ((first | apply qwd | apply qa1 | apply qa2 | apply qa3 | apply qh1 | apply qh2 | apply qg1 rfl | apply qcd); (try intro K hk); focus (simp only [lvX40_33, mkT, go_sem, Nat.reduceEqDiff, Nat.reduceAdd, Nat.reduceLeDiff, Nat.reduceLT, Nat.reduceSub, Int.reduceToNat, ↓reduceIte, reduceCtorEq, encS_st0, hs, Bool.not_false]; first | exact rfl | ((repeat (refine And.intro ?_ ?_; focus (first | omega | assumption | with_reducible rfl))); intros; apply hk; clear hk K))) | apply qw8 | apply qw1 | refine qwc lvX40_33 ?_ | apply qt1 | apply qw5 | apply qw2 | apply qw9 | apply qt2 | apply qt3 | apply qt4 | apply qt5 | apply qt6 | apply qw3 | apply qw4 | apply qj1 | apply qj2 | apply qj3 | apply qj4 | apply qj5 | apply qu1 | apply qu2 | (refine qj6 ?_ ?_ <;> intro hc <;> (try simp only [hc]) <;> (try simp only [decide_eq_true_eq, decide_eq_false_iff_not, Bool.not_eq_true', Bool.not_eq_false', Bool.not_eq_true, reduceCtorEq] at hc) <;> (try (exfalso; omega))) | (refine qt7 ?_ ?_; focus decide) | (refine qw7 ?_ ?_ ?_; (focus (decide +kernel)); (focus (decide +kernel))))
    ((first | refine fin_H ?_ | refine fin_He ?_ | refine fin_J ?_ | refine fin_Je ?_ | refine fin_Y ?_ | refine fin_K ?_ | refine fin_T ?_ | refine fin_M ?_); simp only [go_sem, not_false_eq_true, ne_eq, ↓upd_def, Nat.reduceEqDiff, Nat.reduceAdd, ↓reduceIte, reduceCtorEq])
    first | exact .inl ⟨_, rfl, _, rfl, hK⟩ | exact .inr hK
  · rw [hs, if_pos rfl] at hK
    repeat' (first | ((first | apply qwd | apply qa1 | apply qa2 | apply qa3 | apply qh1 | apply qh2 | apply qg1 rfl | apply qcd); (try intro K hk); focus (simp only [lvX40_33, mkT, go_sem, Nat.reduceEqDiff, Nat.reduceAdd, Nat.reduceLeDiff, Nat.reduceLT, Nat.reduceSub, Int.reduceToNat, ↓reduceIte, reduceCtorEq, encS_st0, exl9, encPs_iff, hs, Bool.not_true, List.size_toArray, Array.size_empty]; first | exact rfl | ((repeat (refine And.intro ?_ ?_; focus (first | omega | assumption | with_reducible rfl))); intros; apply hk; clear hk K))) | apply qw8 | apply qw1 | refine qwc lvX40_33 ?_ | apply qt1 | apply qw5 | apply qw2 | apply qw9 | apply qt2 | apply qt3 | apply qt4 | apply qt5 | apply qt6 | apply qw3 | apply qw4 | apply qj1 | apply qj2 | apply qj3 | apply qj4 | apply qj5 | apply qu1 | apply qu2 | (refine qj6 ?_ ?_ <;> intro hc <;> (try simp only [hc]) <;> (try simp only [decide_eq_true_eq, decide_eq_false_iff_not, Bool.not_eq_true', Bool.not_eq_false', Bool.not_eq_true, reduceCtorEq] at hc) <;> (try (exfalso; omega))) | (refine qt7 ?_ ?_; focus decide) | (refine qw7 ?_ ?_ ?_; (focus (decide +kernel)); (focus (decide +kernel))))
    ((first | refine fin_H ?_ | refine fin_He ?_ | refine fin_J ?_ | refine fin_Je ?_ | refine fin_Y ?_ | refine fin_K ?_ | refine fin_T ?_ | refine fin_M ?_); simp only [go_sem, not_false_eq_true, ne_eq, ↓upd_def, Nat.reduceEqDiff, Nat.reduceAdd, ↓reduceIte, reduceCtorEq])
    first | exact .inl ⟨_, rfl, _, rfl, hK⟩ | exact .inr hK
end Go.Proofs.Ytdedddmnacomfaa
