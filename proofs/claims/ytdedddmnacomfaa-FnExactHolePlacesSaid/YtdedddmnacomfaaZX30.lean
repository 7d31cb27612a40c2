/- Contracts: fields copied; FieldOf; NamesMissing. -/
import Derived.Test.YtdedddmnacomfaaZSh
import Derived.Test.YtdedddmnacomfaaZFG
import Derived.Test.YtdedddmnacomfaaZK3
import Derived.Test.YtdedddmnacomfaaZX9
import Derived.Lib.SlicesCompact
import Derived.Sort.OwnSorted
import Derived.Lib.OwnBridge

namespace Go.Proofs.Ytdedddmnacomfaa
attribute [local irreducible] awp arun acalm FinP Fin AX.then AX.inBlock Again aG gsel amix amixN amixC aop aopc aopd cutK
attribute [local go_sem] aBSliceD aSlice aSliceC boundOf aMk aCall aCallC aLenL aLen aPick_t aPick_f aNil aAlloc aBox aBuild bldPV aBSlice bsPV aApp newsOf destOf drp aConvX aConv aConvInt aLoad cellsAt aStore cellsPV setAt aFld aField aIdx aIndex aUn aBin' aBin aMax aExtract pvOf PV.isCell nmbL PV.nmb List.map_cons List.map_nil List.all_cons List.all_nil Bool.and_true Bool.true_and if_true if_false List.getD_cons_zero List.getD_cons_succ List.getD_nil Option.isSome_some true_and and_true and_self eq_self true_or or_true List.drop_zero List.drop_succ_cons List.drop_nil List.take_zero List.take_succ_cons List.take_nil List.length_cons List.length_nil List.length_map Option.getD_some Option.getD_none List.nil_append List.cons_append List.append_nil Option.some.injEq exists_eq_left' List.getElem?_cons_zero List.getElem?_cons_succ Int.toNat_natCast Int.natCast_inj toNat_succ Nat.zero_add res res1 resC owns owns1 ownsC List.flatMap_cons List.flatMap_nil List.flatten_cons List.flatten_nil List.mem_cons List.not_mem_nil or_false false_or forall_eq forall_eq_or_imp isFro frz frz1 pureC tabA isBld List.cons.injEq PV.seq.injEq PV.int.injEq PV.str.injEq PV.bool.injEq PV.agg.injEq inR tab Γof aRes packR Option.map_some Option.map_none rel Prod.exists exists_and_left exists_eq_left and_assoc beq_self_eq_true Bool.not_true Bool.not_false decide_true decide_false List.set_cons_zero List.set_cons_succ rst_nil rst_cons
attribute [local go_sem ↓] evT upd_def aop aopc aopd
set_option maxRecDepth 100000
set_option linter.unusedVariables false
set_option linter.unusedSimpArgs false
open Go.RowKit
def lvX30_105 : Nat → List Nat
  | 0 => [0]
  | 1 => [0, 3]
  | 2 => [0, 3, 4]
  | 3 => [0, 3, 4, 9]
  | 4 => [0, 3, 4]
  | 5 => [0, 3, 4]
  | 6 => [2]
  | _ => []
def lvX30_125 : Nat → List Nat
  | 0 => [1, 2]
  | 1 => [1, 2, 3]
  | 2 => [2, 3]
  | 3 => [2]
  | _ => []
--LV=X30
/-- Bounds on data: few fields, lengths that are small. -/
def smF (f : FieldD) : Prop := f.name.length ≤ 1048576 ∧ f.text.length ≤ 1048576 ∧ f.items.length ≤ 1048576 ∧ ∀ t ∈ f.items, t.length ≤ 1048576
def smFs (l : List FieldD) : Prop := l.length ≤ 1048576 ∧ ∀ f ∈ l, smF f
theorem ex_FD30 {p : FieldD → Prop} : (∃ x, p x) ↔ ∃ n t b i, p ⟨n, t, b, i⟩ := ⟨fun ⟨⟨n, t, b, i⟩, h⟩ => ⟨n, t, b, i, h⟩, fun ⟨n, t, b, i, h⟩ => ⟨_, h⟩⟩
@[go_sem] def ofC : PC := rel (α := FieldD) (fun x => [.agg (encF x)]) smF (fun x => .agg (encF x))
theorem of_s : PureOk Try.prog 125 ofC := by
  refine pure_rel 1 tab_nil mixed [.cell 2 84] Try.func125 rfl rfl (by kernel_rfl) (by kernel_rfl) (fun _ => rfl) (by kernel_rfl) ?_
  rintro ⟨n, t, b, i⟩ K ⟨h1, h2, h3, h4⟩ hK
  dsimp only at h1 h2 h3 h4
  have hsl := strs_length i
  have hsa := strs_all i
  unfold entry
  repeat' (first | ((first | apply qwd | apply qa1 | apply qa2 | apply qa3 | apply qh1 | apply qh2 | apply qg1 rfl | apply qcd); (try intro K hk); focus (simp only [lvX30_125, mkT, go_sem, Nat.reduceEqDiff, Nat.reduceAdd, Nat.reduceLeDiff, Nat.reduceLT, Nat.reduceSub, Int.reduceToNat, ↓reduceIte, reduceCtorEq, encF_mk, hsl, hsa, List.nil_append]; first | exact rfl | ((repeat (refine And.intro ?_ ?_; focus (first | omega | assumption | with_reducible rfl))); intros; apply hk; clear hk K))) | apply qw8 | apply qw1 | refine qwc lvX30_125 ?_ | apply qt1 | apply qw5 | apply qw2 | apply qw9 | apply qt2 | apply qt3 | apply qt4 | apply qt5 | apply qt6 | apply qw3 | apply qw4 | apply qj1 | apply qj2 | apply qj3 | apply qj4 | apply qj5 | apply qu1 | apply qu2 | (refine qj6 ?_ ?_ <;> intro hc <;> (try simp only [hc]) <;> (try simp only [decide_eq_true_eq, decide_eq_false_iff_not, Bool.not_eq_true', Bool.not_eq_false', Bool.not_eq_true, reduceCtorEq] at hc) <;> (try (exfalso; omega))) | (refine qt7 ?_ ?_; focus decide) | (refine qw7 ?_ ?_ ?_; (focus (decide +kernel)); (focus (decide +kernel))))
  ((first | refine fin_ret ?_ | refine fin_end ?_); simp only [go_sem, ↓upd_def, Nat.reduceEqDiff, Nat.reduceAdd, ↓reduceIte, reduceCtorEq])
  exact ⟨Nat.le_refl _, hK⟩
@[go_sem] def olC : PC := rel (α := List FieldD) (fun x => [.seq (encFs x)]) smFs (fun x => .seq (encFs x))
theorem ol_s : PureOk Try.prog 105 olC := by
  refine pure_rel 1 (tab_cons of_s tab_nil) mixed [.tmp 2] Try.func105 rfl rfl (by kernel_rfl) (by kernel_rfl) (fun _ => rfl) (by kernel_rfl) ?_
  rintro l K ⟨hl, hall⟩ hK
  have hel := encFs_length l
  have hget := encFs_get l
  unfold entry
  repeat' (first | ((first | apply qwd | apply qa1 | apply qa2 | apply qa3 | apply qh1 | apply qh2 | apply qg1 rfl | apply qcd); (try intro K hk); focus (simp only [lvX30_105, mkT, go_sem, Nat.reduceEqDiff, Nat.reduceAdd, Nat.reduceLeDiff, Nat.reduceLT, Nat.reduceSub, Int.reduceToNat, ↓reduceIte, reduceCtorEq, hel]; first | exact rfl | ((repeat (refine And.intro ?_ ?_; focus (first | omega | assumption | with_reducible rfl))); intros; apply hk; clear hk K))) | apply qw8 | apply qw1 | refine qwc lvX30_105 ?_ | apply qt1 | apply qw5 | apply qw2 | apply qw9 | apply qt2 | apply qt3 | apply qt4 | apply qt5 | apply qt6 | apply qw3 | apply qw4 | apply qj1 | apply qj2 | apply qj3 | apply qj4 | apply qj5 | apply qu1 | apply qu2 | (refine qj6 ?_ ?_ <;> intro hc <;> (try simp only [hc]) <;> (try simp only [decide_eq_true_eq, decide_eq_false_iff_not, Bool.not_eq_true', Bool.not_eq_false', Bool.not_eq_true, reduceCtorEq] at hc) <;> (try (exfalso; omega))) | (refine qt7 ?_ ?_; focus decide) | (refine qw7 ?_ ?_ ?_; (focus (decide +kernel)); (focus (decide +kernel))))
  refine s_loop (ι := Nat) (fun k => [(0, .seq (encFs l)), (3, .own 0), (4, .int .i64 k)]) (fun k => [(0, .row 84 4 (encFs (l.take k)))]) 1 (fun k => k ≤ l.length) (fun k => l.length - k) 0 (by omega) (Nat.zero_le _) ?_ ?_
  · simp [fits, fitsT, fitsM, upd_def, PV.nmb, nmbL, MB.nmb, List.getD_cons_zero, List.getD_cons_succ, encFs]
  intro k hk
  simp only [mkS, mkT, mkM]
  by_cases hkl : k < l.length
  · obtain ⟨⟨n, t, b, i⟩, hx⟩ := get_some (xs := l) (k := k) hkl
    have hsm := hall _ (List.mem_of_getElem? hx)
    have htl : (encFs (l.take k)).length ≤ l.length := by rw [encFs_length, List.length_take]; omega
    have hta := encFs_all (l.take k)
    have hsn : encFs (l.take (k + 1)) = encFs (l.take k) ++ [[.str n, .str t, .bool b, .seq (strs i)]] := by rw [take_snoc' hx, encFs_append]; rfl
    repeat' (first | ((first | apply qwd | apply qa1 | apply qa2 | apply qa3 | apply qh1 | apply qh2 | apply qg1 rfl | apply qcd); (try intro K hk); focus (simp only [lvX30_105, mkT, go_sem, Nat.reduceEqDiff, Nat.reduceAdd, Nat.reduceLeDiff, Nat.reduceLT, Nat.reduceSub, Int.reduceToNat, ↓reduceIte, reduceCtorEq, hel, hget, hx, encF_mk, Option.map_some, ex_FD30, strs_iff, hta]; first | exact rfl | ((repeat (refine And.intro ?_ ?_; focus (first | omega | assumption | with_reducible rfl))); intros; apply hk; clear hk K))) | apply qw8 | apply qw1 | refine qwc lvX30_105 ?_ | apply qt1 | apply qw5 | apply qw2 | apply qw9 | apply qt2 | apply qt3 | apply qt4 | apply qt5 | apply qt6 | apply qw3 | apply qw4 | apply qj1 | apply qj2 | apply qj3 | apply qj4 | apply qj5 | apply qu1 | apply qu2 | (refine qj6 ?_ ?_ <;> intro hc <;> (try simp only [hc]) <;> (try simp only [decide_eq_true_eq, decide_eq_false_iff_not, Bool.not_eq_true', Bool.not_eq_false', Bool.not_eq_true, reduceCtorEq] at hc) <;> (try (exfalso; omega))) | (refine qt7 ?_ ?_; focus decide) | (refine qw7 ?_ ?_ ?_; (focus (decide +kernel)); (focus (decide +kernel))))
    refine s_againR (k + 1) (fun i => if i = 0 then 2 else i) ?_ ?_ ?_ ?_ ?_ ?_ <;> (first | omega | (dsimp only; omega) | (intro i hi; (try dsimp only); (repeat' split) <;> omega) | (intro i j hi hj h; (try dsimp only at h); (repeat' split at h) <;> omega) | skip)
    all_goals (simp [fitsTR, fitsMR, PV.ren, renL, MB.ren, upd_def, PV.nmb, nmbL, MB.nmb, List.getD_cons_zero, List.getD_cons_succ, frz, drp, hsn]; done)
  · obtain rfl : k = l.length := by omega
    repeat' (first | ((first | apply qwd | apply qa1 | apply qa2 | apply qa3 | apply qh1 | apply qh2 | apply qg1 rfl | apply qcd); (try intro K hk); focus (simp only [lvX30_105, mkT, go_sem, Nat.reduceEqDiff, Nat.reduceAdd, Nat.reduceLeDiff, Nat.reduceLT, Nat.reduceSub, Int.reduceToNat, ↓reduceIte, reduceCtorEq, hel]; first | exact rfl | ((repeat (refine And.intro ?_ ?_; focus (first | omega | assumption | with_reducible rfl))); intros; apply hk; clear hk K))) | apply qw8 | apply qw1 | refine qwc lvX30_105 ?_ | apply qt1 | apply qw5 | apply qw2 | apply qw9 | apply qt2 | apply qt3 | apply qt4 | apply qt5 | apply qt6 | apply qw3 | apply qw4 | apply qj1 | apply qj2 | apply qj3 | apply qj4 | apply qj5 | apply qu1 | apply qu2 | (refine qj6 ?_ ?_ <;> intro hc <;> (try simp only [hc]) <;> (try simp only [decide_eq_true_eq, decide_eq_false_iff_not, Bool.not_eq_true', Bool.not_eq_false', Bool.not_eq_true, reduceCtorEq] at hc) <;> (try (exfalso; omega))) | (refine qt7 ?_ ?_; focus decide) | (refine qw7 ?_ ?_ ?_; (focus (decide +kernel)); (focus (decide +kernel))))
    ((first | refine fin_ret ?_ | refine fin_end ?_); simp only [go_sem, ↓upd_def, Nat.reduceEqDiff, Nat.reduceAdd, ↓reduceIte, reduceCtorEq])
    rw [List.take_length]
    exact hK
end Go.Proofs.Ytdedddmnacomfaa
