/- Contracts: data (valueOk, fieldIn, within; the reference's l11Value, l11Find, l11With). -/
import Derived.Test.YtoocbpendccngaaWX9
import Derived.Test.YtoocbpendccngaaWK3
import Derived.Test.YtoocbpendccngaaWFL

namespace Go.Proofs.Ytoocbpendccngaa
attribute [local irreducible] awp arun acalm FinP Fin AX.then AX.inBlock Again aG gsel amix amixN amixC aop aopc aopd cutK
attribute [local go_sem] aBSliceD aSlice aSliceC boundOf aMk aCall aCallC aLenL aLen aPick_t aPick_f aNil aAlloc aBox aBuild bldPV aBSlice bsPV aApp newsOf destOf drp aConvX aConv aConvInt aLoad cellsAt aStore cellsPV setAt aFld aField aIdx aIndex aUn aBin' aBin aMax aExtract pvOf PV.isCell nmbL PV.nmb List.map_cons List.map_nil List.all_cons List.all_nil Bool.and_true Bool.true_and if_true if_false List.getD_cons_zero List.getD_cons_succ List.getD_nil Option.isSome_some true_and and_true and_self eq_self true_or or_true List.drop_zero List.drop_succ_cons List.drop_nil List.take_zero List.take_succ_cons List.take_nil List.length_cons List.length_nil List.length_map Option.getD_some Option.getD_none List.nil_append List.cons_append List.append_nil Option.some.injEq exists_eq_left' List.getElem?_cons_zero List.getElem?_cons_succ Int.toNat_natCast Int.natCast_inj toNat_succ Nat.zero_add res res1 resC owns owns1 ownsC List.flatMap_cons List.flatMap_nil List.flatten_cons List.flatten_nil List.mem_cons List.not_mem_nil or_false false_or forall_eq forall_eq_or_imp isFro frz frz1 pureC tabA isBld List.cons.injEq PV.seq.injEq PV.int.injEq PV.str.injEq PV.bool.injEq PV.agg.injEq inR tab Γof aRes packR Option.map_some Option.map_none rel Prod.exists exists_and_left exists_eq_left and_assoc beq_self_eq_true Bool.not_true Bool.not_false decide_true decide_false List.set_cons_zero List.set_cons_succ rst_nil rst_cons
attribute [local go_sem ↓] evT upd_def aop aopc aopd
set_option maxRecDepth 100000
set_option linter.unusedVariables false
set_option linter.unusedSimpArgs false
open Go.RowKit
def lvX16_91 : Nat → List Nat
  | 0 => [0]
  | 1 => [0, 11]
  | 2 => [2]
  | 3 => [0, 12, 13, 14]
  | 4 => [0, 12, 13, 14, 15]
  | 5 => [0, 3, 4, 12, 13, 14]
  | 6 => [0, 3, 4, 12, 13, 14, 34]
  | 7 => [2]
  | 8 => [0, 3, 4, 12, 13, 14, 36, 37, 38]
  | 9 => [0, 3, 4, 12, 13, 14, 36, 37, 38, 39]
  | 10 => [0, 3, 4, 6, 12, 13, 14, 36, 37, 38]
  | 11 => [0, 3, 4, 12, 13, 14, 36, 37, 38, 44]
  | 12 => [2]
  | 13 => [0, 3, 4, 12, 13, 14, 36, 37, 38]
  | 14 => [0, 4, 12, 13, 14, 48, 49, 50]
  | 15 => [0, 4, 12, 13, 14, 48, 49, 50, 51]
  | 16 => [0, 4, 8, 12, 13, 14, 48, 49, 50]
  | 17 => [0, 4, 12, 13, 14, 48, 49, 50, 58]
  | 18 => [2]
  | 19 => [0, 4, 12, 13, 14, 48, 49, 50]
  | 20 => [0, 12, 13, 14]
  | 21 => [2]
  | _ => []
def lvX16_108 : Nat → List Nat
  | 0 => [0, 1, 4]
  | 1 => [1, 4, 8, 9, 10]
  | 2 => [1, 4, 8, 9, 10, 11]
  | 3 => [1, 4, 7, 8, 9, 10]
  | 4 => [1, 4, 7, 8, 9, 10, 17]
  | 5 => [4, 7]
  | 6 => [4, 5]
  | 7 => [1, 4, 8, 9, 10]
  | 8 => [4, 5]
  | _ => []
def lvX16_137 : Nat → List Nat
  | 0 => [0, 1]
  | 1 => [0, 5]
  | 2 => [5, 11, 12, 13]
  | 3 => [5, 11, 12, 13, 14]
  | 4 => [5, 7, 11, 12, 13]
  | 5 => [5, 7, 11, 12, 13, 19]
  | 6 => [5, 11, 12, 13]
  | 7 => [5, 11, 12, 13]
  | 8 => [4]
  | _ => []
--LV=X16
theorem val_i : PureOk Try.prog 136 (strC valB) := by
  refine pure_rel 1 (tab_cons text_i tab_nil) mixed [.tmp 2] Try.func136 rfl rfl (by kernel_rfl) (by kernel_rfl) (fun _ => rfl) (by kernel_rfl) ?_
  rintro s K hl hK
  unfold entry
  repeat' (first | apply qw8 | apply qw1 | apply qw6 | apply qt1 | apply qw5 | apply qw2 | apply qw9 | apply qt2 | apply qt3 | apply qt4 | apply qt5 | apply qt6 | apply qw3 | apply qw4 | apply qj1 | apply qj2 | apply qj3 | apply qj4 | apply qj5 | apply qu1 | apply qu2 | ((first | apply qa1 | apply qa2 | apply qa3 | apply qh1 | apply qh2); intro K hk; simp only [go_sem, Nat.reduceEqDiff, Nat.reduceAdd, Nat.reduceLeDiff, Nat.reduceLT, Nat.reduceSub, Int.reduceToNat, ↓reduceIte, reduceCtorEq]; (repeat (refine And.intro ?_ ?_; focus (first | omega | assumption | with_reducible rfl | (simp only [go_sem, Nat.reduceEqDiff, Nat.reduceAdd, Nat.reduceLeDiff, Nat.reduceLT, Nat.reduceSub, Int.reduceToNat, ↓reduceIte, reduceCtorEq]; done)))); intros; apply hk; clear hk K) | ((first | apply qg1 rfl | apply qcd); focus (simp only [go_sem, Nat.reduceEqDiff, Nat.reduceAdd, Nat.reduceLeDiff, Nat.reduceLT, Nat.reduceSub, Int.reduceToNat, ↓reduceIte, reduceCtorEq]; exact rfl)) | (refine qj6 ?_ ?_ <;> intro hc <;> (try simp only [hc]) <;> (try simp only [decide_eq_true_eq, decide_eq_false_iff_not, Bool.not_eq_true', Bool.not_eq_false', Bool.not_eq_true, reduceCtorEq] at hc) <;> (try (exfalso; omega))) | (refine qt7 ?_ ?_; focus decide) | (refine qw7 ?_ ?_ ?_; (focus (decide +kernel)); (focus (decide +kernel))))
  all_goals
    ((first | refine fin_ret ?_ | refine fin_end ?_); simp only [go_sem, ↓upd_def, Nat.reduceEqDiff, Nat.reduceAdd, ↓reduceIte, reduceCtorEq])
    refine K_bool hK ?_
    unfold valB
    first
      | (rw [decide_eq_true (by omega), Bool.true_and]; done)
      | (rw [decide_eq_true (by omega)]; simp [*]; done)
      | (rw [decide_eq_false (by omega)]; rfl)
@[go_sem] def fdC (out : List FieldD × Bs → PV) : PC := rel (α := List FieldD × Bs) (fun x => [.seq (encFs x.1), .str x.2]) (fun x => x.1.length ≤ 1000 ∧ dBd x.1 ∧ x.2.length ≤ 9223372036854775807) out
theorem find_at {l : List FieldD} {k : Nat} {f : FieldD} (hx : l[k]? = some f) (n : Bs) : findF (l.drop k) n = if f.name = n then f else findF (l.drop (k + 1)) n := by
  rw [drop_at hx, findF]
theorem has_at {l : List FieldD} {k : Nat} {f : FieldD} (hx : l[k]? = some f) (n : Bs) : hasF (l.drop k) n = (decide (f.name = n) || hasF (l.drop (k + 1)) n) := by
  rw [drop_at hx]; unfold hasF; rw [List.any_cons]
set_option maxHeartbeats 8000000 in
theorem fld_i : PureOk Try.prog 108 (fdC fun x => .tup [.agg (encF (findF x.1 x.2)), .bool (hasF x.1 x.2)]) := by
  refine pure_rel 2 tab_nil mixed [.cell 4 67, .tmp 5] Try.func108 rfl rfl (by kernel_rfl) (by kernel_rfl) (fun _ => rfl) (by kernel_rfl) ?_
  rintro ⟨l, n⟩ K ⟨hl, hok, hn⟩ hK
  dsimp only at *
  have hel := encFs_length l
  unfold entry
  repeat' (first | (refine qwd fun K hk => ?_; simp only [lvX16_108, mkT, go_sem, Nat.reduceEqDiff, Nat.reduceAdd, Nat.reduceLeDiff, Nat.reduceLT, Nat.reduceSub, Int.reduceToNat, ↓reduceIte, reduceCtorEq, encFs_length]; apply hk; clear hk K) | apply qw8 | apply qw1 | refine qwc lvX16_108 ?_ | apply qt1 | apply qw5 | apply qw2 | apply qw9 | apply qt2 | apply qt3 | apply qt4 | apply qt5 | apply qt6 | apply qw3 | apply qw4 | apply qj1 | apply qj2 | apply qj3 | apply qj4 | apply qj5 | apply qu1 | apply qu2 | ((first | apply qa1 | apply qa2 | apply qa3 | apply qh1 | apply qh2); intro K hk; simp only [go_sem, Nat.reduceEqDiff, Nat.reduceAdd, Nat.reduceLeDiff, Nat.reduceLT, Nat.reduceSub, Int.reduceToNat, ↓reduceIte, reduceCtorEq, encFs_length]; (repeat (refine And.intro ?_ ?_; focus (first | omega | assumption | with_reducible rfl | (simp only [go_sem, Nat.reduceEqDiff, Nat.reduceAdd, Nat.reduceLeDiff, Nat.reduceLT, Nat.reduceSub, Int.reduceToNat, ↓reduceIte, reduceCtorEq, encFs_length]; done)))); intros; apply hk; clear hk K) | ((first | apply qg1 rfl | apply qcd); focus (simp only [go_sem, Nat.reduceEqDiff, Nat.reduceAdd, Nat.reduceLeDiff, Nat.reduceLT, Nat.reduceSub, Int.reduceToNat, ↓reduceIte, reduceCtorEq, encFs_length]; exact rfl)) | (refine qj6 ?_ ?_ <;> intro hc <;> (try simp only [hc]) <;> (try simp only [decide_eq_true_eq, decide_eq_false_iff_not, Bool.not_eq_true', Bool.not_eq_false', Bool.not_eq_true, reduceCtorEq] at hc) <;> (try (exfalso; omega))) | (refine qt7 ?_ ?_; focus decide) | (refine qw7 ?_ ?_ ?_; (focus (decide +kernel)); (focus (decide +kernel))))
  refine s_loop (ι := Nat) (fun k => [(1, .str n), (4, .ref 0 0), (8, .seq (encFs l)), (9, .int .i64 l.length), (10, .int .i64 k)]) (fun _ => [(0, .box [.str [], .str [], .bool false, .nil])]) 1 (fun k => k ≤ l.length ∧ findF l n = findF (l.drop k) n ∧ hasF l n = hasF (l.drop k) n) (fun k => l.length - k) 0 (by omega) ⟨Nat.zero_le _, rfl, rfl⟩ ?_ ?_
  · simp [fits, fitsT, fitsM, upd_def, PV.nmb, nmbL, MB.nmb, List.getD_cons_zero, List.getD_cons_succ]
  rintro k ⟨hk, h1, h2⟩
  simp only [mkS, mkT, mkM]
  by_cases hkl : k < l.length
  · obtain ⟨⟨nm, tx, hd, its⟩, hx⟩ := get_some (xs := l) (k := k) hkl
    obtain ⟨o1, o2, o3, o4⟩ := hok _ (List.mem_of_getElem? hx)
    have hget := encFs_get l
    have hsl := strs_length its
    have hsa := strs_all its
    rw [find_at hx] at h1
    rw [has_at hx] at h2
    dsimp only at h1 h2 o1 o2 o3 o4
    repeat' (first | (refine qwd fun K hk => ?_; simp only [lvX16_108, mkT, go_sem, Nat.reduceEqDiff, Nat.reduceAdd, Nat.reduceLeDiff, Nat.reduceLT, Nat.reduceSub, Int.reduceToNat, ↓reduceIte, reduceCtorEq, encFs_length, hget, hx, encF_mk, hsl, hsa, Option.map_some, List.nil_append]; apply hk; clear hk K) | apply qw8 | apply qw1 | refine qwc lvX16_108 ?_ | apply qt1 | apply qw5 | apply qw2 | apply qw9 | apply qt2 | apply qt3 | apply qt4 | apply qt5 | apply qt6 | apply qw3 | apply qw4 | apply qj1 | apply qj2 | apply qj3 | apply qj4 | apply qj5 | apply qu1 | apply qu2 | ((first | apply qa1 | apply qa2 | apply qa3 | apply qh1 | apply qh2); intro K hk; simp only [go_sem, Nat.reduceEqDiff, Nat.reduceAdd, Nat.reduceLeDiff, Nat.reduceLT, Nat.reduceSub, Int.reduceToNat, ↓reduceIte, reduceCtorEq, encFs_length, hget, hx, encF_mk, hsl, hsa, Option.map_some, List.nil_append]; (repeat (refine And.intro ?_ ?_; focus (first | omega | assumption | with_reducible rfl | (simp only [go_sem, Nat.reduceEqDiff, Nat.reduceAdd, Nat.reduceLeDiff, Nat.reduceLT, Nat.reduceSub, Int.reduceToNat, ↓reduceIte, reduceCtorEq, encFs_length, hget, hx, encF_mk, hsl, hsa, Option.map_some, List.nil_append]; done)))); intros; apply hk; clear hk K) | ((first | apply qg1 rfl | apply qcd); focus (simp only [go_sem, Nat.reduceEqDiff, Nat.reduceAdd, Nat.reduceLeDiff, Nat.reduceLT, Nat.reduceSub, Int.reduceToNat, ↓reduceIte, reduceCtorEq, encFs_length, hget, hx, encF_mk, hsl, hsa, Option.map_some, List.nil_append]; exact rfl)) | (refine qj6 ?_ ?_ <;> intro hc <;> (try simp only [hc]) <;> (try simp only [decide_eq_true_eq, decide_eq_false_iff_not, Bool.not_eq_true', Bool.not_eq_false', Bool.not_eq_true, reduceCtorEq] at hc) <;> (try (exfalso; omega))) | (refine qt7 ?_ ?_; focus decide) | (refine qw7 ?_ ?_ ?_; (focus (decide +kernel)); (focus (decide +kernel))))
    · ((first | refine fin_ret ?_ | refine fin_end ?_); simp only [go_sem, ↓upd_def, Nat.reduceEqDiff, Nat.reduceAdd, ↓reduceIte, reduceCtorEq])
      refine ⟨Nat.le_refl _, K_eq hK ?_⟩
      rw [h1, h2, if_pos ‹_›, decide_eq_true ‹_›, Bool.true_or, encF_mk]
    · rw [if_neg ‹_›] at h1
      rw [decide_eq_false ‹_›, Bool.false_or] at h2
      refine s_again (k + 1) ?_ ?_ ?_ <;> (first | omega | (dsimp only; omega) | skip)
      · exact ⟨by omega, h1, h2⟩
      · simp [fits, fitsT, fitsM, upd_def, PV.nmb, nmbL, MB.nmb, List.getD_cons_zero, List.getD_cons_succ]
  · repeat' (first | (refine qwd fun K hk => ?_; simp only [lvX16_108, mkT, go_sem, Nat.reduceEqDiff, Nat.reduceAdd, Nat.reduceLeDiff, Nat.reduceLT, Nat.reduceSub, Int.reduceToNat, ↓reduceIte, reduceCtorEq, encFs_length]; apply hk; clear hk K) | apply qw8 | apply qw1 | refine qwc lvX16_108 ?_ | apply qt1 | apply qw5 | apply qw2 | apply qw9 | apply qt2 | apply qt3 | apply qt4 | apply qt5 | apply qt6 | apply qw3 | apply qw4 | apply qj1 | apply qj2 | apply qj3 | apply qj4 | apply qj5 | apply qu1 | apply qu2 | ((first | apply qa1 | apply qa2 | apply qa3 | apply qh1 | apply qh2); intro K hk; simp only [go_sem, Nat.reduceEqDiff, Nat.reduceAdd, Nat.reduceLeDiff, Nat.reduceLT, Nat.reduceSub, Int.reduceToNat, ↓reduceIte, reduceCtorEq, encFs_length]; (repeat (refine And.intro ?_ ?_; focus (first | omega | assumption | with_reducible rfl | (simp only [go_sem, Nat.reduceEqDiff, Nat.reduceAdd, Nat.reduceLeDiff, Nat.reduceLT, Nat.reduceSub, Int.reduceToNat, ↓reduceIte, reduceCtorEq, encFs_length]; done)))); intros; apply hk; clear hk K) | ((first | apply qg1 rfl | apply qcd); focus (simp only [go_sem, Nat.reduceEqDiff, Nat.reduceAdd, Nat.reduceLeDiff, Nat.reduceLT, Nat.reduceSub, Int.reduceToNat, ↓reduceIte, reduceCtorEq, encFs_length]; exact rfl)) | (refine qj6 ?_ ?_ <;> intro hc <;> (try simp only [hc]) <;> (try simp only [decide_eq_true_eq, decide_eq_false_iff_not, Bool.not_eq_true', Bool.not_eq_false', Bool.not_eq_true, reduceCtorEq] at hc) <;> (try (exfalso; omega))) | (refine qt7 ?_ ?_; focus decide) | (refine qw7 ?_ ?_ ?_; (focus (decide +kernel)); (focus (decide +kernel))))
    ((first | refine fin_ret ?_ | refine fin_end ?_); simp only [go_sem, ↓upd_def, Nat.reduceEqDiff, Nat.reduceAdd, ↓reduceIte, reduceCtorEq])
    rw [List.drop_of_length_le (by omega)] at h1 h2
    refine ⟨Nat.le_refl _, K_eq hK ?_⟩
    rw [h1, h2]
    rfl
@[go_sem] def wiC : PC := rel (α := List FieldD × Bs) (fun x => [.seq (encFs x.1), .str x.2]) (fun x => x.1.length ≤ 1000 ∧ x.2.length ≤ 1000) (fun x => .seq (encFs (withF x.1 x.2)))
set_option maxHeartbeats 8000000 in
theorem wi_i : PureOk Try.prog 137 wiC := by
  refine pure_rel 2 tab_nil mixed [.tmp 4] Try.func137 rfl rfl (by kernel_rfl) (by kernel_rfl) (fun _ => rfl) (by kernel_rfl) ?_
  rintro ⟨l, t⟩ K ⟨hl, ht⟩ hK
  dsimp only at *
  have hel := encFs_length l
  unfold entry
  repeat' (first | (refine qwd fun K hk => ?_; simp only [lvX16_137, mkT, go_sem, Nat.reduceEqDiff, Nat.reduceAdd, Nat.reduceLeDiff, Nat.reduceLT, Nat.reduceSub, Int.reduceToNat, ↓reduceIte, reduceCtorEq, encFs_length]; apply hk; clear hk K) | apply qw8 | apply qw1 | refine qwc lvX16_137 ?_ | apply qt1 | apply qw5 | apply qw2 | apply qw9 | apply qt2 | apply qt3 | apply qt4 | apply qt5 | apply qt6 | apply qw3 | apply qw4 | apply qj1 | apply qj2 | apply qj3 | apply qj4 | apply qj5 | apply qu1 | apply qu2 | ((first | apply qa1 | apply qa2 | apply qa3 | apply qh1 | apply qh2); intro K hk; simp only [go_sem, Nat.reduceEqDiff, Nat.reduceAdd, Nat.reduceLeDiff, Nat.reduceLT, Nat.reduceSub, Int.reduceToNat, ↓reduceIte, reduceCtorEq, encFs_length]; (repeat (refine And.intro ?_ ?_; focus (first | omega | assumption | with_reducible rfl | (simp only [go_sem, Nat.reduceEqDiff, Nat.reduceAdd, Nat.reduceLeDiff, Nat.reduceLT, Nat.reduceSub, Int.reduceToNat, ↓reduceIte, reduceCtorEq, encFs_length]; done)))); intros; apply hk; clear hk K) | ((first | apply qg1 rfl | apply qcd); focus (simp only [go_sem, Nat.reduceEqDiff, Nat.reduceAdd, Nat.reduceLeDiff, Nat.reduceLT, Nat.reduceSub, Int.reduceToNat, ↓reduceIte, reduceCtorEq, encFs_length]; exact rfl)) | (refine qj6 ?_ ?_ <;> intro hc <;> (try simp only [hc]) <;> (try simp only [decide_eq_true_eq, decide_eq_false_iff_not, Bool.not_eq_true', Bool.not_eq_false', Bool.not_eq_true, reduceCtorEq] at hc) <;> (try (exfalso; omega))) | (refine qt7 ?_ ?_; focus decide) | (refine qw7 ?_ ?_ ?_; (focus (decide +kernel)); (focus (decide +kernel))))
  refine s_loop (ι := Nat) (fun k => [(5, .own 0), (11, .seq (encFs l)), (12, .int .i64 l.length), (13, .int .i64 k)]) (fun k => [(0, .row 67 4 (encFs (withF (l.take k) t)))]) 1 (fun k => k ≤ l.length) (fun k => l.length - k) 0 (by omega) (Nat.zero_le _) ?_ ?_
  · simp [fits, fitsT, fitsM, upd_def, PV.nmb, nmbL, MB.nmb, List.getD_cons_zero, List.getD_cons_succ, withF, encFs, encF_mk, itemN, strs]
  rintro k hk
  simp only [mkS, mkT, mkM]
  by_cases hkl : k < l.length
  · obtain ⟨⟨nm, tx, hd, its⟩, hx⟩ := get_some (xs := l) (k := k) hkl
    have hget := encFs_get l
    have hwl := with_len (l.take k) t
    rw [List.length_take] at hwl
    have hwt := with_take hx t
    have hea := encFs_all (withF (l.take k) t)
    dsimp only at hwt
    repeat' (first | (refine qwd fun K hk => ?_; simp only [lvX16_137, mkT, go_sem, Nat.reduceEqDiff, Nat.reduceAdd, Nat.reduceLeDiff, Nat.reduceLT, Nat.reduceSub, Int.reduceToNat, ↓reduceIte, reduceCtorEq, encFs_length, hget, hx, encF_mk, Option.map_some, hea]; apply hk; clear hk K) | apply qw8 | apply qw1 | refine qwc lvX16_137 ?_ | apply qt1 | apply qw5 | apply qw2 | apply qw9 | apply qt2 | apply qt3 | apply qt4 | apply qt5 | apply qt6 | apply qw3 | apply qw4 | apply qj1 | apply qj2 | apply qj3 | apply qj4 | apply qj5 | apply qu1 | apply qu2 | ((first | apply qa1 | apply qa2 | apply qa3 | apply qh1 | apply qh2); intro K hk; simp only [go_sem, Nat.reduceEqDiff, Nat.reduceAdd, Nat.reduceLeDiff, Nat.reduceLT, Nat.reduceSub, Int.reduceToNat, ↓reduceIte, reduceCtorEq, encFs_length, hget, hx, encF_mk, Option.map_some, hea]; (repeat (refine And.intro ?_ ?_; focus (first | omega | assumption | with_reducible rfl | (simp only [go_sem, Nat.reduceEqDiff, Nat.reduceAdd, Nat.reduceLeDiff, Nat.reduceLT, Nat.reduceSub, Int.reduceToNat, ↓reduceIte, reduceCtorEq, encFs_length, hget, hx, encF_mk, Option.map_some, hea]; done)))); intros; apply hk; clear hk K) | ((first | apply qg1 rfl | apply qcd); focus (simp only [go_sem, Nat.reduceEqDiff, Nat.reduceAdd, Nat.reduceLeDiff, Nat.reduceLT, Nat.reduceSub, Int.reduceToNat, ↓reduceIte, reduceCtorEq, encFs_length, hget, hx, encF_mk, Option.map_some, hea]; exact rfl)) | (refine qj6 ?_ ?_ <;> intro hc <;> (try simp only [hc]) <;> (try simp only [decide_eq_true_eq, decide_eq_false_iff_not, Bool.not_eq_true', Bool.not_eq_false', Bool.not_eq_true, reduceCtorEq] at hc) <;> (try (exfalso; omega))) | (refine qt7 ?_ ?_; focus decide) | (refine qw7 ?_ ?_ ?_; (focus (decide +kernel)); (focus (decide +kernel))))
    · refine s_againR (k + 1) (fun i => if i = 0 then 3 else i) ?_ ?_ ?_ ?_ ?_ ?_ <;> (first | omega | (dsimp only; omega) | (intro i hi; (try dsimp only); (repeat' split) <;> omega) | (intro i j hi hj h; (try dsimp only at h); (repeat' split at h) <;> omega) | skip)
      all_goals (rw [if_neg (show ¬ nm = itemN from ‹_›)] at hwt; simp [fitsTR, fitsMR, PV.ren, renL, MB.ren, upd_def, PV.nmb, nmbL, MB.nmb, List.getD_cons_zero, List.getD_cons_succ, frz, drp, hwt, encFs_append, encFs_one, encF_mk]; done)
    · rw [if_pos (show nm = itemN from ‹_›)] at hwt
      refine s_again (k + 1) ?_ ?_ ?_ <;> (first | omega | (dsimp only; omega) | skip)
      simp [fits, fitsT, fitsM, upd_def, PV.nmb, nmbL, MB.nmb, List.getD_cons_zero, List.getD_cons_succ, hwt]
  · obtain rfl : k = l.length := by omega
    repeat' (first | (refine qwd fun K hk => ?_; simp only [lvX16_137, mkT, go_sem, Nat.reduceEqDiff, Nat.reduceAdd, Nat.reduceLeDiff, Nat.reduceLT, Nat.reduceSub, Int.reduceToNat, ↓reduceIte, reduceCtorEq, encFs_length]; apply hk; clear hk K) | apply qw8 | apply qw1 | refine qwc lvX16_137 ?_ | apply qt1 | apply qw5 | apply qw2 | apply qw9 | apply qt2 | apply qt3 | apply qt4 | apply qt5 | apply qt6 | apply qw3 | apply qw4 | apply qj1 | apply qj2 | apply qj3 | apply qj4 | apply qj5 | apply qu1 | apply qu2 | ((first | apply qa1 | apply qa2 | apply qa3 | apply qh1 | apply qh2); intro K hk; simp only [go_sem, Nat.reduceEqDiff, Nat.reduceAdd, Nat.reduceLeDiff, Nat.reduceLT, Nat.reduceSub, Int.reduceToNat, ↓reduceIte, reduceCtorEq, encFs_length]; (repeat (refine And.intro ?_ ?_; focus (first | omega | assumption | with_reducible rfl | (simp only [go_sem, Nat.reduceEqDiff, Nat.reduceAdd, Nat.reduceLeDiff, Nat.reduceLT, Nat.reduceSub, Int.reduceToNat, ↓reduceIte, reduceCtorEq, encFs_length]; done)))); intros; apply hk; clear hk K) | ((first | apply qg1 rfl | apply qcd); focus (simp only [go_sem, Nat.reduceEqDiff, Nat.reduceAdd, Nat.reduceLeDiff, Nat.reduceLT, Nat.reduceSub, Int.reduceToNat, ↓reduceIte, reduceCtorEq, encFs_length]; exact rfl)) | (refine qj6 ?_ ?_ <;> intro hc <;> (try simp only [hc]) <;> (try simp only [decide_eq_true_eq, decide_eq_false_iff_not, Bool.not_eq_true', Bool.not_eq_false', Bool.not_eq_true, reduceCtorEq] at hc) <;> (try (exfalso; omega))) | (refine qt7 ?_ ?_; focus decide) | (refine qw7 ?_ ?_ ?_; (focus (decide +kernel)); (focus (decide +kernel))))
    ((first | refine fin_ret ?_ | refine fin_end ?_); simp only [go_sem, ↓upd_def, Nat.reduceEqDiff, Nat.reduceAdd, ↓reduceIte, reduceCtorEq])
    rw [List.take_length]
    exact hK
@[go_sem] def dvC : PC := rel (α := List FieldD) (fun l => [.seq (encFs l)]) okF (fun l => .bool (dataB l))
theorem fld_bad {nm tx : Bs} {hd : Bool} {its : List Bs} (h : nameB nm = false ∨ valB tx = false ∨ 5 < its.length ∨ its.all valB = false) : fldB ⟨nm, tx, hd, its⟩ = false := by
  unfold fldB
  rcases h with h | h | h | h
  · simp [h]
  · simp [h]
  · have : decide (its.length ≤ 5) = false := decide_eq_false (by omega)
    simp [this]
  · simp only [h, Bool.and_false]
theorem fld_good {nm tx : Bs} {hd : Bool} {its : List Bs} (h1 : nameB nm = true) (h2 : valB tx = true) (h3 : ¬ 5 < its.length) (h4 : its.all valB = true) : fldB ⟨nm, tx, hd, its⟩ = true := by
  unfold fldB
  have : decide (its.length ≤ 5) = true := decide_eq_true (by omega)
  simp only [h1, h2, h4, this, Bool.and_true]
theorem data_bad {l : List FieldD} {k : Nat} {f : FieldD} (hx : l[k]? = some f) (h : fldB f = false ∨ hasF (l.take k) f.name = true) : dataB l = false := by
  unfold dataB
  rw [datL_fail hx (by rcases h with h | h <;> simp [h])]; simp
theorem data_next {l : List FieldD} {k : Nat} {f : FieldD} (hx : l[k]? = some f) (h : datL [] (l.take k) = true) (h1 : fldB f = true) (h2 : hasF (l.take k) f.name = false) : datL [] (l.take (k + 1)) = true := by
  rw [datL_take hx, h, h1, h2]; rfl
set_option maxHeartbeats 8000000 in
theorem dv_i : PureOk Try.prog 91 dvC := by
  refine pure_rel 1 (tab_cons name_i (tab_cons val_i tab_nil)) mixed [.tmp 2] Try.func91 rfl rfl (by kernel_rfl) (by kernel_rfl) (fun _ => rfl) (by kernel_rfl) ?_
  rintro l K hok hK
  obtain ⟨hl, hall⟩ := id hok
  have hel := encFs_length l
  unfold entry
  repeat' (first | (refine qwd fun K hk => ?_; simp only [lvX16_91, mkT, go_sem, Nat.reduceEqDiff, Nat.reduceAdd, Nat.reduceLeDiff, Nat.reduceLT, Nat.reduceSub, Int.reduceToNat, ↓reduceIte, reduceCtorEq, encFs_length]; apply hk; clear hk K) | apply qw8 | apply qw1 | refine qwc lvX16_91 ?_ | apply qt1 | apply qw5 | apply qw2 | apply qw9 | apply qt2 | apply qt3 | apply qt4 | apply qt5 | apply qt6 | apply qw3 | apply qw4 | apply qj1 | apply qj2 | apply qj3 | apply qj4 | apply qj5 | apply qu1 | apply qu2 | ((first | apply qa1 | apply qa2 | apply qa3 | apply qh1 | apply qh2); intro K hk; simp only [go_sem, Nat.reduceEqDiff, Nat.reduceAdd, Nat.reduceLeDiff, Nat.reduceLT, Nat.reduceSub, Int.reduceToNat, ↓reduceIte, reduceCtorEq, encFs_length]; (repeat (refine And.intro ?_ ?_; focus (first | omega | assumption | with_reducible rfl | (simp only [go_sem, Nat.reduceEqDiff, Nat.reduceAdd, Nat.reduceLeDiff, Nat.reduceLT, Nat.reduceSub, Int.reduceToNat, ↓reduceIte, reduceCtorEq, encFs_length]; done)))); intros; apply hk; clear hk K) | ((first | apply qg1 rfl | apply qcd); focus (simp only [go_sem, Nat.reduceEqDiff, Nat.reduceAdd, Nat.reduceLeDiff, Nat.reduceLT, Nat.reduceSub, Int.reduceToNat, ↓reduceIte, reduceCtorEq, encFs_length]; exact rfl)) | (refine qj6 ?_ ?_ <;> intro hc <;> (try simp only [hc]) <;> (try simp only [decide_eq_true_eq, decide_eq_false_iff_not, Bool.not_eq_true', Bool.not_eq_false', Bool.not_eq_true, reduceCtorEq] at hc) <;> (try (exfalso; omega))) | (refine qt7 ?_ ?_; focus decide) | (refine qw7 ?_ ?_ ?_; (focus (decide +kernel)); (focus (decide +kernel))))
  · ((first | refine fin_ret ?_ | refine fin_end ?_); simp only [go_sem, ↓upd_def, Nat.reduceEqDiff, Nat.reduceAdd, ↓reduceIte, reduceCtorEq])
    refine K_bool hK ?_
    unfold dataB
    rw [decide_eq_false (by omega)]; rfl
  refine s_loop (ι := Nat) (fun k => [(0, .seq (encFs l)), (12, .seq (encFs l)), (13, .int .i64 l.length), (14, .int .i64 k)]) (fun _ => []) 0 (fun k => k ≤ l.length ∧ datL [] (l.take k) = true) (fun k => l.length - k) 0 (by omega) ⟨Nat.zero_le _, rfl⟩ ?_ ?_
  · simp [fits, fitsT, fitsM, upd_def, PV.nmb, nmbL, MB.nmb, List.getD_cons_zero, List.getD_cons_succ]
  rintro k ⟨hk, hd0⟩
  simp only [mkS, mkT, mkM]
  by_cases hkl : k < l.length
  · obtain ⟨⟨nm, tx, hd, its⟩, hx⟩ := get_some (xs := l) (k := k) hkl
    obtain ⟨o1, o2, o3, o4⟩ := okF_get hok hx
    have hget := encFs_get l
    have hsl := strs_length its
    dsimp only at o1 o2 o3 o4
    repeat' (first | (refine qwd fun K hk => ?_; simp only [lvX16_91, mkT, go_sem, Nat.reduceEqDiff, Nat.reduceAdd, Nat.reduceLeDiff, Nat.reduceLT, Nat.reduceSub, Int.reduceToNat, ↓reduceIte, reduceCtorEq, encFs_length, hget, hx, encF_mk, Option.map_some, hsl]; apply hk; clear hk K) | apply qw8 | apply qw1 | refine qwc lvX16_91 ?_ | apply qt1 | apply qw5 | apply qw2 | apply qw9 | apply qt2 | apply qt3 | apply qt4 | apply qt5 | apply qt6 | apply qw3 | apply qw4 | apply qj1 | apply qj2 | apply qj3 | apply qj4 | apply qj5 | apply qu1 | apply qu2 | ((first | apply qa1 | apply qa2 | apply qa3 | apply qh1 | apply qh2); intro K hk; simp only [go_sem, Nat.reduceEqDiff, Nat.reduceAdd, Nat.reduceLeDiff, Nat.reduceLT, Nat.reduceSub, Int.reduceToNat, ↓reduceIte, reduceCtorEq, encFs_length, hget, hx, encF_mk, Option.map_some, hsl]; (repeat (refine And.intro ?_ ?_; focus (first | omega | assumption | with_reducible rfl | (simp only [go_sem, Nat.reduceEqDiff, Nat.reduceAdd, Nat.reduceLeDiff, Nat.reduceLT, Nat.reduceSub, Int.reduceToNat, ↓reduceIte, reduceCtorEq, encFs_length, hget, hx, encF_mk, Option.map_some, hsl]; done)))); intros; apply hk; clear hk K) | ((first | apply qg1 rfl | apply qcd); focus (simp only [go_sem, Nat.reduceEqDiff, Nat.reduceAdd, Nat.reduceLeDiff, Nat.reduceLT, Nat.reduceSub, Int.reduceToNat, ↓reduceIte, reduceCtorEq, encFs_length, hget, hx, encF_mk, Option.map_some, hsl]; exact rfl)) | (refine qj6 ?_ ?_ <;> intro hc <;> (try simp only [hc]) <;> (try simp only [decide_eq_true_eq, decide_eq_false_iff_not, Bool.not_eq_true', Bool.not_eq_false', Bool.not_eq_true, reduceCtorEq] at hc) <;> (try (exfalso; omega))) | (refine qt7 ?_ ?_; focus decide) | (refine qw7 ?_ ?_ ?_; (focus (decide +kernel)); (focus (decide +kernel))))
    · ((first | refine fin_ret ?_ | refine fin_end ?_); simp only [go_sem, ↓upd_def, Nat.reduceEqDiff, Nat.reduceAdd, ↓reduceIte, reduceCtorEq])
      exact K_bool hK (data_bad hx (.inl (fld_bad (.inl ‹_›))))
    · ((first | refine fin_ret ?_ | refine fin_end ?_); simp only [go_sem, ↓upd_def, Nat.reduceEqDiff, Nat.reduceAdd, ↓reduceIte, reduceCtorEq])
      exact K_bool hK (data_bad hx (.inl (fld_bad (.inr (.inl ‹_›)))))
    · ((first | refine fin_ret ?_ | refine fin_end ?_); simp only [go_sem, ↓upd_def, Nat.reduceEqDiff, Nat.reduceAdd, ↓reduceIte, reduceCtorEq])
      exact K_bool hK (data_bad hx (.inl (fld_bad (.inr (.inr (.inl (by omega)))))))
    have hn1 : nameB nm = true := ‹_›
    have hv1 : valB tx = true := ‹_›
    have hi1 : ¬ 5 < its.length := by omega
    refine s_loop (ι := Nat) (fun j => [(0, .seq (encFs l)), (3, .int .i64 k), (4, .ref 0 0), (12, .seq (encFs l)), (13, .int .i64 l.length), (14, .int .i64 k), (36, .seq (strs its)), (37, .int .i64 its.length), (38, .int .i64 j)]) (fun _ => [(0, .box [.str nm, .str tx, .bool hd, .seq (strs its)])]) 1 (fun j => j ≤ its.length ∧ (its.take j).all valB = true) (fun j => its.length - j) 0 (by omega) ⟨Nat.zero_le _, rfl⟩ ?_ ?_
    · simp [fits, fitsT, fitsM, upd_def, PV.nmb, nmbL, MB.nmb, List.getD_cons_zero, List.getD_cons_succ]
    rintro j ⟨hj, hja⟩
    simp only [mkS, mkT, mkM]
    by_cases hjl : j < its.length
    · obtain ⟨t, ht⟩ := get_some (xs := its) (k := j) hjl
      have hgs := strK_get its
      have hol := o4 t (List.mem_of_getElem? ht)
      have hia := items_all ht
      repeat' (first | (refine qwd fun K hk => ?_; simp only [lvX16_91, mkT, go_sem, Nat.reduceEqDiff, Nat.reduceAdd, Nat.reduceLeDiff, Nat.reduceLT, Nat.reduceSub, Int.reduceToNat, ↓reduceIte, reduceCtorEq, encFs_length, hgs, ht, encF_mk, Option.map_some, hsl]; apply hk; clear hk K) | apply qw8 | apply qw1 | refine qwc lvX16_91 ?_ | apply qt1 | apply qw5 | apply qw2 | apply qw9 | apply qt2 | apply qt3 | apply qt4 | apply qt5 | apply qt6 | apply qw3 | apply qw4 | apply qj1 | apply qj2 | apply qj3 | apply qj4 | apply qj5 | apply qu1 | apply qu2 | ((first | apply qa1 | apply qa2 | apply qa3 | apply qh1 | apply qh2); intro K hk; simp only [go_sem, Nat.reduceEqDiff, Nat.reduceAdd, Nat.reduceLeDiff, Nat.reduceLT, Nat.reduceSub, Int.reduceToNat, ↓reduceIte, reduceCtorEq, encFs_length, hgs, ht, encF_mk, Option.map_some, hsl]; (repeat (refine And.intro ?_ ?_; focus (first | omega | assumption | with_reducible rfl | (simp only [go_sem, Nat.reduceEqDiff, Nat.reduceAdd, Nat.reduceLeDiff, Nat.reduceLT, Nat.reduceSub, Int.reduceToNat, ↓reduceIte, reduceCtorEq, encFs_length, hgs, ht, encF_mk, Option.map_some, hsl]; done)))); intros; apply hk; clear hk K) | ((first | apply qg1 rfl | apply qcd); focus (simp only [go_sem, Nat.reduceEqDiff, Nat.reduceAdd, Nat.reduceLeDiff, Nat.reduceLT, Nat.reduceSub, Int.reduceToNat, ↓reduceIte, reduceCtorEq, encFs_length, hgs, ht, encF_mk, Option.map_some, hsl]; exact rfl)) | (refine qj6 ?_ ?_ <;> intro hc <;> (try simp only [hc]) <;> (try simp only [decide_eq_true_eq, decide_eq_false_iff_not, Bool.not_eq_true', Bool.not_eq_false', Bool.not_eq_true, reduceCtorEq] at hc) <;> (try (exfalso; omega))) | (refine qt7 ?_ ?_; focus decide) | (refine qw7 ?_ ?_ ?_; (focus (decide +kernel)); (focus (decide +kernel))))
      · ((first | refine fin_ret ?_ | refine fin_end ?_); simp only [go_sem, ↓upd_def, Nat.reduceEqDiff, Nat.reduceAdd, ↓reduceIte, reduceCtorEq])
        exact K_bool hK (data_bad hx (.inl (fld_bad (.inr (.inr (.inr (items_bad ht ‹_›)))))))
      · rw [hja, ‹valB t = true›] at hia
        refine s_again (j + 1) ?_ ?_ ?_ <;> (first | omega | (dsimp only; omega) | skip)
        · exact ⟨by omega, hia⟩
        · simp [fits, fitsT, fitsM, upd_def, PV.nmb, nmbL, MB.nmb, List.getD_cons_zero, List.getD_cons_succ]
    obtain rfl : j = its.length := by omega
    rw [List.take_length] at hja
    have hf1 : fldB ⟨nm, tx, hd, its⟩ = true := fld_good hn1 hv1 hi1 hja
    have hkle : List.length (List.take k (encFs l)) = k := by rw [List.length_take, encFs_length]; omega
    have hea := encFs_all l
    repeat' (first | (refine qwd fun K hk => ?_; simp only [lvX16_91, mkT, go_sem, Nat.reduceEqDiff, Nat.reduceAdd, Nat.reduceLeDiff, Nat.reduceLT, Nat.reduceSub, Int.reduceToNat, ↓reduceIte, reduceCtorEq, encFs_length, encF_mk, hsl, hkle, hea, List.drop_zero, Int.toNat_natCast]; apply hk; clear hk K) | apply qw8 | apply qw1 | refine qwc lvX16_91 ?_ | apply qt1 | apply qw5 | apply qw2 | apply qw9 | apply qt2 | apply qt3 | apply qt4 | apply qt5 | apply qt6 | apply qw3 | apply qw4 | apply qj1 | apply qj2 | apply qj3 | apply qj4 | apply qj5 | apply qu1 | apply qu2 | ((first | apply qa1 | apply qa2 | apply qa3 | apply qh1 | apply qh2); intro K hk; simp only [go_sem, Nat.reduceEqDiff, Nat.reduceAdd, Nat.reduceLeDiff, Nat.reduceLT, Nat.reduceSub, Int.reduceToNat, ↓reduceIte, reduceCtorEq, encFs_length, encF_mk, hsl, hkle, hea, List.drop_zero, Int.toNat_natCast]; (repeat (refine And.intro ?_ ?_; focus (first | omega | assumption | with_reducible rfl | (simp only [go_sem, Nat.reduceEqDiff, Nat.reduceAdd, Nat.reduceLeDiff, Nat.reduceLT, Nat.reduceSub, Int.reduceToNat, ↓reduceIte, reduceCtorEq, encFs_length, encF_mk, hsl, hkle, hea, List.drop_zero, Int.toNat_natCast]; done)))); intros; apply hk; clear hk K) | ((first | apply qg1 rfl | apply qcd); focus (simp only [go_sem, Nat.reduceEqDiff, Nat.reduceAdd, Nat.reduceLeDiff, Nat.reduceLT, Nat.reduceSub, Int.reduceToNat, ↓reduceIte, reduceCtorEq, encFs_length, encF_mk, hsl, hkle, hea, List.drop_zero, Int.toNat_natCast]; exact rfl)) | (refine qj6 ?_ ?_ <;> intro hc <;> (try simp only [hc]) <;> (try simp only [decide_eq_true_eq, decide_eq_false_iff_not, Bool.not_eq_true', Bool.not_eq_false', Bool.not_eq_true, reduceCtorEq] at hc) <;> (try (exfalso; omega))) | (refine qt7 ?_ ?_; focus decide) | (refine qw7 ?_ ?_ ?_; (focus (decide +kernel)); (focus (decide +kernel))))
    refine s_loop (ι := Nat) (fun j => [(0, .seq (encFs l)), (4, .ref 0 0), (12, .seq (encFs l)), (13, .int .i64 l.length), (14, .int .i64 k), (48, .seq ((encFs l).take k)), (49, .int .i64 k), (50, .int .i64 j)]) (fun _ => [(0, .box [.str nm, .str tx, .bool hd, .seq (strs its)])]) 1 (fun j => j ≤ k ∧ hasF (l.take j) nm = false) (fun j => k - j) 0 (by omega) ⟨Nat.zero_le _, rfl⟩ ?_ ?_
    · simp [fits, fitsT, fitsM, upd_def, PV.nmb, nmbL, MB.nmb, List.getD_cons_zero, List.getD_cons_succ]
    rintro j ⟨hj, hjh⟩
    simp only [mkS, mkT, mkM]
    by_cases hjl : j < k
    · obtain ⟨⟨nm', tx', hd', its'⟩, hy⟩ := get_some (xs := l) (k := j) (by omega)
      have hgy : ((encFs l).take k)[j]? = some [.str nm', .str tx', .bool hd', .seq (strs its')] := by
        rw [List.getElem?_take_of_lt hjl, encFs_get, hy]; rfl
      have hht := hasF_take hy nm
      repeat' (first | (refine qwd fun K hk => ?_; simp only [lvX16_91, mkT, go_sem, Nat.reduceEqDiff, Nat.reduceAdd, Nat.reduceLeDiff, Nat.reduceLT, Nat.reduceSub, Int.reduceToNat, ↓reduceIte, reduceCtorEq, encFs_length, hgy, encF_mk, Option.map_some, hkle]; apply hk; clear hk K) | apply qw8 | apply qw1 | refine qwc lvX16_91 ?_ | apply qt1 | apply qw5 | apply qw2 | apply qw9 | apply qt2 | apply qt3 | apply qt4 | apply qt5 | apply qt6 | apply qw3 | apply qw4 | apply qj1 | apply qj2 | apply qj3 | apply qj4 | apply qj5 | apply qu1 | apply qu2 | ((first | apply qa1 | apply qa2 | apply qa3 | apply qh1 | apply qh2); intro K hk; simp only [go_sem, Nat.reduceEqDiff, Nat.reduceAdd, Nat.reduceLeDiff, Nat.reduceLT, Nat.reduceSub, Int.reduceToNat, ↓reduceIte, reduceCtorEq, encFs_length, hgy, encF_mk, Option.map_some, hkle]; (repeat (refine And.intro ?_ ?_; focus (first | omega | assumption | with_reducible rfl | (simp only [go_sem, Nat.reduceEqDiff, Nat.reduceAdd, Nat.reduceLeDiff, Nat.reduceLT, Nat.reduceSub, Int.reduceToNat, ↓reduceIte, reduceCtorEq, encFs_length, hgy, encF_mk, Option.map_some, hkle]; done)))); intros; apply hk; clear hk K) | ((first | apply qg1 rfl | apply qcd); focus (simp only [go_sem, Nat.reduceEqDiff, Nat.reduceAdd, Nat.reduceLeDiff, Nat.reduceLT, Nat.reduceSub, Int.reduceToNat, ↓reduceIte, reduceCtorEq, encFs_length, hgy, encF_mk, Option.map_some, hkle]; exact rfl)) | (refine qj6 ?_ ?_ <;> intro hc <;> (try simp only [hc]) <;> (try simp only [decide_eq_true_eq, decide_eq_false_iff_not, Bool.not_eq_true', Bool.not_eq_false', Bool.not_eq_true, reduceCtorEq] at hc) <;> (try (exfalso; omega))) | (refine qt7 ?_ ?_; focus decide) | (refine qw7 ?_ ?_ ?_; (focus (decide +kernel)); (focus (decide +kernel))))
      · ((first | refine fin_ret ?_ | refine fin_end ?_); simp only [go_sem, ↓upd_def, Nat.reduceEqDiff, Nat.reduceAdd, ↓reduceIte, reduceCtorEq])
        refine K_bool hK (data_bad hx (.inr ?_))
        have := hasF_some (k := k) hy hjl
        dsimp only at this ⊢
        rwa [‹nm' = nm›] at this
      · rw [hjh, Bool.false_or] at hht
        rw [decide_eq_false ‹_›] at hht
        refine s_again (j + 1) ?_ ?_ ?_ <;> (first | omega | (dsimp only; omega) | skip)
        · exact ⟨by omega, hht⟩
        · simp [fits, fitsT, fitsM, upd_def, PV.nmb, nmbL, MB.nmb, List.getD_cons_zero, List.getD_cons_succ]
    obtain rfl : j = k := by omega
    repeat' (first | (refine qwd fun K hk => ?_; simp only [lvX16_91, mkT, go_sem, Nat.reduceEqDiff, Nat.reduceAdd, Nat.reduceLeDiff, Nat.reduceLT, Nat.reduceSub, Int.reduceToNat, ↓reduceIte, reduceCtorEq, encFs_length, hkle]; apply hk; clear hk K) | apply qw8 | apply qw1 | refine qwc lvX16_91 ?_ | apply qt1 | apply qw5 | apply qw2 | apply qw9 | apply qt2 | apply qt3 | apply qt4 | apply qt5 | apply qt6 | apply qw3 | apply qw4 | apply qj1 | apply qj2 | apply qj3 | apply qj4 | apply qj5 | apply qu1 | apply qu2 | ((first | apply qa1 | apply qa2 | apply qa3 | apply qh1 | apply qh2); intro K hk; simp only [go_sem, Nat.reduceEqDiff, Nat.reduceAdd, Nat.reduceLeDiff, Nat.reduceLT, Nat.reduceSub, Int.reduceToNat, ↓reduceIte, reduceCtorEq, encFs_length, hkle]; (repeat (refine And.intro ?_ ?_; focus (first | omega | assumption | with_reducible rfl | (simp only [go_sem, Nat.reduceEqDiff, Nat.reduceAdd, Nat.reduceLeDiff, Nat.reduceLT, Nat.reduceSub, Int.reduceToNat, ↓reduceIte, reduceCtorEq, encFs_length, hkle]; done)))); intros; apply hk; clear hk K) | ((first | apply qg1 rfl | apply qcd); focus (simp only [go_sem, Nat.reduceEqDiff, Nat.reduceAdd, Nat.reduceLeDiff, Nat.reduceLT, Nat.reduceSub, Int.reduceToNat, ↓reduceIte, reduceCtorEq, encFs_length, hkle]; exact rfl)) | (refine qj6 ?_ ?_ <;> intro hc <;> (try simp only [hc]) <;> (try simp only [decide_eq_true_eq, decide_eq_false_iff_not, Bool.not_eq_true', Bool.not_eq_false', Bool.not_eq_true, reduceCtorEq] at hc) <;> (try (exfalso; omega))) | (refine qt7 ?_ ?_; focus decide) | (refine qw7 ?_ ?_ ?_; (focus (decide +kernel)); (focus (decide +kernel))))
    refine s_again (j + 1) ?_ ?_ ?_ <;> (first | omega | (dsimp only; omega) | skip)
    · exact ⟨by omega, data_next hx hd0 hf1 hjh⟩
    · simp [fits, fitsT, fitsM, upd_def, PV.nmb, nmbL, MB.nmb, List.getD_cons_zero, List.getD_cons_succ]
  · obtain rfl : k = l.length := by omega
    repeat' (first | (refine qwd fun K hk => ?_; simp only [lvX16_91, mkT, go_sem, Nat.reduceEqDiff, Nat.reduceAdd, Nat.reduceLeDiff, Nat.reduceLT, Nat.reduceSub, Int.reduceToNat, ↓reduceIte, reduceCtorEq, encFs_length]; apply hk; clear hk K) | apply qw8 | apply qw1 | refine qwc lvX16_91 ?_ | apply qt1 | apply qw5 | apply qw2 | apply qw9 | apply qt2 | apply qt3 | apply qt4 | apply qt5 | apply qt6 | apply qw3 | apply qw4 | apply qj1 | apply qj2 | apply qj3 | apply qj4 | apply qj5 | apply qu1 | apply qu2 | ((first | apply qa1 | apply qa2 | apply qa3 | apply qh1 | apply qh2); intro K hk; simp only [go_sem, Nat.reduceEqDiff, Nat.reduceAdd, Nat.reduceLeDiff, Nat.reduceLT, Nat.reduceSub, Int.reduceToNat, ↓reduceIte, reduceCtorEq, encFs_length]; (repeat (refine And.intro ?_ ?_; focus (first | omega | assumption | with_reducible rfl | (simp only [go_sem, Nat.reduceEqDiff, Nat.reduceAdd, Nat.reduceLeDiff, Nat.reduceLT, Nat.reduceSub, Int.reduceToNat, ↓reduceIte, reduceCtorEq, encFs_length]; done)))); intros; apply hk; clear hk K) | ((first | apply qg1 rfl | apply qcd); focus (simp only [go_sem, Nat.reduceEqDiff, Nat.reduceAdd, Nat.reduceLeDiff, Nat.reduceLT, Nat.reduceSub, Int.reduceToNat, ↓reduceIte, reduceCtorEq, encFs_length]; exact rfl)) | (refine qj6 ?_ ?_ <;> intro hc <;> (try simp only [hc]) <;> (try simp only [decide_eq_true_eq, decide_eq_false_iff_not, Bool.not_eq_true', Bool.not_eq_false', Bool.not_eq_true, reduceCtorEq] at hc) <;> (try (exfalso; omega))) | (refine qt7 ?_ ?_; focus decide) | (refine qw7 ?_ ?_ ?_; (focus (decide +kernel)); (focus (decide +kernel))))
    ((first | refine fin_ret ?_ | refine fin_end ?_); simp only [go_sem, ↓upd_def, Nat.reduceEqDiff, Nat.reduceAdd, ↓reduceIte, reduceCtorEq])
    rw [List.take_length] at hd0
    refine K_bool hK ?_
    unfold dataB
    rw [hd0, decide_eq_true (by omega)]; rfl
end Go.Proofs.Ytoocbpendccngaa

/- Contracts: the reference's l12Fill, FillPlain. -/
namespace Go.Proofs.Ytoocbpendccngaa
attribute [local irreducible] awp arun acalm FinP Fin AX.then AX.inBlock Again aG gsel amix amixN amixC aop aopc aopd cutK
attribute [local go_sem] aBSliceD aSlice aSliceC boundOf aMk aCall aCallC aLenL aLen aPick_t aPick_f aNil aAlloc aBox aBuild bldPV aBSlice bsPV aApp newsOf destOf drp aConvX aConv aConvInt aLoad cellsAt aStore cellsPV setAt aFld aField aIdx aIndex aUn aBin' aBin aMax aExtract pvOf PV.isCell nmbL PV.nmb List.map_cons List.map_nil List.all_cons List.all_nil Bool.and_true Bool.true_and if_true if_false List.getD_cons_zero List.getD_cons_succ List.getD_nil Option.isSome_some true_and and_true and_self eq_self true_or or_true List.drop_zero List.drop_succ_cons List.drop_nil List.take_zero List.take_succ_cons List.take_nil List.length_cons List.length_nil List.length_map Option.getD_some Option.getD_none List.nil_append List.cons_append List.append_nil Option.some.injEq exists_eq_left' List.getElem?_cons_zero List.getElem?_cons_succ Int.toNat_natCast Int.natCast_inj toNat_succ Nat.zero_add res res1 resC owns owns1 ownsC List.flatMap_cons List.flatMap_nil List.flatten_cons List.flatten_nil List.mem_cons List.not_mem_nil or_false false_or forall_eq forall_eq_or_imp isFro frz frz1 pureC tabA isBld List.cons.injEq PV.seq.injEq PV.int.injEq PV.str.injEq PV.bool.injEq PV.agg.injEq inR tab Γof aRes packR Option.map_some Option.map_none rel Prod.exists exists_and_left exists_eq_left and_assoc beq_self_eq_true Bool.not_true Bool.not_false decide_true decide_false List.set_cons_zero List.set_cons_succ rst_nil rst_cons
attribute [local go_sem ↓] evT upd_def aop aopc aopd
set_option maxRecDepth 100000
set_option linter.unusedVariables false
set_option linter.unusedSimpArgs false
open Go.RowKit
--LV=X24
@[go_sem] def fpC : PC := rel (α := List PartD × List FieldD) (fun x => [.seq (encPs x.1), .seq (encFs x.2)]) (fun x => wtL x.1 ≤ 1073741824 ∧ okF x.2) (fun x => .str (plainM x.1 x.2))
theorem plW_bd {xs : List PartD} {data : List FieldD} (hg : gdL 3 false xs = true) (hd : dBd data) (hw : wtL xs ≤ 1073741824) : plW data xs ≤ 109951162777600 := by
  have := evL_wt xs 3 data st0 false hg hd
  unfold plW
  omega
theorem parts_gd3 {xs : List PartD} (h : partsB xs = true) : gdL 3 false xs = true := by
  unfold partsB at h
  simp only [Bool.and_eq_true] at h
  exact h.2
theorem dataB_len {l : List FieldD} (h : dataB l = true) : l.length ≤ 8 := by
  unfold dataB at h
  simp only [Bool.and_eq_true, decide_eq_true_eq] at h
  exact h.1
end Go.Proofs.Ytoocbpendccngaa

/- Contracts: insertInto, simpler; the reference's l23Insert, l21Simple. -/
namespace Go.Proofs.Ytoocbpendccngaa
attribute [local irreducible] awp arun acalm FinP Fin AX.then AX.inBlock Again aG gsel amix amixN amixC aop aopc aopd cutK
attribute [local go_sem] aBSliceD aSlice aSliceC boundOf aMk aCall aCallC aLenL aLen aPick_t aPick_f aNil aAlloc aBox aBuild bldPV aBSlice bsPV aApp newsOf destOf drp aConvX aConv aConvInt aLoad cellsAt aStore cellsPV setAt aFld aField aIdx aIndex aUn aBin' aBin aMax aExtract pvOf PV.isCell nmbL PV.nmb List.map_cons List.map_nil List.all_cons List.all_nil Bool.and_true Bool.true_and if_true if_false List.getD_cons_zero List.getD_cons_succ List.getD_nil Option.isSome_some true_and and_true and_self eq_self true_or or_true List.drop_zero List.drop_succ_cons List.drop_nil List.take_zero List.take_succ_cons List.take_nil List.length_cons List.length_nil List.length_map Option.getD_some Option.getD_none List.nil_append List.cons_append List.append_nil Option.some.injEq exists_eq_left' List.getElem?_cons_zero List.getElem?_cons_succ Int.toNat_natCast Int.natCast_inj toNat_succ Nat.zero_add res res1 resC owns owns1 ownsC List.flatMap_cons List.flatMap_nil List.flatten_cons List.flatten_nil List.mem_cons List.not_mem_nil or_false false_or forall_eq forall_eq_or_imp isFro frz frz1 pureC tabA isBld List.cons.injEq PV.seq.injEq PV.int.injEq PV.str.injEq PV.bool.injEq PV.agg.injEq inR tab Γof aRes packR Option.map_some Option.map_none rel Prod.exists exists_and_left exists_eq_left and_assoc beq_self_eq_true Bool.not_true Bool.not_false decide_true decide_false List.set_cons_zero List.set_cons_succ rst_nil rst_cons
attribute [local go_sem ↓] evT upd_def aop aopc aopd
set_option maxRecDepth 100000
set_option linter.unusedVariables false
set_option linter.unusedSimpArgs false
open Go.RowKit
def lvX17_77 : Nat → List Nat
  | 0 => [0]
  | 1 => [0, 3]
  | 2 => [0, 3, 4]
  | 3 => [0, 3, 4, 9]
  | 4 => [0, 3, 4]
  | 5 => [0, 3, 4]
  | 6 => [2]
  | _ => []
--LV=X17
theorem ps_a5 (xs : List PartD) : (∀ e ∈ encPs xs, e.length = 5) = True := eq_true (encPs_all xs)
theorem ps_pt (out : List PartD) (k : Int) (t s : Bs) (x y : List PartD) : encPs out ++ [[.int .i64 k, .str t, .str s, .seq (encPs x), .seq (encPs y)]] = encPs (out ++ [.mk k t s x y]) := by
  rw [encPs_append, encPs_one, encP_mk]
@[go_sem] def owC (n : Nat) : PC := rel (α := List PartD) (fun x => [.seq (encPs x)]) (fun x => wtL x < n ∧ wtL x ≤ 1099511627776) (fun x => .seq (encPs x))
@[go_sem] def owP (n : Nat) : PC := rel (α := PartD) (fun x => [.agg (encP x)]) (fun x => wtP x < n ∧ wtP x ≤ 1099511627776) (fun x => .agg (encP x))
@[go_sem] def owQ : PC := rel (α := List PartD) (fun x => [.seq (encPs x)]) (fun x => wtL x ≤ 1099511627776) (fun x => .seq (encPs x))
theorem owP_of (n : Nat) (h : PureOk Try.prog 77 (owC n)) : PureOk Try.prog 124 (owP n) := by
  refine pure_rel 1 (tab_cons h tab_nil) mixed [.cell 2 63] Try.func124 rfl rfl (by kernel_rfl) (by kernel_rfl) (fun _ => rfl) (by kernel_rfl) ?_
  rintro ⟨kd, t, nm, ps, os⟩ K ⟨hn, h1⟩ hK
  have hx2 := encP_mk kd t nm ps os
  have hw := wtP_mk kd t nm ps os
  simp only [hx2, hw] at *
  clear hx2 hw
  unfold entry
  repeat' (first | apply qw8 | apply qw1 | apply qw6 | apply qt1 | apply qw5 | apply qw2 | apply qw9 | apply qt2 | apply qt3 | apply qt4 | apply qt5 | apply qt6 | apply qw3 | apply qw4 | apply qj1 | apply qj2 | apply qj3 | apply qj4 | apply qj5 | apply qu1 | apply qu2 | ((first | apply qa1 | apply qa2 | apply qa3 | apply qh1 | apply qh2); intro K hk; simp only [go_sem, Nat.reduceEqDiff, Nat.reduceAdd, Nat.reduceLeDiff, Nat.reduceLT, Nat.reduceSub, Int.reduceToNat, ↓reduceIte, reduceCtorEq, encPs_iff]; (repeat (refine And.intro ?_ ?_; focus (first | omega | assumption | with_reducible rfl | (simp only [go_sem, Nat.reduceEqDiff, Nat.reduceAdd, Nat.reduceLeDiff, Nat.reduceLT, Nat.reduceSub, Int.reduceToNat, ↓reduceIte, reduceCtorEq, encPs_iff]; done)))); intros; apply hk; clear hk K) | ((first | apply qg1 rfl | apply qcd); focus (simp only [go_sem, Nat.reduceEqDiff, Nat.reduceAdd, Nat.reduceLeDiff, Nat.reduceLT, Nat.reduceSub, Int.reduceToNat, ↓reduceIte, reduceCtorEq, encPs_iff]; exact rfl)) | (refine qj6 ?_ ?_ <;> intro hc <;> (try simp only [hc]) <;> (try simp only [decide_eq_true_eq, decide_eq_false_iff_not, Bool.not_eq_true', Bool.not_eq_false', Bool.not_eq_true, reduceCtorEq] at hc) <;> (try (exfalso; omega))) | (refine qt7 ?_ ?_; focus decide) | (refine qw7 ?_ ?_ ?_; (focus (decide +kernel)); (focus (decide +kernel))))
  ((first | refine fin_ret ?_ | refine fin_end ?_); simp only [go_sem, ↓upd_def, Nat.reduceEqDiff, Nat.reduceAdd, ↓reduceIte, reduceCtorEq])
  first
    | exact hK
    | exact ⟨Nat.le_refl _, hK⟩
@[go_sem] def owP5 (n : Nat) : PC := rel (α := Int × Bs × Bs × List PartD × List PartD) (fun x => [.agg [.int .i64 x.1, .str x.2.1, .str x.2.2.1, .seq (encPs x.2.2.2.1), .seq (encPs x.2.2.2.2)]]) (fun x => x.2.1.length + x.2.2.1.length + wtL x.2.2.2.1 + wtL x.2.2.2.2 < n ∧ x.2.1.length + x.2.2.1.length + wtL x.2.2.2.1 + wtL x.2.2.2.2 ≤ 1099511627776) (fun x => .agg [.int .i64 x.1, .str x.2.1, .str x.2.2.1, .seq (encPs x.2.2.2.1), .seq (encPs x.2.2.2.2)])
theorem rel_via' {P : Program} {f : FuncId} {α β : Type} {enc : α → List PV} {pre : α → Prop} {out : α → PV} {enc' : β → List PV} {pre' : β → Prop} {out' : β → PV} (h : PureOk P f (rel enc pre out)) (g : β → α) (h1 : ∀ x, enc' x = enc (g x)) (h2 : ∀ x, pre' x → pre (g x)) (h3 : ∀ x, out' x = out (g x)) : PureOk P f (rel enc' pre' out') :=
  ⟨h.fn, fun args K ⟨x, e1, e2, e3⟩ => ⟨_, e3, fun K' hk => ⟨x, e1, e2, hk⟩⟩, fun c args vs K hf hr ⟨x, e1, e2, e3⟩ => h.run c args vs K hf hr ⟨g x, by rw [← h1]; exact e1, h2 x e2, by rw [← h3]; exact e3⟩⟩
theorem owP5_of {n : Nat} {f : FuncId} (h : PureOk Try.prog f (owP n)) : PureOk Try.prog f (owP5 n) :=
  rel_via' h (fun x => .mk x.1 x.2.1 x.2.2.1 x.2.2.2.1 x.2.2.2.2) (fun x => by rw [encP_mk]) (fun x h => by rw [wtP_mk]; exact h) (fun x => by rw [encP_mk])
set_option maxHeartbeats 4000000 in
theorem owC_of (n : Nat) (h : PureOk Try.prog 124 (owP5 n)) : PureOk Try.prog 77 (owC (n + 1)) := by
  refine pure_rel 1 (tab_cons h tab_nil) mixed [.tmp 2] Try.func77 rfl rfl (by kernel_rfl) (by kernel_rfl) (fun _ => rfl) (by kernel_rfl) ?_
  rintro xs K ⟨hn, h1⟩ hK
  have hlw := len_le_wtL xs
  unfold entry
  repeat' (first | (refine qwd fun K hk => ?_; simp only [lvX17_77, mkT, go_sem, Nat.reduceEqDiff, Nat.reduceAdd, Nat.reduceLeDiff, Nat.reduceLT, Nat.reduceSub, Int.reduceToNat, ↓reduceIte, reduceCtorEq, encPs_length]; apply hk; clear hk K) | apply qw8 | apply qw1 | refine qwc lvX17_77 ?_ | apply qt1 | apply qw5 | apply qw2 | apply qw9 | apply qt2 | apply qt3 | apply qt4 | apply qt5 | apply qt6 | apply qw3 | apply qw4 | apply qj1 | apply qj2 | apply qj3 | apply qj4 | apply qj5 | apply qu1 | apply qu2 | ((first | apply qa1 | apply qa2 | apply qa3 | apply qh1 | apply qh2); intro K hk; simp only [go_sem, Nat.reduceEqDiff, Nat.reduceAdd, Nat.reduceLeDiff, Nat.reduceLT, Nat.reduceSub, Int.reduceToNat, ↓reduceIte, reduceCtorEq, encPs_length]; (repeat (refine And.intro ?_ ?_; focus (first | omega | assumption | with_reducible rfl | (simp only [go_sem, Nat.reduceEqDiff, Nat.reduceAdd, Nat.reduceLeDiff, Nat.reduceLT, Nat.reduceSub, Int.reduceToNat, ↓reduceIte, reduceCtorEq, encPs_length]; done)))); intros; apply hk; clear hk K) | ((first | apply qg1 rfl | apply qcd); focus (simp only [go_sem, Nat.reduceEqDiff, Nat.reduceAdd, Nat.reduceLeDiff, Nat.reduceLT, Nat.reduceSub, Int.reduceToNat, ↓reduceIte, reduceCtorEq, encPs_length]; exact rfl)) | (refine qj6 ?_ ?_ <;> intro hc <;> (try simp only [hc]) <;> (try simp only [decide_eq_true_eq, decide_eq_false_iff_not, Bool.not_eq_true', Bool.not_eq_false', Bool.not_eq_true, reduceCtorEq] at hc) <;> (try (exfalso; omega))) | (refine qt7 ?_ ?_; focus decide) | (refine qw7 ?_ ?_ ?_; (focus (decide +kernel)); (focus (decide +kernel))))
  refine s_loop (ι := Nat) (fun k => [(0, .seq (encPs xs)), (3, .own 0), (4, .int .i64 k)]) (fun k => [(0, .row 63 5 (encPs (xs.take k)))]) 1 (fun k => k ≤ xs.length) (fun k => xs.length - k) 0 (by omega) (Nat.zero_le _) ?_ ?_
  · simp [fits, fitsT, fitsM, upd_def, PV.nmb, nmbL, MB.nmb, List.getD_cons_zero, List.getD_cons_succ, encPs_nil]
  intro k hk
  simp only [mkS, mkT, mkM]
  by_cases hkl : k < xs.length
  · obtain ⟨⟨kd, t, nm, ps, os⟩, hx⟩ := get_some (xs := xs) (k := k) (by omega)
    have htk := take_snoc' hx
    have ws := wtL_split hx
    rw [wtP_mk] at ws
    have hget := encPs_get xs
    have hta := ps_a5 (xs.take k)
    have hlt : (xs.take k).length = k := by rw [List.length_take]; omega
    repeat' (first | (refine qwd fun K hk => ?_; simp only [lvX17_77, mkT, go_sem, Nat.reduceEqDiff, Nat.reduceAdd, Nat.reduceLeDiff, Nat.reduceLT, Nat.reduceSub, Int.reduceToNat, ↓reduceIte, reduceCtorEq, encPs_length, hget, hx, Option.map_some, hta, hlt, encP_mk, ps_pt]; apply hk; clear hk K) | apply qw8 | apply qw1 | refine qwc lvX17_77 ?_ | apply qt1 | apply qw5 | apply qw2 | apply qw9 | apply qt2 | apply qt3 | apply qt4 | apply qt5 | apply qt6 | apply qw3 | apply qw4 | apply qj1 | apply qj2 | apply qj3 | apply qj4 | apply qj5 | apply qu1 | apply qu2 | ((first | apply qa1 | apply qa2 | apply qa3 | apply qh1 | apply qh2); intro K hk; simp only [go_sem, Nat.reduceEqDiff, Nat.reduceAdd, Nat.reduceLeDiff, Nat.reduceLT, Nat.reduceSub, Int.reduceToNat, ↓reduceIte, reduceCtorEq, encPs_length, hget, hx, Option.map_some, hta, hlt, encP_mk, ps_pt]; (repeat (refine And.intro ?_ ?_; focus (first | omega | assumption | with_reducible rfl | (simp only [go_sem, Nat.reduceEqDiff, Nat.reduceAdd, Nat.reduceLeDiff, Nat.reduceLT, Nat.reduceSub, Int.reduceToNat, ↓reduceIte, reduceCtorEq, encPs_length, hget, hx, Option.map_some, hta, hlt, encP_mk, ps_pt]; done)))); intros; apply hk; clear hk K) | ((first | apply qg1 rfl | apply qcd); focus (simp only [go_sem, Nat.reduceEqDiff, Nat.reduceAdd, Nat.reduceLeDiff, Nat.reduceLT, Nat.reduceSub, Int.reduceToNat, ↓reduceIte, reduceCtorEq, encPs_length, hget, hx, Option.map_some, hta, hlt, encP_mk, ps_pt]; exact rfl)) | (refine qj6 ?_ ?_ <;> intro hc <;> (try simp only [hc]) <;> (try simp only [decide_eq_true_eq, decide_eq_false_iff_not, Bool.not_eq_true', Bool.not_eq_false', Bool.not_eq_true, reduceCtorEq] at hc) <;> (try (exfalso; omega))) | (refine qt7 ?_ ?_; focus decide) | (refine qw7 ?_ ?_ ?_; (focus (decide +kernel)); (focus (decide +kernel))))
    all_goals first
      | (refine s_againR (k + 1) (fun i => if i = 0 then 2 else i) ?_ ?_ ?_ ?_ ?_ ?_ <;> (first | omega | (dsimp only; omega) | (intro i hi; (try dsimp only); (repeat' split) <;> omega) | (intro i j hi hj h; (try dsimp only at h); (repeat' split at h) <;> omega) | skip)
         all_goals (simp [fitsTR, fitsMR, PV.ren, renL, MB.ren, upd_def, PV.nmb, nmbL, MB.nmb, List.getD_cons_zero, List.getD_cons_succ, frz, drp, htk, encPs_append, encPs_one, encP_mk]; done))
      | skip
  · obtain rfl : k = xs.length := by omega
    repeat' (first | (refine qwd fun K hk => ?_; simp only [lvX17_77, mkT, go_sem, Nat.reduceEqDiff, Nat.reduceAdd, Nat.reduceLeDiff, Nat.reduceLT, Nat.reduceSub, Int.reduceToNat, ↓reduceIte, reduceCtorEq, encPs_length]; apply hk; clear hk K) | apply qw8 | apply qw1 | refine qwc lvX17_77 ?_ | apply qt1 | apply qw5 | apply qw2 | apply qw9 | apply qt2 | apply qt3 | apply qt4 | apply qt5 | apply qt6 | apply qw3 | apply qw4 | apply qj1 | apply qj2 | apply qj3 | apply qj4 | apply qj5 | apply qu1 | apply qu2 | ((first | apply qa1 | apply qa2 | apply qa3 | apply qh1 | apply qh2); intro K hk; simp only [go_sem, Nat.reduceEqDiff, Nat.reduceAdd, Nat.reduceLeDiff, Nat.reduceLT, Nat.reduceSub, Int.reduceToNat, ↓reduceIte, reduceCtorEq, encPs_length]; (repeat (refine And.intro ?_ ?_; focus (first | omega | assumption | with_reducible rfl | (simp only [go_sem, Nat.reduceEqDiff, Nat.reduceAdd, Nat.reduceLeDiff, Nat.reduceLT, Nat.reduceSub, Int.reduceToNat, ↓reduceIte, reduceCtorEq, encPs_length]; done)))); intros; apply hk; clear hk K) | ((first | apply qg1 rfl | apply qcd); focus (simp only [go_sem, Nat.reduceEqDiff, Nat.reduceAdd, Nat.reduceLeDiff, Nat.reduceLT, Nat.reduceSub, Int.reduceToNat, ↓reduceIte, reduceCtorEq, encPs_length]; exact rfl)) | (refine qj6 ?_ ?_ <;> intro hc <;> (try simp only [hc]) <;> (try simp only [decide_eq_true_eq, decide_eq_false_iff_not, Bool.not_eq_true', Bool.not_eq_false', Bool.not_eq_true, reduceCtorEq] at hc) <;> (try (exfalso; omega))) | (refine qt7 ?_ ?_; focus decide) | (refine qw7 ?_ ?_ ?_; (focus (decide +kernel)); (focus (decide +kernel))))
    ((first | refine fin_ret ?_ | refine fin_end ?_); simp only [go_sem, ↓upd_def, Nat.reduceEqDiff, Nat.reduceAdd, ↓reduceIte, reduceCtorEq])
    rw [List.take_length]
    exact hK
theorem ow_all : ∀ n, PureOk Try.prog 77 (owC n) := by
  intro n
  induction n with
  | zero => exact never_rel Try.func77 (by kernel_rfl) (by kernel_rfl) (fun x h => absurd h.1 (Nat.not_lt_zero _))
  | succ n ih => exact owC_of n (owP5_of (owP_of n ih))
theorem ow_c : PureOk Try.prog 77 owQ := rel_all (fun x : List PartD => wtL x) ow_all
end Go.Proofs.Ytoocbpendccngaa
