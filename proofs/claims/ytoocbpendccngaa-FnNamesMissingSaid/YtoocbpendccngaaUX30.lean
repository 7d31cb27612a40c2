/- Contracts: fields copied; FieldOf; NamesMissing. -/
import Derived.Test.YtoocbpendccngaaUX29
import Derived.Test.YtoocbpendccngaaUX24

namespace Go.Proofs.Ytoocbpendccngaa
attribute [local irreducible] awp arun acalm FinP Fin AX.then AX.inBlock Again aG gsel amix amixN amixC aop aopc aopd cutK
attribute [local go_sem] aBSliceD aSlice aSliceC boundOf aMk aCall aCallC aLenL aLen aPick_t aPick_f aNil aAlloc aBox aBuild bldPV aBSlice bsPV aApp newsOf destOf drp aConvX aConv aConvInt aLoad cellsAt aStore cellsPV setAt aFld aField aIdx aIndex aUn aBin' aBin aMax aExtract pvOf PV.isCell nmbL PV.nmb List.map_cons List.map_nil List.all_cons List.all_nil Bool.and_true Bool.true_and if_true if_false List.getD_cons_zero List.getD_cons_succ List.getD_nil Option.isSome_some true_and and_true and_self eq_self true_or or_true List.drop_zero List.drop_succ_cons List.drop_nil List.take_zero List.take_succ_cons List.take_nil List.length_cons List.length_nil List.length_map Option.getD_some Option.getD_none List.nil_append List.cons_append List.append_nil Option.some.injEq exists_eq_left' List.getElem?_cons_zero List.getElem?_cons_succ Int.toNat_natCast Int.natCast_inj toNat_succ Nat.zero_add res res1 resC owns owns1 ownsC List.flatMap_cons List.flatMap_nil List.flatten_cons List.flatten_nil List.mem_cons List.not_mem_nil or_false false_or forall_eq forall_eq_or_imp isFro frz frz1 pureC tabA isBld List.cons.injEq PV.seq.injEq PV.int.injEq PV.str.injEq PV.bool.injEq PV.agg.injEq inR tab Γof aRes packR Option.map_some Option.map_none rel Prod.exists exists_and_left exists_eq_left and_assoc beq_self_eq_true Bool.not_true Bool.not_false decide_true decide_false List.set_cons_zero List.set_cons_succ rst_nil rst_cons
attribute [local go_sem ↓] evT upd_def aop aopc aopd
set_option maxRecDepth 100000
set_option linter.unusedVariables false
set_option linter.unusedSimpArgs false
open Go.RowKit
def lvX30_54 : Nat → List Nat
  | 0 => [0, 1, 4]
  | 1 => [0, 1, 4, 8]
  | 2 => [4, 5]
  | 3 => [4, 5]
  | _ => []
def lvX30_109 : Nat → List Nat
  | 0 => [0, 1, 4]
  | 1 => [0, 1, 4]
  | 2 => [0, 1, 4, 6]
  | 3 => [0, 1, 4, 6, 17]
  | 4 => [0, 1, 4, 6]
  | 5 => [0, 1, 4, 6, 26]
  | 6 => [4, 7]
  | 7 => [4, 7]
  | 8 => [4, 5]
  | 9 => [4, 5]
  | _ => []
def lvX30_147 : Nat → List Nat
  | 0 => [0]
  | 1 => [0, 3]
  | 2 => [0, 3, 4]
  | 3 => [0, 3, 4, 9]
  | 4 => [0, 3, 4]
  | 5 => [0, 3, 4]
  | 6 => [2]
  | _ => []
def lvX30_164 : Nat → List Nat
  | 0 => [1, 2]
  | 1 => [1, 2, 3]
  | 2 => [2, 3]
  | 3 => [2]
  | _ => []
--LV=X30
/-- Bounds on data: few fields, lengths that are small. -/
def smF (f : FieldD) : Prop := f.name.length ≤ 1000000 ∧ f.text.length ≤ 1000000 ∧ f.items.length ≤ 1000000 ∧ ∀ t ∈ f.items, t.length ≤ 1000000
def smFs (l : List FieldD) : Prop := l.length ≤ 100000 ∧ ∀ f ∈ l, smF f
theorem smFs_ok {l : List FieldD} (h : smFs l) : okF l := ⟨by have := h.1; omega, fun f hf => by
  obtain ⟨h1, h2, h3, h4⟩ := h.2 f hf
  exact ⟨by omega, by omega, by omega, fun t ht => by have := h4 t ht; omega⟩⟩
theorem ex_FD30 {p : FieldD → Prop} : (∃ x, p x) ↔ ∃ n t b i, p ⟨n, t, b, i⟩ := ⟨fun ⟨⟨n, t, b, i⟩, h⟩ => ⟨n, t, b, i, h⟩, fun ⟨n, t, b, i, h⟩ => ⟨_, h⟩⟩
@[go_sem] def ofC : PC := rel (α := FieldD) (fun x => [.agg (encF x)]) smF (fun x => .agg (encF x))
theorem of_s : PureOk Try.prog 164 ofC := by
  refine pure_rel 1 tab_nil mixed [.cell 2 67] Try.func164 rfl rfl (by kernel_rfl) (by kernel_rfl) (fun _ => rfl) (by kernel_rfl) ?_
  rintro ⟨n, t, b, i⟩ K ⟨h1, h2, h3, h4⟩ hK
  dsimp only at h1 h2 h3 h4
  have hsl := strs_length i
  have hsa := strs_all i
  unfold entry
  repeat' (first | (refine qwd fun K hk => ?_; simp only [lvX30_164, mkT, go_sem, Nat.reduceEqDiff, Nat.reduceAdd, Nat.reduceLeDiff, Nat.reduceLT, Nat.reduceSub, Int.reduceToNat, ↓reduceIte, reduceCtorEq, encF_mk, hsl, hsa, List.nil_append]; apply hk; clear hk K) | apply qw8 | apply qw1 | refine qwc lvX30_164 ?_ | apply qt1 | apply qw5 | apply qw2 | apply qw9 | apply qt2 | apply qt3 | apply qt4 | apply qt5 | apply qt6 | apply qw3 | apply qw4 | apply qj1 | apply qj2 | apply qj3 | apply qj4 | apply qj5 | apply qu1 | apply qu2 | ((first | apply qa1 | apply qa2 | apply qa3 | apply qh1 | apply qh2); intro K hk; simp only [go_sem, Nat.reduceEqDiff, Nat.reduceAdd, Nat.reduceLeDiff, Nat.reduceLT, Nat.reduceSub, Int.reduceToNat, ↓reduceIte, reduceCtorEq, encF_mk, hsl, hsa, List.nil_append]; (repeat (refine And.intro ?_ ?_; focus (first | omega | assumption | with_reducible rfl | (simp only [go_sem, Nat.reduceEqDiff, Nat.reduceAdd, Nat.reduceLeDiff, Nat.reduceLT, Nat.reduceSub, Int.reduceToNat, ↓reduceIte, reduceCtorEq, encF_mk, hsl, hsa, List.nil_append]; done)))); intros; apply hk; clear hk K) | ((first | apply qg1 rfl | apply qcd); focus (simp only [go_sem, Nat.reduceEqDiff, Nat.reduceAdd, Nat.reduceLeDiff, Nat.reduceLT, Nat.reduceSub, Int.reduceToNat, ↓reduceIte, reduceCtorEq, encF_mk, hsl, hsa, List.nil_append]; exact rfl)) | (refine qj6 ?_ ?_ <;> intro hc <;> (try simp only [hc]) <;> (try simp only [decide_eq_true_eq, decide_eq_false_iff_not, Bool.not_eq_true', Bool.not_eq_false', Bool.not_eq_true, reduceCtorEq] at hc) <;> (try (exfalso; omega))) | (refine qt7 ?_ ?_; focus decide) | (refine qw7 ?_ ?_ ?_; (focus (decide +kernel)); (focus (decide +kernel))))
  ((first | refine fin_ret ?_ | refine fin_end ?_); simp only [go_sem, ↓upd_def, Nat.reduceEqDiff, Nat.reduceAdd, ↓reduceIte, reduceCtorEq])
  exact ⟨Nat.le_refl _, hK⟩
@[go_sem] def olC : PC := rel (α := List FieldD) (fun x => [.seq (encFs x)]) smFs (fun x => .seq (encFs x))
theorem ol_s : PureOk Try.prog 147 olC := by
  refine pure_rel 1 (tab_cons of_s tab_nil) mixed [.tmp 2] Try.func147 rfl rfl (by kernel_rfl) (by kernel_rfl) (fun _ => rfl) (by kernel_rfl) ?_
  rintro l K ⟨hl, hall⟩ hK
  have hel := encFs_length l
  have hget := encFs_get l
  unfold entry
  repeat' (first | (refine qwd fun K hk => ?_; simp only [lvX30_147, mkT, go_sem, Nat.reduceEqDiff, Nat.reduceAdd, Nat.reduceLeDiff, Nat.reduceLT, Nat.reduceSub, Int.reduceToNat, ↓reduceIte, reduceCtorEq, hel]; apply hk; clear hk K) | apply qw8 | apply qw1 | refine qwc lvX30_147 ?_ | apply qt1 | apply qw5 | apply qw2 | apply qw9 | apply qt2 | apply qt3 | apply qt4 | apply qt5 | apply qt6 | apply qw3 | apply qw4 | apply qj1 | apply qj2 | apply qj3 | apply qj4 | apply qj5 | apply qu1 | apply qu2 | ((first | apply qa1 | apply qa2 | apply qa3 | apply qh1 | apply qh2); intro K hk; simp only [go_sem, Nat.reduceEqDiff, Nat.reduceAdd, Nat.reduceLeDiff, Nat.reduceLT, Nat.reduceSub, Int.reduceToNat, ↓reduceIte, reduceCtorEq, hel]; (repeat (refine And.intro ?_ ?_; focus (first | omega | assumption | with_reducible rfl | (simp only [go_sem, Nat.reduceEqDiff, Nat.reduceAdd, Nat.reduceLeDiff, Nat.reduceLT, Nat.reduceSub, Int.reduceToNat, ↓reduceIte, reduceCtorEq, hel]; done)))); intros; apply hk; clear hk K) | ((first | apply qg1 rfl | apply qcd); focus (simp only [go_sem, Nat.reduceEqDiff, Nat.reduceAdd, Nat.reduceLeDiff, Nat.reduceLT, Nat.reduceSub, Int.reduceToNat, ↓reduceIte, reduceCtorEq, hel]; exact rfl)) | (refine qj6 ?_ ?_ <;> intro hc <;> (try simp only [hc]) <;> (try simp only [decide_eq_true_eq, decide_eq_false_iff_not, Bool.not_eq_true', Bool.not_eq_false', Bool.not_eq_true, reduceCtorEq] at hc) <;> (try (exfalso; omega))) | (refine qt7 ?_ ?_; focus decide) | (refine qw7 ?_ ?_ ?_; (focus (decide +kernel)); (focus (decide +kernel))))
  refine s_loop (ι := Nat) (fun k => [(0, .seq (encFs l)), (3, .own 0), (4, .int .i64 k)]) (fun k => [(0, .row 67 4 (encFs (l.take k)))]) 1 (fun k => k ≤ l.length) (fun k => l.length - k) 0 (by omega) (Nat.zero_le _) ?_ ?_
  · simp [fits, fitsT, fitsM, upd_def, PV.nmb, nmbL, MB.nmb, List.getD_cons_zero, List.getD_cons_succ, encFs]
  intro k hk
  simp only [mkS, mkT, mkM]
  by_cases hkl : k < l.length
  · obtain ⟨⟨n, t, b, i⟩, hx⟩ := get_some (xs := l) (k := k) hkl
    have hsm := hall _ (List.mem_of_getElem? hx)
    have htl : (encFs (l.take k)).length ≤ l.length := by rw [encFs_length, List.length_take]; omega
    have hta := encFs_all (l.take k)
    have hsn : encFs (l.take (k + 1)) = encFs (l.take k) ++ [[.str n, .str t, .bool b, .seq (strs i)]] := by rw [take_snoc' hx, encFs_append]; rfl
    repeat' (first | (refine qwd fun K hk => ?_; simp only [lvX30_147, mkT, go_sem, Nat.reduceEqDiff, Nat.reduceAdd, Nat.reduceLeDiff, Nat.reduceLT, Nat.reduceSub, Int.reduceToNat, ↓reduceIte, reduceCtorEq, hel, hget, hx, encF_mk, Option.map_some, ex_FD30, strs_iff, hta]; apply hk; clear hk K) | apply qw8 | apply qw1 | refine qwc lvX30_147 ?_ | apply qt1 | apply qw5 | apply qw2 | apply qw9 | apply qt2 | apply qt3 | apply qt4 | apply qt5 | apply qt6 | apply qw3 | apply qw4 | apply qj1 | apply qj2 | apply qj3 | apply qj4 | apply qj5 | apply qu1 | apply qu2 | ((first | apply qa1 | apply qa2 | apply qa3 | apply qh1 | apply qh2); intro K hk; simp only [go_sem, Nat.reduceEqDiff, Nat.reduceAdd, Nat.reduceLeDiff, Nat.reduceLT, Nat.reduceSub, Int.reduceToNat, ↓reduceIte, reduceCtorEq, hel, hget, hx, encF_mk, Option.map_some, ex_FD30, strs_iff, hta]; (repeat (refine And.intro ?_ ?_; focus (first | omega | assumption | with_reducible rfl | (simp only [go_sem, Nat.reduceEqDiff, Nat.reduceAdd, Nat.reduceLeDiff, Nat.reduceLT, Nat.reduceSub, Int.reduceToNat, ↓reduceIte, reduceCtorEq, hel, hget, hx, encF_mk, Option.map_some, ex_FD30, strs_iff, hta]; done)))); intros; apply hk; clear hk K) | ((first | apply qg1 rfl | apply qcd); focus (simp only [go_sem, Nat.reduceEqDiff, Nat.reduceAdd, Nat.reduceLeDiff, Nat.reduceLT, Nat.reduceSub, Int.reduceToNat, ↓reduceIte, reduceCtorEq, hel, hget, hx, encF_mk, Option.map_some, ex_FD30, strs_iff, hta]; exact rfl)) | (refine qj6 ?_ ?_ <;> intro hc <;> (try simp only [hc]) <;> (try simp only [decide_eq_true_eq, decide_eq_false_iff_not, Bool.not_eq_true', Bool.not_eq_false', Bool.not_eq_true, reduceCtorEq] at hc) <;> (try (exfalso; omega))) | (refine qt7 ?_ ?_; focus decide) | (refine qw7 ?_ ?_ ?_; (focus (decide +kernel)); (focus (decide +kernel))))
    refine s_againR (k + 1) (fun i => if i = 0 then 2 else i) ?_ ?_ ?_ ?_ ?_ ?_ <;> (first | omega | (dsimp only; omega) | (intro i hi; (try dsimp only); (repeat' split) <;> omega) | (intro i j hi hj h; (try dsimp only at h); (repeat' split at h) <;> omega) | skip)
    all_goals (simp [fitsTR, fitsMR, PV.ren, renL, MB.ren, upd_def, PV.nmb, nmbL, MB.nmb, List.getD_cons_zero, List.getD_cons_succ, frz, drp, hsn]; done)
  · obtain rfl : k = l.length := by omega
    repeat' (first | (refine qwd fun K hk => ?_; simp only [lvX30_147, mkT, go_sem, Nat.reduceEqDiff, Nat.reduceAdd, Nat.reduceLeDiff, Nat.reduceLT, Nat.reduceSub, Int.reduceToNat, ↓reduceIte, reduceCtorEq, hel]; apply hk; clear hk K) | apply qw8 | apply qw1 | refine qwc lvX30_147 ?_ | apply qt1 | apply qw5 | apply qw2 | apply qw9 | apply qt2 | apply qt3 | apply qt4 | apply qt5 | apply qt6 | apply qw3 | apply qw4 | apply qj1 | apply qj2 | apply qj3 | apply qj4 | apply qj5 | apply qu1 | apply qu2 | ((first | apply qa1 | apply qa2 | apply qa3 | apply qh1 | apply qh2); intro K hk; simp only [go_sem, Nat.reduceEqDiff, Nat.reduceAdd, Nat.reduceLeDiff, Nat.reduceLT, Nat.reduceSub, Int.reduceToNat, ↓reduceIte, reduceCtorEq, hel]; (repeat (refine And.intro ?_ ?_; focus (first | omega | assumption | with_reducible rfl | (simp only [go_sem, Nat.reduceEqDiff, Nat.reduceAdd, Nat.reduceLeDiff, Nat.reduceLT, Nat.reduceSub, Int.reduceToNat, ↓reduceIte, reduceCtorEq, hel]; done)))); intros; apply hk; clear hk K) | ((first | apply qg1 rfl | apply qcd); focus (simp only [go_sem, Nat.reduceEqDiff, Nat.reduceAdd, Nat.reduceLeDiff, Nat.reduceLT, Nat.reduceSub, Int.reduceToNat, ↓reduceIte, reduceCtorEq, hel]; exact rfl)) | (refine qj6 ?_ ?_ <;> intro hc <;> (try simp only [hc]) <;> (try simp only [decide_eq_true_eq, decide_eq_false_iff_not, Bool.not_eq_true', Bool.not_eq_false', Bool.not_eq_true, reduceCtorEq] at hc) <;> (try (exfalso; omega))) | (refine qt7 ?_ ?_; focus decide) | (refine qw7 ?_ ?_ ?_; (focus (decide +kernel)); (focus (decide +kernel))))
    ((first | refine fin_ret ?_ | refine fin_end ?_); simp only [go_sem, ↓upd_def, Nat.reduceEqDiff, Nat.reduceAdd, ↓reduceIte, reduceCtorEq])
    rw [List.take_length]
    exact hK
def foF (l : List FieldD) (n : Bs) : FieldD := if dataB l = true then findF l n else noF
@[go_sem] def foC : PC := rel (α := List FieldD × Bs) (fun x => [.seq (encFs x.1), .str x.2]) (fun x => smFs x.1 ∧ x.2.length ≤ 1000000) (fun x => .tup [.agg (encF (foF x.1 x.2)), .bool (dataB x.1 && hasF x.1 x.2)])
theorem fo_i : PureOk Try.prog 54 foC := by
  refine pure_rel 2 (tab_cons dv_i (tab_cons fld_i tab_nil)) mixed [.cell 4 67, .tmp 5] Try.func54 rfl rfl (by kernel_rfl) (by kernel_rfl) (fun _ => rfl) (by kernel_rfl) ?_
  rintro ⟨l, n⟩ K ⟨hsm, hn⟩ hK
  dsimp only at *
  have hok := smFs_ok hsm
  unfold entry
  unfold foF at hK
  cases hd : dataB l
  · rw [hd] at hK
    simp only [Bool.false_eq_true, if_false, Bool.false_and] at hK
    repeat' (first | (refine qwd fun K hk => ?_; simp only [lvX30_54, mkT, go_sem, Nat.reduceEqDiff, Nat.reduceAdd, Nat.reduceLeDiff, Nat.reduceLT, Nat.reduceSub, Int.reduceToNat, ↓reduceIte, reduceCtorEq, encFs_iff, hd, Bool.not_false]; apply hk; clear hk K) | apply qw8 | apply qw1 | refine qwc lvX30_54 ?_ | apply qt1 | apply qw5 | apply qw2 | apply qw9 | apply qt2 | apply qt3 | apply qt4 | apply qt5 | apply qt6 | apply qw3 | apply qw4 | apply qj1 | apply qj2 | apply qj3 | apply qj4 | apply qj5 | apply qu1 | apply qu2 | ((first | apply qa1 | apply qa2 | apply qa3 | apply qh1 | apply qh2); intro K hk; simp only [go_sem, Nat.reduceEqDiff, Nat.reduceAdd, Nat.reduceLeDiff, Nat.reduceLT, Nat.reduceSub, Int.reduceToNat, ↓reduceIte, reduceCtorEq, encFs_iff, hd, Bool.not_false]; (repeat (refine And.intro ?_ ?_; focus (first | omega | assumption | with_reducible rfl | (simp only [go_sem, Nat.reduceEqDiff, Nat.reduceAdd, Nat.reduceLeDiff, Nat.reduceLT, Nat.reduceSub, Int.reduceToNat, ↓reduceIte, reduceCtorEq, encFs_iff, hd, Bool.not_false]; done)))); intros; apply hk; clear hk K) | ((first | apply qg1 rfl | apply qcd); focus (simp only [go_sem, Nat.reduceEqDiff, Nat.reduceAdd, Nat.reduceLeDiff, Nat.reduceLT, Nat.reduceSub, Int.reduceToNat, ↓reduceIte, reduceCtorEq, encFs_iff, hd, Bool.not_false]; exact rfl)) | (refine qj6 ?_ ?_ <;> intro hc <;> (try simp only [hc]) <;> (try simp only [decide_eq_true_eq, decide_eq_false_iff_not, Bool.not_eq_true', Bool.not_eq_false', Bool.not_eq_true, reduceCtorEq] at hc) <;> (try (exfalso; omega))) | (refine qt7 ?_ ?_; focus decide) | (refine qw7 ?_ ?_ ?_; (focus (decide +kernel)); (focus (decide +kernel))))
    ((first | refine fin_ret ?_ | refine fin_end ?_); simp only [go_sem, ↓upd_def, Nat.reduceEqDiff, Nat.reduceAdd, ↓reduceIte, reduceCtorEq])
    exact ⟨Nat.le_refl _, hK⟩
  · have hb := dataB_bd hd
    have h8 := dataB_len hd
    rw [hd] at hK
    simp only [if_true, Bool.true_and] at hK
    generalize hff : findF l n = f at *
    obtain ⟨fn, ft, fh, fi⟩ := f
    repeat' (first | (refine qwd fun K hk => ?_; simp only [lvX30_54, mkT, go_sem, Nat.reduceEqDiff, Nat.reduceAdd, Nat.reduceLeDiff, Nat.reduceLT, Nat.reduceSub, Int.reduceToNat, ↓reduceIte, reduceCtorEq, encFs_iff, encF_mk, hd, hff, Bool.not_true]; apply hk; clear hk K) | apply qw8 | apply qw1 | refine qwc lvX30_54 ?_ | apply qt1 | apply qw5 | apply qw2 | apply qw9 | apply qt2 | apply qt3 | apply qt4 | apply qt5 | apply qt6 | apply qw3 | apply qw4 | apply qj1 | apply qj2 | apply qj3 | apply qj4 | apply qj5 | apply qu1 | apply qu2 | ((first | apply qa1 | apply qa2 | apply qa3 | apply qh1 | apply qh2); intro K hk; simp only [go_sem, Nat.reduceEqDiff, Nat.reduceAdd, Nat.reduceLeDiff, Nat.reduceLT, Nat.reduceSub, Int.reduceToNat, ↓reduceIte, reduceCtorEq, encFs_iff, encF_mk, hd, hff, Bool.not_true]; (repeat (refine And.intro ?_ ?_; focus (first | omega | assumption | with_reducible rfl | (simp only [go_sem, Nat.reduceEqDiff, Nat.reduceAdd, Nat.reduceLeDiff, Nat.reduceLT, Nat.reduceSub, Int.reduceToNat, ↓reduceIte, reduceCtorEq, encFs_iff, encF_mk, hd, hff, Bool.not_true]; done)))); intros; apply hk; clear hk K) | ((first | apply qg1 rfl | apply qcd); focus (simp only [go_sem, Nat.reduceEqDiff, Nat.reduceAdd, Nat.reduceLeDiff, Nat.reduceLT, Nat.reduceSub, Int.reduceToNat, ↓reduceIte, reduceCtorEq, encFs_iff, encF_mk, hd, hff, Bool.not_true]; exact rfl)) | (refine qj6 ?_ ?_ <;> intro hc <;> (try simp only [hc]) <;> (try simp only [decide_eq_true_eq, decide_eq_false_iff_not, Bool.not_eq_true', Bool.not_eq_false', Bool.not_eq_true, reduceCtorEq] at hc) <;> (try (exfalso; omega))) | (refine qt7 ?_ ?_; focus decide) | (refine qw7 ?_ ?_ ?_; (focus (decide +kernel)); (focus (decide +kernel))))
    ((first | refine fin_ret ?_ | refine fin_end ?_); simp only [go_sem, ↓upd_def, Nat.reduceEqDiff, Nat.reduceAdd, ↓reduceIte, reduceCtorEq])
    exact ⟨Nat.le_refl _, hK⟩
theorem fo_s : PureOk Try.prog 109 foC := by
  refine pure_rel 2 (tab_cons dv_s (tab_cons ol_s tab_nil)) mixed [.cell 4 67, .tmp 5] Try.func109 rfl rfl (by kernel_rfl) (by kernel_rfl) (fun _ => rfl) (by kernel_rfl) ?_
  rintro ⟨l, n⟩ K ⟨hsm, hn⟩ hK
  dsimp only at *
  have hok := smFs_ok hsm
  have hll := hsm.1
  have hel := encFs_length l
  have hget := encFs_get l
  unfold entry
  unfold foF at hK
  repeat' (first | (refine qwd fun K hk => ?_; simp only [lvX30_109, mkT, go_sem, Nat.reduceEqDiff, Nat.reduceAdd, Nat.reduceLeDiff, Nat.reduceLT, Nat.reduceSub, Int.reduceToNat, ↓reduceIte, reduceCtorEq, encFs_iff, hel]; apply hk; clear hk K) | apply qw8 | apply qw1 | refine qwc lvX30_109 ?_ | apply qt1 | apply qw5 | apply qw2 | apply qw9 | apply qt2 | apply qt3 | apply qt4 | apply qt5 | apply qt6 | apply qw3 | apply qw4 | apply qj1 | apply qj2 | apply qj3 | apply qj4 | apply qj5 | apply qu1 | apply qu2 | ((first | apply qa1 | apply qa2 | apply qa3 | apply qh1 | apply qh2); intro K hk; simp only [go_sem, Nat.reduceEqDiff, Nat.reduceAdd, Nat.reduceLeDiff, Nat.reduceLT, Nat.reduceSub, Int.reduceToNat, ↓reduceIte, reduceCtorEq, encFs_iff, hel]; (repeat (refine And.intro ?_ ?_; focus (first | omega | assumption | with_reducible rfl | (simp only [go_sem, Nat.reduceEqDiff, Nat.reduceAdd, Nat.reduceLeDiff, Nat.reduceLT, Nat.reduceSub, Int.reduceToNat, ↓reduceIte, reduceCtorEq, encFs_iff, hel]; done)))); intros; apply hk; clear hk K) | ((first | apply qg1 rfl | apply qcd); focus (simp only [go_sem, Nat.reduceEqDiff, Nat.reduceAdd, Nat.reduceLeDiff, Nat.reduceLT, Nat.reduceSub, Int.reduceToNat, ↓reduceIte, reduceCtorEq, encFs_iff, hel]; exact rfl)) | (refine qj6 ?_ ?_ <;> intro hc <;> (try simp only [hc]) <;> (try simp only [decide_eq_true_eq, decide_eq_false_iff_not, Bool.not_eq_true', Bool.not_eq_false', Bool.not_eq_true, reduceCtorEq] at hc) <;> (try (exfalso; omega))) | (refine qt7 ?_ ?_; focus decide) | (refine qw7 ?_ ?_ ?_; (focus (decide +kernel)); (focus (decide +kernel))))
  refine s_loop (ι := Nat) (fun k => [(0, .seq (encFs l)), (1, .str n), (4, .ref 0 0), (6, .int .i64 k)]) (fun _ => [(0, .box [.str [], .str [], .bool false, .nil])]) 1 (fun k => k ≤ l.length ∧ (dataB l = true → findF l n = findF (l.drop k) n ∧ hasF l n = hasF (l.drop k) n)) (fun k => l.length - k) 0 (by omega) ⟨Nat.zero_le _, fun _ => ⟨rfl, rfl⟩⟩ ?_ ?_
  · simp [fits, fitsT, fitsM, upd_def, PV.nmb, nmbL, MB.nmb, List.getD_cons_zero, List.getD_cons_succ]
  rintro k ⟨hk, hfh⟩
  simp only [mkS, mkT, mkM]
  cases hd : dataB l with
  | false =>
    rw [hd] at hK
    simp only [Bool.false_eq_true, if_false, Bool.false_and] at hK
    by_cases hkl : k < l.length
    · repeat' (first | (refine qwd fun K hk => ?_; simp only [lvX30_109, mkT, go_sem, Nat.reduceEqDiff, Nat.reduceAdd, Nat.reduceLeDiff, Nat.reduceLT, Nat.reduceSub, Int.reduceToNat, ↓reduceIte, reduceCtorEq, encFs_iff, hel, hd]; apply hk; clear hk K) | apply qw8 | apply qw1 | refine qwc lvX30_109 ?_ | apply qt1 | apply qw5 | apply qw2 | apply qw9 | apply qt2 | apply qt3 | apply qt4 | apply qt5 | apply qt6 | apply qw3 | apply qw4 | apply qj1 | apply qj2 | apply qj3 | apply qj4 | apply qj5 | apply qu1 | apply qu2 | ((first | apply qa1 | apply qa2 | apply qa3 | apply qh1 | apply qh2); intro K hk; simp only [go_sem, Nat.reduceEqDiff, Nat.reduceAdd, Nat.reduceLeDiff, Nat.reduceLT, Nat.reduceSub, Int.reduceToNat, ↓reduceIte, reduceCtorEq, encFs_iff, hel, hd]; (repeat (refine And.intro ?_ ?_; focus (first | omega | assumption | with_reducible rfl | (simp only [go_sem, Nat.reduceEqDiff, Nat.reduceAdd, Nat.reduceLeDiff, Nat.reduceLT, Nat.reduceSub, Int.reduceToNat, ↓reduceIte, reduceCtorEq, encFs_iff, hel, hd]; done)))); intros; apply hk; clear hk K) | ((first | apply qg1 rfl | apply qcd); focus (simp only [go_sem, Nat.reduceEqDiff, Nat.reduceAdd, Nat.reduceLeDiff, Nat.reduceLT, Nat.reduceSub, Int.reduceToNat, ↓reduceIte, reduceCtorEq, encFs_iff, hel, hd]; exact rfl)) | (refine qj6 ?_ ?_ <;> intro hc <;> (try simp only [hc]) <;> (try simp only [decide_eq_true_eq, decide_eq_false_iff_not, Bool.not_eq_true', Bool.not_eq_false', Bool.not_eq_true, reduceCtorEq] at hc) <;> (try (exfalso; omega))) | (refine qt7 ?_ ?_; focus decide) | (refine qw7 ?_ ?_ ?_; (focus (decide +kernel)); (focus (decide +kernel))))
      ((first | refine fin_ret ?_ | refine fin_end ?_); simp only [go_sem, ↓upd_def, Nat.reduceEqDiff, Nat.reduceAdd, ↓reduceIte, reduceCtorEq])
      exact ⟨Nat.le_refl _, hK⟩
    · repeat' (first | (refine qwd fun K hk => ?_; simp only [lvX30_109, mkT, go_sem, Nat.reduceEqDiff, Nat.reduceAdd, Nat.reduceLeDiff, Nat.reduceLT, Nat.reduceSub, Int.reduceToNat, ↓reduceIte, reduceCtorEq, encFs_iff, hel, hd]; apply hk; clear hk K) | apply qw8 | apply qw1 | refine qwc lvX30_109 ?_ | apply qt1 | apply qw5 | apply qw2 | apply qw9 | apply qt2 | apply qt3 | apply qt4 | apply qt5 | apply qt6 | apply qw3 | apply qw4 | apply qj1 | apply qj2 | apply qj3 | apply qj4 | apply qj5 | apply qu1 | apply qu2 | ((first | apply qa1 | apply qa2 | apply qa3 | apply qh1 | apply qh2); intro K hk; simp only [go_sem, Nat.reduceEqDiff, Nat.reduceAdd, Nat.reduceLeDiff, Nat.reduceLT, Nat.reduceSub, Int.reduceToNat, ↓reduceIte, reduceCtorEq, encFs_iff, hel, hd]; (repeat (refine And.intro ?_ ?_; focus (first | omega | assumption | with_reducible rfl | (simp only [go_sem, Nat.reduceEqDiff, Nat.reduceAdd, Nat.reduceLeDiff, Nat.reduceLT, Nat.reduceSub, Int.reduceToNat, ↓reduceIte, reduceCtorEq, encFs_iff, hel, hd]; done)))); intros; apply hk; clear hk K) | ((first | apply qg1 rfl | apply qcd); focus (simp only [go_sem, Nat.reduceEqDiff, Nat.reduceAdd, Nat.reduceLeDiff, Nat.reduceLT, Nat.reduceSub, Int.reduceToNat, ↓reduceIte, reduceCtorEq, encFs_iff, hel, hd]; exact rfl)) | (refine qj6 ?_ ?_ <;> intro hc <;> (try simp only [hc]) <;> (try simp only [decide_eq_true_eq, decide_eq_false_iff_not, Bool.not_eq_true', Bool.not_eq_false', Bool.not_eq_true, reduceCtorEq] at hc) <;> (try (exfalso; omega))) | (refine qt7 ?_ ?_; focus decide) | (refine qw7 ?_ ?_ ?_; (focus (decide +kernel)); (focus (decide +kernel))))
      ((first | refine fin_ret ?_ | refine fin_end ?_); simp only [go_sem, ↓upd_def, Nat.reduceEqDiff, Nat.reduceAdd, ↓reduceIte, reduceCtorEq])
      exact ⟨Nat.le_refl _, hK⟩
  | true =>
    obtain ⟨h1, h2⟩ := hfh hd
    rw [hd] at hK
    simp only [if_true, Bool.true_and] at hK
    by_cases hkl : k < l.length
    · obtain ⟨⟨nm, tx, hb, its⟩, hx⟩ := get_some (xs := l) (k := k) hkl
      obtain ⟨e1, e2, e3, e4⟩ := hsm.2 _ (List.mem_of_getElem? hx)
      dsimp only at e1 e2 e3 e4
      have hsl := strs_length its
      have hsa := strs_all its
      rw [find_at hx] at h1
      rw [has_at hx] at h2
      dsimp only at h1 h2
      by_cases hnm : nm = n
      · rw [if_pos hnm] at h1
        rw [decide_eq_true hnm, Bool.true_or] at h2
        repeat' (first | (refine qwd fun K hk => ?_; simp only [lvX30_109, mkT, go_sem, Nat.reduceEqDiff, Nat.reduceAdd, Nat.reduceLeDiff, Nat.reduceLT, Nat.reduceSub, Int.reduceToNat, ↓reduceIte, reduceCtorEq, encFs_iff, hel, hget, hx, encF_mk, Option.map_some, hd, hsl, hsa, eq_true hnm, decide_true, List.nil_append]; apply hk; clear hk K) | apply qw8 | apply qw1 | refine qwc lvX30_109 ?_ | apply qt1 | apply qw5 | apply qw2 | apply qw9 | apply qt2 | apply qt3 | apply qt4 | apply qt5 | apply qt6 | apply qw3 | apply qw4 | apply qj1 | apply qj2 | apply qj3 | apply qj4 | apply qj5 | apply qu1 | apply qu2 | ((first | apply qa1 | apply qa2 | apply qa3 | apply qh1 | apply qh2); intro K hk; simp only [go_sem, Nat.reduceEqDiff, Nat.reduceAdd, Nat.reduceLeDiff, Nat.reduceLT, Nat.reduceSub, Int.reduceToNat, ↓reduceIte, reduceCtorEq, encFs_iff, hel, hget, hx, encF_mk, Option.map_some, hd, hsl, hsa, eq_true hnm, decide_true, List.nil_append]; (repeat (refine And.intro ?_ ?_; focus (first | omega | assumption | with_reducible rfl | (simp only [go_sem, Nat.reduceEqDiff, Nat.reduceAdd, Nat.reduceLeDiff, Nat.reduceLT, Nat.reduceSub, Int.reduceToNat, ↓reduceIte, reduceCtorEq, encFs_iff, hel, hget, hx, encF_mk, Option.map_some, hd, hsl, hsa, eq_true hnm, decide_true, List.nil_append]; done)))); intros; apply hk; clear hk K) | ((first | apply qg1 rfl | apply qcd); focus (simp only [go_sem, Nat.reduceEqDiff, Nat.reduceAdd, Nat.reduceLeDiff, Nat.reduceLT, Nat.reduceSub, Int.reduceToNat, ↓reduceIte, reduceCtorEq, encFs_iff, hel, hget, hx, encF_mk, Option.map_some, hd, hsl, hsa, eq_true hnm, decide_true, List.nil_append]; exact rfl)) | (refine qj6 ?_ ?_ <;> intro hc <;> (try simp only [hc]) <;> (try simp only [decide_eq_true_eq, decide_eq_false_iff_not, Bool.not_eq_true', Bool.not_eq_false', Bool.not_eq_true, reduceCtorEq] at hc) <;> (try (exfalso; omega))) | (refine qt7 ?_ ?_; focus decide) | (refine qw7 ?_ ?_ ?_; (focus (decide +kernel)); (focus (decide +kernel))))
        ((first | refine fin_ret ?_ | refine fin_end ?_); simp only [go_sem, ↓upd_def, Nat.reduceEqDiff, Nat.reduceAdd, ↓reduceIte, reduceCtorEq])
        rw [h1, h2] at hK
        exact ⟨Nat.le_refl _, hK⟩
      · rw [if_neg hnm] at h1
        rw [decide_eq_false hnm, Bool.false_or] at h2
        have hdn := decide_eq_false hnm
        repeat' (first | (refine qwd fun K hk => ?_; simp only [lvX30_109, mkT, go_sem, Nat.reduceEqDiff, Nat.reduceAdd, Nat.reduceLeDiff, Nat.reduceLT, Nat.reduceSub, Int.reduceToNat, ↓reduceIte, reduceCtorEq, encFs_iff, hel, hget, hx, encF_mk, Option.map_some, hd, hdn]; apply hk; clear hk K) | apply qw8 | apply qw1 | refine qwc lvX30_109 ?_ | apply qt1 | apply qw5 | apply qw2 | apply qw9 | apply qt2 | apply qt3 | apply qt4 | apply qt5 | apply qt6 | apply qw3 | apply qw4 | apply qj1 | apply qj2 | apply qj3 | apply qj4 | apply qj5 | apply qu1 | apply qu2 | ((first | apply qa1 | apply qa2 | apply qa3 | apply qh1 | apply qh2); intro K hk; simp only [go_sem, Nat.reduceEqDiff, Nat.reduceAdd, Nat.reduceLeDiff, Nat.reduceLT, Nat.reduceSub, Int.reduceToNat, ↓reduceIte, reduceCtorEq, encFs_iff, hel, hget, hx, encF_mk, Option.map_some, hd, hdn]; (repeat (refine And.intro ?_ ?_; focus (first | omega | assumption | with_reducible rfl | (simp only [go_sem, Nat.reduceEqDiff, Nat.reduceAdd, Nat.reduceLeDiff, Nat.reduceLT, Nat.reduceSub, Int.reduceToNat, ↓reduceIte, reduceCtorEq, encFs_iff, hel, hget, hx, encF_mk, Option.map_some, hd, hdn]; done)))); intros; apply hk; clear hk K) | ((first | apply qg1 rfl | apply qcd); focus (simp only [go_sem, Nat.reduceEqDiff, Nat.reduceAdd, Nat.reduceLeDiff, Nat.reduceLT, Nat.reduceSub, Int.reduceToNat, ↓reduceIte, reduceCtorEq, encFs_iff, hel, hget, hx, encF_mk, Option.map_some, hd, hdn]; exact rfl)) | (refine qj6 ?_ ?_ <;> intro hc <;> (try simp only [hc]) <;> (try simp only [decide_eq_true_eq, decide_eq_false_iff_not, Bool.not_eq_true', Bool.not_eq_false', Bool.not_eq_true, reduceCtorEq] at hc) <;> (try (exfalso; omega))) | (refine qt7 ?_ ?_; focus decide) | (refine qw7 ?_ ?_ ?_; (focus (decide +kernel)); (focus (decide +kernel))))
        refine s_again (k + 1) ?_ ?_ ?_ <;> (first | omega | (dsimp only; omega) | skip)
        · exact ⟨by omega, fun _ => ⟨h1, h2⟩⟩
        · simp [fits, fitsT, fitsM, upd_def, PV.nmb, nmbL, MB.nmb, List.getD_cons_zero, List.getD_cons_succ]
    · repeat' (first | (refine qwd fun K hk => ?_; simp only [lvX30_109, mkT, go_sem, Nat.reduceEqDiff, Nat.reduceAdd, Nat.reduceLeDiff, Nat.reduceLT, Nat.reduceSub, Int.reduceToNat, ↓reduceIte, reduceCtorEq, encFs_iff, hel, hd]; apply hk; clear hk K) | apply qw8 | apply qw1 | refine qwc lvX30_109 ?_ | apply qt1 | apply qw5 | apply qw2 | apply qw9 | apply qt2 | apply qt3 | apply qt4 | apply qt5 | apply qt6 | apply qw3 | apply qw4 | apply qj1 | apply qj2 | apply qj3 | apply qj4 | apply qj5 | apply qu1 | apply qu2 | ((first | apply qa1 | apply qa2 | apply qa3 | apply qh1 | apply qh2); intro K hk; simp only [go_sem, Nat.reduceEqDiff, Nat.reduceAdd, Nat.reduceLeDiff, Nat.reduceLT, Nat.reduceSub, Int.reduceToNat, ↓reduceIte, reduceCtorEq, encFs_iff, hel, hd]; (repeat (refine And.intro ?_ ?_; focus (first | omega | assumption | with_reducible rfl | (simp only [go_sem, Nat.reduceEqDiff, Nat.reduceAdd, Nat.reduceLeDiff, Nat.reduceLT, Nat.reduceSub, Int.reduceToNat, ↓reduceIte, reduceCtorEq, encFs_iff, hel, hd]; done)))); intros; apply hk; clear hk K) | ((first | apply qg1 rfl | apply qcd); focus (simp only [go_sem, Nat.reduceEqDiff, Nat.reduceAdd, Nat.reduceLeDiff, Nat.reduceLT, Nat.reduceSub, Int.reduceToNat, ↓reduceIte, reduceCtorEq, encFs_iff, hel, hd]; exact rfl)) | (refine qj6 ?_ ?_ <;> intro hc <;> (try simp only [hc]) <;> (try simp only [decide_eq_true_eq, decide_eq_false_iff_not, Bool.not_eq_true', Bool.not_eq_false', Bool.not_eq_true, reduceCtorEq] at hc) <;> (try (exfalso; omega))) | (refine qt7 ?_ ?_; focus decide) | (refine qw7 ?_ ?_ ?_; (focus (decide +kernel)); (focus (decide +kernel))))
      ((first | refine fin_ret ?_ | refine fin_end ?_); simp only [go_sem, ↓upd_def, Nat.reduceEqDiff, Nat.reduceAdd, ↓reduceIte, reduceCtorEq])
      rw [List.drop_of_length_le (by omega)] at h1 h2
      rw [h1, h2] at hK
      exact ⟨Nat.le_refl _, hK⟩
end Go.Proofs.Ytoocbpendccngaa
