/- Contracts: drawn parts. -/
import Derived.Test.YtoocbpendccngaaGreatWR1
import Derived.Test.YtoocbpendccngaaGreatWFP

namespace Go.Proofs.YtoocbpendccngaaGreat
attribute [local irreducible] awp arun acalm FinP Fin AX.then AX.inBlock Again aG gsel amix amixN amixC aop aopc aopd cutK
attribute [local go_sem] aBSliceD aSlice aSliceC boundOf aMk aCall aCallC aLenL aLen aPick_t aPick_f aNil aAlloc aBox aBuild bldPV aBSlice bsPV aApp newsOf destOf drp aConvX aConv aConvInt aLoad cellsAt aStore cellsPV setAt aFld aField aIdx aIndex aUn aBin' aBin aMax aExtract pvOf PV.isCell nmbL PV.nmb List.map_cons List.map_nil List.all_cons List.all_nil Bool.and_true Bool.true_and if_true if_false List.getD_cons_zero List.getD_cons_succ List.getD_nil Option.isSome_some true_and and_true and_self eq_self true_or or_true List.drop_zero List.drop_succ_cons List.drop_nil List.take_zero List.take_succ_cons List.take_nil List.length_cons List.length_nil List.length_map Option.getD_some Option.getD_none List.nil_append List.cons_append List.append_nil Option.some.injEq exists_eq_left' List.getElem?_cons_zero List.getElem?_cons_succ Int.toNat_natCast Int.natCast_inj toNat_succ Nat.zero_add res res1 resC owns owns1 ownsC List.flatMap_cons List.flatMap_nil List.flatten_cons List.flatten_nil List.mem_cons List.not_mem_nil or_false false_or forall_eq forall_eq_or_imp isFro frz frz1 pureC tabA isBld List.cons.injEq PV.seq.injEq PV.int.injEq PV.str.injEq PV.bool.injEq PV.agg.injEq inR tab Γof aRes packR Option.map_some Option.map_none rel Prod.exists exists_and_left exists_eq_left and_assoc beq_self_eq_true Bool.not_true Bool.not_false decide_true decide_false List.set_cons_zero List.set_cons_succ rst_nil rst_cons
attribute [local go_sem ↓] evT upd_def aop aopc aopd
set_option maxRecDepth 100000
set_option linter.unusedVariables false
set_option linter.unusedSimpArgs false
open Go.RowKit
def lv67 : Nat → List Nat
  | 0 => [0, 1]
  | 1 => [0, 1, 5]
  | 2 => [0, 1, 5, 6]
  | 3 => [0, 1, 5, 6, 14]
  | 4 => [0, 1, 5, 6]
  | 5 => [0, 1, 5, 6, 7]
  | 6 => [0, 1, 5, 6, 7, 21]
  | 7 => [0, 1, 5, 6, 23]
  | 8 => [0, 1, 5, 6]
  | 9 => [0, 1, 5, 6, 7, 21, 36]
  | 10 => [0, 1, 5, 6]
  | 11 => [0, 1, 5, 6, 7, 21, 40]
  | 12 => [0, 1, 5, 6]
  | 13 => [0, 1, 5, 6]
  | 14 => [0, 1, 5, 6, 7, 21, 49]
  | 15 => [0, 1, 5, 6]
  | 16 => [0, 1, 5, 6]
  | 17 => [0, 1, 5, 6, 7, 21, 58]
  | 18 => [0, 1, 5, 6]
  | 19 => [0, 1, 5, 6]
  | 20 => [0, 1, 5, 6, 7, 21, 67]
  | 21 => [0, 1, 5, 6]
  | 22 => [0, 1, 5, 6]
  | 23 => [0, 1, 5, 6, 7, 21, 76]
  | 24 => [0, 1, 5, 6]
  | 25 => [0, 1, 5, 6]
  | 26 => [0, 1, 5, 6, 7, 21, 85]
  | 27 => [0, 1, 5, 6]
  | 28 => [0, 1, 5, 6, 91]
  | 29 => [0, 1, 5, 6, 94]
  | 30 => [0, 1, 5, 6, 8]
  | 31 => [0, 1, 5, 6, 8, 104]
  | 32 => [0, 1, 5, 6, 8]
  | 33 => [0, 1, 5, 6]
  | 34 => [4]
  | _ => []
def lv70 : Nat → List Nat
  | 0 => [0, 1]
  | 1 => [0, 1, 5]
  | 2 => [0, 1, 5, 19]
  | 3 => [1, 5, 6]
  | 4 => [6]
  | 5 => [4]
  | 6 => [4]
  | _ => []
def lv106 : Nat → List Nat
  | 0 => [0, 1]
  | 1 => [0, 1, 5]
  | 2 => [0, 1, 5, 9]
  | 3 => [0, 1, 5]
  | 4 => [0, 1, 5, 17]
  | 5 => [0, 1, 5]
  | 6 => [0, 1, 5]
  | 7 => [4]
  | _ => []
theorem enc_nil {ys : List PartD} : [] = encPs ys ↔ [] = ys := by
  rw [show ([] : List (List PV)) = encPs [] by simp [encPs], encPs_iff]
theorem enc_snoc {xs ys : List PartD} {k : Int} {t n : Bs} {ps os : List PartD} : encPs xs ++ [[.int .i64 k, .str t, .str n, .seq (encPs ps), .seq (encPs os)]] = encPs ys ↔ xs ++ [.mk k t n ps os] = ys := by
  rw [← encP_mk, ← encPs_one, ← encPs_append, encPs_iff]
theorem enc_snoc0 {xs ys : List PartD} {k : Int} {t n : Bs} : encPs xs ++ [[.int .i64 k, .str t, .str n, .seq [], .seq []]] = encPs ys ↔ xs ++ [.mk k t n [] []] = ys := by
  have := enc_snoc (xs := xs) (ys := ys) (k := k) (t := t) (n := n) (ps := []) (os := [])
  rwa [encPs_nil] at this
theorem enc_snoc1 {xs ys : List PartD} {k : Int} {t n : Bs} {ps : List PartD} : encPs xs ++ [[.int .i64 k, .str t, .str n, .seq (encPs ps), .seq []]] = encPs ys ↔ xs ++ [.mk k t n ps []] = ys := by
  have := enc_snoc (xs := xs) (ys := ys) (k := k) (t := t) (n := n) (ps := ps) (os := [])
  rwa [encPs_nil] at this
theorem encPs_set (xs : List PartD) (k : Nat) (y : PartD) : (encPs xs).set k (encP y) = encPs (xs.set k y) := by
  rw [encPs_map, encPs_map, List.map_set]
theorem le_ex {a b : Int} (h : a ≤ b) : ∃ c, c = b ∧ a ≤ c := ⟨b, rfl, h⟩
theorem wtL_set {xs : List PartD} {k : Nat} {x y : PartD} (h : xs[k]? = some x) : wtL (xs.set k y) + wtP x = wtL xs + wtP y := by
  have h1 := wtL_split h
  obtain ⟨hk, _⟩ := List.getElem?_eq_some_iff.1 h
  have e : xs.set k y = xs.take k ++ [y] ++ xs.drop (k + 1) := by
    rw [List.set_eq_take_append_cons_drop, if_pos hk]; simp
  rw [e, wtL_append, wtL_append, wtL_one]
  omega
@[go_sem] def addC0 : AC := locX 93 5 (α := List PartD × Bs) (fun x => [.str x.2]) (fun x => .row 93 5 (encPs x.1)) (fun x => wtL x.1 ≤ 1000000 ∧ x.2.length ≤ 1000) (fun x es => ∃ ys, es = encPs ys ∧ wtL ys ≤ wtL x.1 + x.2.length + 1)
set_option maxHeartbeats 8000000 in
theorem add_ok0 : ACok Tryz.prog 70 addC0 := by
  refine locX_ok 2 (tabA_nil (Γof_ok tab_nil)) tab_nil mixed [.tmp 4] Tryz.func70 rfl rfl (by kernel_rfl) (by kernel_rfl) (fun _ => rfl) (by kernel_rfl) (fun x => by simp [nmbL, PV.nmb]) (fun x => by simp [go_sem, MB.nmb, nmbL, PV.nmb]) ?_
  rintro ⟨xs, t9⟩ K ⟨hw, ht⟩ hK
  dsimp only at *
  have hlw := len_le_wtL xs
  have ha5 := encPs_all xs
  have h00 : decide ((0 : Int) ≤ ((0 : Nat) : Int) - 1) = false := by decide
  by_cases h0 : xs = []
  · subst h0
    unfold entry
    simp only [mkM, encPs_nil] at *
    repeat' (first | ((first | apply qwd | apply qa1 | apply qa2 | apply qa3 | apply qh1 | apply qh2 | apply qg1 rfl | apply qcd); (try intro K hk); focus (simp only [lv70, mkT, go_sem, Nat.reduceEqDiff, Nat.reduceAdd, Nat.reduceLeDiff, Nat.reduceLT, Nat.reduceSub, Int.reduceToNat, ↓reduceIte, reduceCtorEq, h00]; first | exact rfl | ((repeat (refine And.intro ?_ ?_; focus (first | omega | assumption | with_reducible rfl))); intros; apply hk; clear hk K))) | apply qw8 | apply qw1 | refine qwc lv70 ?_ | apply qt1 | apply qw5 | apply qw2 | apply qw9 | apply qt2 | apply qt3 | apply qt4 | apply qt5 | apply qt6 | apply qw3 | apply qw4 | apply qj1 | apply qj2 | apply qj3 | apply qj4 | apply qj5 | apply qu1 | apply qu2 | (refine qj6 ?_ ?_ <;> intro hc <;> (try simp only [hc]) <;> (try simp only [decide_eq_true_eq, decide_eq_false_iff_not, Bool.not_eq_true', Bool.not_eq_false', Bool.not_eq_true, reduceCtorEq] at hc) <;> (try (exfalso; omega))) | (refine qt7 ?_ ?_; focus decide) | (refine qw7 ?_ ?_ ?_; (focus (decide +kernel)); (focus (decide +kernel))))
    ((first | refine fin_V ?_ | refine fin_Ve ?_ | refine fin_O ?_ | refine fin_Oe ?_ | refine fin_X ?_ | refine fin_Xe ?_ | refine fin_B ?_ | refine fin_Be ?_); simp only [go_sem, PV.own.injEq, MB.row.injEq, MB.nmb, not_false_eq_true, ne_eq, ↓upd_def, Nat.reduceEqDiff, Nat.reduceAdd, ↓reduceIte, reduceCtorEq])
    have e := (enc_snoc0 (xs := []) (k := 1) (t := t9) (n := []) (ys := [.mk 1 t9 [] [] []])).2 rfl
    simp only [encPs_nil, List.nil_append] at e
    exact hK _ ⟨_, e, by simp [wtL_one, wtP_mk, wtL_nil]; omega⟩
  · have hlp : 0 < xs.length := List.length_pos_iff.2 h0
    obtain ⟨⟨kd, t, nm, ps, os⟩, hx⟩ := get_some (xs := xs) (k := xs.length - 1) (by omega)
    have hget := encPs_get xs
    have ws := wtL_split hx
    rw [wtP_mk] at ws
    have hpr : ((xs.length : Int) - 1).toNat = xs.length - 1 := by omega
    unfold entry
    simp only [mkM] at *
    repeat' (first | ((first | apply qwd | apply qa1 | apply qa2 | apply qa3 | apply qh1 | apply qh2 | apply qg1 rfl | apply qcd); (try intro K hk); focus (simp only [lv70, mkT, go_sem, Nat.reduceEqDiff, Nat.reduceAdd, Nat.reduceLeDiff, Nat.reduceLT, Nat.reduceSub, Int.reduceToNat, ↓reduceIte, reduceCtorEq, hpr, hget, hx, encP_mk]; first | exact rfl | ((repeat (refine And.intro ?_ ?_; focus (first | omega | assumption | with_reducible rfl))); intros; apply hk; clear hk K))) | apply qw8 | apply qw1 | refine qwc lv70 ?_ | apply qt1 | apply qw5 | apply qw2 | apply qw9 | apply qt2 | apply qt3 | apply qt4 | apply qt5 | apply qt6 | apply qw3 | apply qw4 | apply qj1 | apply qj2 | apply qj3 | apply qj4 | apply qj5 | apply qu1 | apply qu2 | (refine qj6 ?_ ?_ <;> intro hc <;> (try simp only [hc]) <;> (try simp only [decide_eq_true_eq, decide_eq_false_iff_not, Bool.not_eq_true', Bool.not_eq_false', Bool.not_eq_true, reduceCtorEq] at hc) <;> (try (exfalso; omega))) | (refine qt7 ?_ ?_; focus decide) | (refine qw7 ?_ ?_ ?_; (focus (decide +kernel)); (focus (decide +kernel))))
    · ((first | refine fin_V ?_ | refine fin_Ve ?_ | refine fin_O ?_ | refine fin_Oe ?_ | refine fin_X ?_ | refine fin_Xe ?_ | refine fin_B ?_ | refine fin_Be ?_); simp only [go_sem, PV.own.injEq, MB.row.injEq, MB.nmb, not_false_eq_true, ne_eq, ↓upd_def, Nat.reduceEqDiff, Nat.reduceAdd, ↓reduceIte, reduceCtorEq])
      refine hK _ ⟨xs.set (xs.length - 1) (.mk kd (t ++ t9) nm ps os), by rw [← encPs_set, encP_mk], ?_⟩
      have := wtL_set (y := .mk kd (t ++ t9) nm ps os) hx
      simp only [wtP_mk, List.length_append] at this
      omega
    · ((first | refine fin_V ?_ | refine fin_Ve ?_ | refine fin_O ?_ | refine fin_Oe ?_ | refine fin_X ?_ | refine fin_Xe ?_ | refine fin_B ?_ | refine fin_Be ?_); simp only [go_sem, PV.own.injEq, MB.row.injEq, MB.nmb, not_false_eq_true, ne_eq, ↓upd_def, Nat.reduceEqDiff, Nat.reduceAdd, ↓reduceIte, reduceCtorEq])
      refine hK _ ⟨_, enc_snoc0.2 rfl, ?_⟩
      simp only [wtL_append, wtL_one, wtP_mk, wtL_nil, List.length_nil]
      omega
@[go_sem] def addC : AC := fun args mem n K => match args with
  | [.own i, .str t] => (match mem i with
    | some (.row e s es) => e = 93 ∧ s = 5 ∧ (∃ xs, es = encPs xs ∧ wtL xs ≤ 1000000 ∧ t.length ≤ 1000 ∧ ∀ ys, wtL ys ≤ wtL xs + t.length + 1 → ys.length ≤ wtL xs + t.length + 1 → K (.own n) (upd (upd mem i none) n (some (.row 93 5 (encPs ys)))) (n + 1))
    | _ => False)
  | _ => False
theorem add_ok : ACok Tryz.prog 70 addC := add_ok0.mono fun args mem n K h => by
  unfold addC at h
  split at h
  · rename_i i t
    split at h
    · rename_i e s es hm
      obtain ⟨rfl, rfl, xs, rfl, h1, h2, hK⟩ := h
      refine ⟨(xs, t), i, rfl, ⟨h1, h2⟩, hm, ?_⟩
      rintro es ⟨ys, rfl, h3⟩
      exact hK ys h3 (Nat.le_trans (len_le_wtL ys) h3)
    · exact h.elim
  · exact h.elim
@[go_sem] def putC0 : AC := locX 93 5 (α := List PartD × List PartD) (fun x => [.seq (encPs x.2)]) (fun x => .row 93 5 (encPs x.1)) (fun x => wtL x.1 ≤ 100000 ∧ wtL x.2 ≤ 100000 ∧ ∀ k t nm ps os, (.mk k t nm ps os) ∈ x.2 → t.length ≤ 1000) (fun x es => ∃ ys, es = encPs ys ∧ wtL ys ≤ wtL x.1 + 2 * wtL x.2)
set_option maxHeartbeats 8000000 in
theorem put_ok0 : ACok Tryz.prog 106 putC0 := by
  refine locX_ok 2 (tabA_cons add_ok (tabA_nil (Γof_ok tab_nil))) tab_nil mixed [.tmp 4] Tryz.func106 rfl rfl (by kernel_rfl) (by kernel_rfl) (fun _ => rfl) (by kernel_rfl) (fun x => by simp [nmbL, PV.nmb]) (fun x => by simp [go_sem, MB.nmb, nmbL, PV.nmb]) ?_
  rintro ⟨xs, zs⟩ K ⟨hw, hz, hz2⟩ hK
  dsimp only at *
  have hlw := len_le_wtL zs
  have ha5 := encPs_all xs
  unfold entry
  simp only [mkM] at *
  repeat' (first | ((first | apply qwd | apply qa1 | apply qa2 | apply qa3 | apply qh1 | apply qh2 | apply qg1 rfl | apply qcd); (try intro K hk); focus (simp only [lv106, mkT, go_sem, Nat.reduceEqDiff, Nat.reduceAdd, Nat.reduceLeDiff, Nat.reduceLT, Nat.reduceSub, Int.reduceToNat, ↓reduceIte, reduceCtorEq]; first | exact rfl | ((repeat (refine And.intro ?_ ?_; focus (first | omega | assumption | with_reducible rfl))); intros; apply hk; clear hk K))) | apply qw8 | apply qw1 | refine qwc lv106 ?_ | apply qt1 | apply qw5 | apply qw2 | apply qw9 | apply qt2 | apply qt3 | apply qt4 | apply qt5 | apply qt6 | apply qw3 | apply qw4 | apply qj1 | apply qj2 | apply qj3 | apply qj4 | apply qj5 | apply qu1 | apply qu2 | (refine qj6 ?_ ?_ <;> intro hc <;> (try simp only [hc]) <;> (try simp only [decide_eq_true_eq, decide_eq_false_iff_not, Bool.not_eq_true', Bool.not_eq_false', Bool.not_eq_true, reduceCtorEq] at hc) <;> (try (exfalso; omega))) | (refine qt7 ?_ ?_; focus decide) | (refine qw7 ?_ ?_ ?_; (focus (decide +kernel)); (focus (decide +kernel))))
  refine s_loop (ι := Bool × Nat × List PartD) (fun i => [(0, .own (if i.1 = true then 1 else 0)), (1, .seq (encPs zs)), (5, .int .i64 i.2.1)]) (fun i => [(if i.1 = true then 1 else 0, .row 93 5 (encPs i.2.2))]) 2 (fun i => i.2.1 ≤ zs.length ∧ wtL i.2.2 ≤ wtL xs + 2 * wtL (zs.take i.2.1)) (fun i => zs.length - i.2.1) (false, 0, xs) (by omega) ⟨by simp, by simp [wtL_nil]⟩ ?_ ?_
  · simp [fits, fitsT, fitsM, upd_def, PV.nmb, nmbL, MB.nmb, List.getD_cons_zero, List.getD_cons_succ]
  rintro ⟨fl, k, ys⟩ ⟨hk, hy⟩
  dsimp only at *
  cases fl
  · simp only [mkS, mkT, mkM, Bool.false_eq_true, if_false, if_true]
    repeat' (first | ((first | apply qwd | apply qa1 | apply qa2 | apply qa3 | apply qh1 | apply qh2 | apply qg1 rfl | apply qcd); (try intro K hk); focus (simp only [lv106, mkT, go_sem, Nat.reduceEqDiff, Nat.reduceAdd, Nat.reduceLeDiff, Nat.reduceLT, Nat.reduceSub, Int.reduceToNat, ↓reduceIte, reduceCtorEq]; first | exact rfl | ((repeat (refine And.intro ?_ ?_; focus (first | omega | assumption | with_reducible rfl))); intros; apply hk; clear hk K))) | apply qw8 | apply qw1 | refine qwc lv106 ?_ | apply qt1 | apply qw5 | apply qw2 | apply qw9 | apply qt2 | apply qt3 | apply qt4 | apply qt5 | apply qt6 | apply qw3 | apply qw4 | apply qj1 | apply qj2 | apply qj3 | apply qj4 | apply qj5 | apply qu1 | apply qu2 | (refine qj6 ?_ ?_ <;> intro hc <;> (try simp only [hc]) <;> (try simp only [decide_eq_true_eq, decide_eq_false_iff_not, Bool.not_eq_true', Bool.not_eq_false', Bool.not_eq_true, reduceCtorEq] at hc) <;> (try (exfalso; omega))) | (refine qt7 ?_ ?_; focus decide) | (refine qw7 ?_ ?_ ?_; (focus (decide +kernel)); (focus (decide +kernel))))
    · obtain ⟨⟨kd, t, nm, ps, os⟩, hx⟩ := get_some (xs := zs) (k := k) (by omega)
      have htk := take_snoc' hx
      have ws := wtL_split hx
      rw [wtP_mk] at ws
      have hget := encPs_get zs
      have ht1 : t.length ≤ 1000 := hz2 _ _ _ _ _ (List.mem_of_getElem? hx)
      have wd := len_le_wtL (zs.drop (k + 1))
      have e2 : wtL (zs.take (k + 1)) = wtL (zs.take k) + (1 + (t.length + nm.length + wtL ps + wtL os)) := by rw [htk, wtL_append, wtL_one, wtP_mk]
      have hya := encPs_all ys
      have hyl := len_le_wtL ys
      have hpl := encP_length (.mk kd t nm ps os)
      rw [encP_mk] at hpl
      repeat' (first | ((first | apply qwd | apply qa1 | apply qa2 | apply qa3 | apply qh1 | apply qh2 | apply qg1 rfl | apply qcd); (try intro K hk); focus (simp only [lv106, mkT, go_sem, Nat.reduceEqDiff, Nat.reduceAdd, Nat.reduceLeDiff, Nat.reduceLT, Nat.reduceSub, Int.reduceToNat, ↓reduceIte, reduceCtorEq, hget, hx, encP_mk, exl, encPs_iff]; first | exact rfl | ((repeat (refine And.intro ?_ ?_; focus (first | omega | assumption | with_reducible rfl))); intros; apply hk; clear hk K))) | apply qw8 | apply qw1 | refine qwc lv106 ?_ | apply qt1 | apply qw5 | apply qw2 | apply qw9 | apply qt2 | apply qt3 | apply qt4 | apply qt5 | apply qt6 | apply qw3 | apply qw4 | apply qj1 | apply qj2 | apply qj3 | apply qj4 | apply qj5 | apply qu1 | apply qu2 | (refine qj6 ?_ ?_ <;> intro hc <;> (try simp only [hc]) <;> (try simp only [decide_eq_true_eq, decide_eq_false_iff_not, Bool.not_eq_true', Bool.not_eq_false', Bool.not_eq_true, reduceCtorEq] at hc) <;> (try (exfalso; omega))) | (refine qt7 ?_ ?_; focus decide) | (refine qw7 ?_ ?_ ?_; (focus (decide +kernel)); (focus (decide +kernel))))
      · rename_i y9 hy9 hy9'
        refine s_againR ((true, k + 1, y9)) (fun i => if i = 1 then 2 else i) ?_ ?_ ?_ ?_ ?_ ?_ <;> (first | omega | (dsimp only; omega) | (intro i hi; (try dsimp only); (repeat' split) <;> omega) | (intro i j hi hj h; (try dsimp only at h); (repeat' split at h) <;> omega) | skip)
        · simp [fitsTR, fitsMR, PV.ren, renL, MB.ren, upd_def, PV.nmb, nmbL, MB.nmb, List.getD_cons_zero, List.getD_cons_succ, frz, drp]
        · simp [fitsTR, fitsMR, PV.ren, renL, MB.ren, upd_def, PV.nmb, nmbL, MB.nmb, List.getD_cons_zero, List.getD_cons_succ, frz, drp]
      · refine s_againR ((true, k + 1, ys ++ [.mk kd t nm ps os])) (fun i => if i = 1 then 3 else i) ?_ ?_ ?_ ?_ ?_ ?_ <;> (first | omega | (dsimp only; omega) | (intro i hi; (try dsimp only); (repeat' split) <;> omega) | (intro i j hi hj h; (try dsimp only at h); (repeat' split at h) <;> omega) | skip)
        · exact ⟨by dsimp only; omega, by dsimp only; rw [wtL_append, wtL_one, wtP_mk]; omega⟩
        · simp [fitsTR, fitsMR, PV.ren, renL, MB.ren, upd_def, PV.nmb, nmbL, MB.nmb, List.getD_cons_zero, List.getD_cons_succ, frz, drp]
        · simp [fitsTR, fitsMR, PV.ren, renL, MB.ren, upd_def, PV.nmb, nmbL, MB.nmb, List.getD_cons_zero, List.getD_cons_succ, frz, drp, enc_snoc]
    · obtain rfl : k = zs.length := by omega
      ((first | refine fin_V ?_ | refine fin_Ve ?_ | refine fin_O ?_ | refine fin_Oe ?_ | refine fin_X ?_ | refine fin_Xe ?_ | refine fin_B ?_ | refine fin_Be ?_); simp only [go_sem, PV.own.injEq, MB.row.injEq, MB.nmb, not_false_eq_true, ne_eq, ↓upd_def, Nat.reduceEqDiff, Nat.reduceAdd, ↓reduceIte, reduceCtorEq])
      rw [List.take_length] at hy
      exact hK _ ⟨_, rfl, hy⟩
  · simp only [mkS, mkT, mkM, Bool.false_eq_true, if_false, if_true]
    repeat' (first | ((first | apply qwd | apply qa1 | apply qa2 | apply qa3 | apply qh1 | apply qh2 | apply qg1 rfl | apply qcd); (try intro K hk); focus (simp only [lv106, mkT, go_sem, Nat.reduceEqDiff, Nat.reduceAdd, Nat.reduceLeDiff, Nat.reduceLT, Nat.reduceSub, Int.reduceToNat, ↓reduceIte, reduceCtorEq]; first | exact rfl | ((repeat (refine And.intro ?_ ?_; focus (first | omega | assumption | with_reducible rfl))); intros; apply hk; clear hk K))) | apply qw8 | apply qw1 | refine qwc lv106 ?_ | apply qt1 | apply qw5 | apply qw2 | apply qw9 | apply qt2 | apply qt3 | apply qt4 | apply qt5 | apply qt6 | apply qw3 | apply qw4 | apply qj1 | apply qj2 | apply qj3 | apply qj4 | apply qj5 | apply qu1 | apply qu2 | (refine qj6 ?_ ?_ <;> intro hc <;> (try simp only [hc]) <;> (try simp only [decide_eq_true_eq, decide_eq_false_iff_not, Bool.not_eq_true', Bool.not_eq_false', Bool.not_eq_true, reduceCtorEq] at hc) <;> (try (exfalso; omega))) | (refine qt7 ?_ ?_; focus decide) | (refine qw7 ?_ ?_ ?_; (focus (decide +kernel)); (focus (decide +kernel))))
    · obtain ⟨⟨kd, t, nm, ps, os⟩, hx⟩ := get_some (xs := zs) (k := k) (by omega)
      have htk := take_snoc' hx
      have ws := wtL_split hx
      rw [wtP_mk] at ws
      have hget := encPs_get zs
      have ht1 : t.length ≤ 1000 := hz2 _ _ _ _ _ (List.mem_of_getElem? hx)
      have wd := len_le_wtL (zs.drop (k + 1))
      have e2 : wtL (zs.take (k + 1)) = wtL (zs.take k) + (1 + (t.length + nm.length + wtL ps + wtL os)) := by rw [htk, wtL_append, wtL_one, wtP_mk]
      have hya := encPs_all ys
      have hyl := len_le_wtL ys
      have hpl := encP_length (.mk kd t nm ps os)
      rw [encP_mk] at hpl
      repeat' (first | ((first | apply qwd | apply qa1 | apply qa2 | apply qa3 | apply qh1 | apply qh2 | apply qg1 rfl | apply qcd); (try intro K hk); focus (simp only [lv106, mkT, go_sem, Nat.reduceEqDiff, Nat.reduceAdd, Nat.reduceLeDiff, Nat.reduceLT, Nat.reduceSub, Int.reduceToNat, ↓reduceIte, reduceCtorEq, hget, hx, encP_mk, exl, encPs_iff]; first | exact rfl | ((repeat (refine And.intro ?_ ?_; focus (first | omega | assumption | with_reducible rfl))); intros; apply hk; clear hk K))) | apply qw8 | apply qw1 | refine qwc lv106 ?_ | apply qt1 | apply qw5 | apply qw2 | apply qw9 | apply qt2 | apply qt3 | apply qt4 | apply qt5 | apply qt6 | apply qw3 | apply qw4 | apply qj1 | apply qj2 | apply qj3 | apply qj4 | apply qj5 | apply qu1 | apply qu2 | (refine qj6 ?_ ?_ <;> intro hc <;> (try simp only [hc]) <;> (try simp only [decide_eq_true_eq, decide_eq_false_iff_not, Bool.not_eq_true', Bool.not_eq_false', Bool.not_eq_true, reduceCtorEq] at hc) <;> (try (exfalso; omega))) | (refine qt7 ?_ ?_; focus decide) | (refine qw7 ?_ ?_ ?_; (focus (decide +kernel)); (focus (decide +kernel))))
      · rename_i y9 hy9 hy9'
        refine s_againR ((true, k + 1, y9)) (fun i => if i = 1 then 2 else i) ?_ ?_ ?_ ?_ ?_ ?_ <;> (first | omega | (dsimp only; omega) | (intro i hi; (try dsimp only); (repeat' split) <;> omega) | (intro i j hi hj h; (try dsimp only at h); (repeat' split at h) <;> omega) | skip)
        · simp [fitsTR, fitsMR, PV.ren, renL, MB.ren, upd_def, PV.nmb, nmbL, MB.nmb, List.getD_cons_zero, List.getD_cons_succ, frz, drp]
        · simp [fitsTR, fitsMR, PV.ren, renL, MB.ren, upd_def, PV.nmb, nmbL, MB.nmb, List.getD_cons_zero, List.getD_cons_succ, frz, drp]
      · refine s_againR ((true, k + 1, ys ++ [.mk kd t nm ps os])) (fun i => if i = 1 then 3 else i) ?_ ?_ ?_ ?_ ?_ ?_ <;> (first | omega | (dsimp only; omega) | (intro i hi; (try dsimp only); (repeat' split) <;> omega) | (intro i j hi hj h; (try dsimp only at h); (repeat' split at h) <;> omega) | skip)
        · exact ⟨by dsimp only; omega, by dsimp only; rw [wtL_append, wtL_one, wtP_mk]; omega⟩
        · simp [fitsTR, fitsMR, PV.ren, renL, MB.ren, upd_def, PV.nmb, nmbL, MB.nmb, List.getD_cons_zero, List.getD_cons_succ, frz, drp]
        · simp [fitsTR, fitsMR, PV.ren, renL, MB.ren, upd_def, PV.nmb, nmbL, MB.nmb, List.getD_cons_zero, List.getD_cons_succ, frz, drp, enc_snoc]
    · obtain rfl : k = zs.length := by omega
      ((first | refine fin_V ?_ | refine fin_Ve ?_ | refine fin_O ?_ | refine fin_Oe ?_ | refine fin_X ?_ | refine fin_Xe ?_ | refine fin_B ?_ | refine fin_Be ?_); simp only [go_sem, PV.own.injEq, MB.row.injEq, MB.nmb, not_false_eq_true, ne_eq, ↓upd_def, Nat.reduceEqDiff, Nat.reduceAdd, ↓reduceIte, reduceCtorEq])
      rw [List.take_length] at hy
      exact hK _ ⟨_, rfl, hy⟩
@[go_sem] def putC : AC := fun args mem n K => match args with
  | [.own i, .seq zs'] => (match mem i with
    | some (.row e s es) => e = 93 ∧ s = 5 ∧ (∃ zs, zs' = encPs zs ∧ ∃ xs, es = encPs xs ∧ wtL xs ≤ 100000 ∧ wtL zs ≤ 1000 ∧ ∀ ys, wtL ys ≤ wtL xs + 2 * wtL zs → ys.length ≤ wtL xs + 2 * wtL zs → K (.own n) (upd (upd mem i none) n (some (.row 93 5 (encPs ys)))) (n + 1))
    | _ => False)
  | _ => False
theorem wtP_mem {xs : List PartD} {x : PartD} (h : x ∈ xs) : wtP x ≤ wtL xs := by
  obtain ⟨k, hk⟩ := List.getElem?_of_mem h
  have := wtL_split hk
  omega
theorem put_ok : ACok Tryz.prog 106 putC := put_ok0.mono fun args mem n K h => by
  unfold putC at h
  split at h
  · rename_i i zs'
    split at h
    · rename_i e s es hm
      obtain ⟨rfl, rfl, zs, rfl, xs, rfl, h1, h2, hK⟩ := h
      refine ⟨(xs, zs), i, rfl, ⟨h1, by dsimp only; omega, fun k t nm ps os hmem => ?_⟩, hm, ?_⟩
      · have := wtP_mem hmem
        rw [wtP_mk] at this
        dsimp only at this
        omega
      · rintro es ⟨ys, rfl, h3⟩
        exact hK ys h3 (Nat.le_trans (len_le_wtL ys) h3)
    · exact h.elim
  · exact h.elim
@[go_sem] def prtC0 (d : Int) (w : Nat) (q : Int) : AC := locO 93 5 (α := Bs × Int) (fun _ => [.int .i64 d]) (fun x => rdB x.1 x.2) (fun x => x.1.length ≤ 2000 ∧ 0 ≤ x.2 ∧ x.2 + q ≤ 1000000) (fun x es b' => ∃ xs p', es = encPs xs ∧ b' = rdB x.1 p' ∧ wtL xs ≤ w ∧ x.2 ≤ p' ∧ p' ≤ x.2 + q)
@[go_sem] def prtC (d : Int) (w : Nat) (q : Int) : AC := fun args mem n K => match args with
  | [.ref i o, .int .i64 d'] => d' = d ∧ (match mem i with
    | some (.box [.seq es, .int .i64 p]) => o = 0 ∧ (∃ l : Bs, es = l.map bc ∧ l.length ≤ 2000) ∧ 0 ≤ p ∧ p + q ≤ 1000000 ∧ ∀ (xs : List PartD) (p' : Int), wtL xs ≤ w → xs.length ≤ w → p ≤ p' → p' ≤ p + q → K (.own n) (upd (upd mem i (some (.box [.seq es, .int .i64 p']))) n (some (.row 93 5 (encPs xs)))) (n + 1)
    | _ => False)
  | _ => False
theorem prt_of {f : FuncId} {d : Int} {w : Nat} {q : Int} (hp : ACok Tryz.prog f (prtC0 d w q)) : ACok Tryz.prog f (prtC d w q) := hp.mono fun args mem n K h => by
  clear hp
  unfold prtC at h
  split at h
  · rename_i i o d'
    obtain ⟨rfl, h⟩ := h
    split at h
    · rename_i es p hm
      obtain ⟨rfl, ⟨l, rfl, hl⟩, h0, h1, hK⟩ := h
      refine ⟨(l, p), i, rfl, ⟨hl, h0, h1⟩, hm, ?_⟩
      rintro es b' ⟨xs, p', rfl, rfl, h1, h2, h3⟩
      exact hK xs p' h1 (Nat.le_trans (len_le_wtL xs) h1) h2 h3
    · exact h.elim
  · exact h.elim
set_option maxHeartbeats 16000000 in
theorem prt0 : ACok Tryz.prog 67 (prtC0 0 120 13) := by
  refine locO_ok 2 (tabA_cons pick_ok (tabA_cons nmD_ok (tabA_cons add_ok (tabA_nil (Γof_ok tab_nil))))) tab_nil mixed [.tmp 4] Tryz.func67 rfl rfl (by kernel_rfl) (by kernel_rfl) (fun _ => rfl) (by kernel_rfl) (fun x => by simp [nmbL, PV.nmb]) (fun x => by simp [go_sem, MB.nmb, nmbL, PV.nmb]) ?_
  rintro ⟨l, p⟩ K ⟨hl, h0, h1⟩ hK
  dsimp only at *
  unfold entry
  simp only [mkM, rdB] at *
  repeat' (first | ((first | apply qwd | apply qa1 | apply qa2 | apply qa3 | apply qh1 | apply qh2 | apply qm1 | apply qm2 | apply qm3 | apply qg1 rfl | apply qcd); (try intro K hk); focus (simp only [lv67, mkT, go_sem, Nat.reduceEqDiff, Nat.reduceAdd, Nat.reduceLeDiff, Nat.reduceLT, Nat.reduceSub, Int.reduceToNat, ↓reduceIte, reduceCtorEq, exl, enc_nil]; first | exact rfl | ((repeat (refine And.intro ?_ ?_; focus (first | omega | assumption | with_reducible rfl))); intros; apply hk; clear hk K))) | apply qw8 | apply qw1 | refine qwc lv67 ?_ | apply qt1 | apply qw5 | apply qw2 | apply qw9 | apply qt2 | apply qt3 | apply qt4 | apply qt5 | apply qt6 | apply qw3 | apply qw4 | apply qj1 | apply qj2 | apply qj3 | apply qj4 | apply qj5 | apply qu1 | apply qu2 | apply qne | apply qyn | apply qyz | apply qy0 | refine qnt rfl rfl ?_ | refine qnf rfl rfl ?_ | refine qyc rfl ?_ | refine qy1 rfl ?_ | refine qy2 rfl ?_ ?_ | (refine qj6 ?_ ?_ <;> intro hc <;> (try simp only [hc]) <;> (try simp only [decide_eq_true_eq, decide_eq_false_iff_not, Bool.not_eq_true', Bool.not_eq_false', Bool.not_eq_true, reduceCtorEq] at hc) <;> (try (exfalso; omega))) | (refine qk1 ?_ ?_; focus (repeat (first | exact qsub0 | (refine qsub1 ?_ ?_; focus (simp only [go_sem, Nat.reduceEqDiff, Nat.reduceAdd, Nat.reduceLeDiff, Nat.reduceLT, Nat.reduceSub, Int.reduceToNat, ↓reduceIte, reduceCtorEq, exl, enc_nil]))))) | (refine qt7 ?_ ?_; focus decide) | (refine qw7 ?_ ?_ ?_; (focus (decide +kernel)); (focus (decide +kernel))))
  rename_i k0 k1 k2
  refine s_loop (ι := Int × List PartD × Int) (fun i => [(0, .ref 0 0), (1, .int .i64 0), (5, .own 1), (6, .int .i64 i.1)]) (fun i => [(0, .box [.seq (l.map bc), .int .i64 i.2.2]), (1, .row 93 5 (encPs i.2.1))]) 2 (fun i => 0 ≤ i.1 ∧ i.1 ≤ 3 ∧ (wtL i.2.1 : Int) ≤ (3 - i.1) * 40 ∧ p ≤ i.2.2 ∧ i.2.2 ≤ p + 1 + (3 - i.1) * 4) (fun i => i.1.toNat) (1 + k0, [], p + 1) (by omega) ⟨by dsimp only; omega, by dsimp only; omega, by simp [wtL_nil]; omega, by dsimp only; omega, by dsimp only; omega⟩ ?_ ?_
  · simp [fits, fitsT, fitsM, upd_def, PV.nmb, nmbL, MB.nmb, List.getD_cons_zero, List.getD_cons_succ, encPs_nil]
  rintro ⟨m, xs, p2⟩ ⟨g0, g1, g2, g3, g4⟩
  dsimp only at *
  have hxa := encPs_all xs
  have hxl := len_le_wtL xs
  simp only [mkS, mkT, mkM]
  repeat' (first | ((first | apply qwd | apply qa1 | apply qa2 | apply qa3 | apply qh1 | apply qh2 | apply qm1 | apply qm2 | apply qm3 | apply qg1 rfl | apply qcd); (try intro K hk); focus (simp only [lv67, mkT, go_sem, Nat.reduceEqDiff, Nat.reduceAdd, Nat.reduceLeDiff, Nat.reduceLT, Nat.reduceSub, Int.reduceToNat, ↓reduceIte, reduceCtorEq, exl, enc_nil, enc_snoc0, enc_snoc1, enc_snoc, encPs_iff, wtL_append, wtL_one, wtP_mk, wtL_nil]; first | exact rfl | ((repeat (refine And.intro ?_ ?_; focus (first | omega | assumption | with_reducible rfl))); intros; apply hk; clear hk K))) | apply qw8 | apply qw1 | refine qwc lv67 ?_ | apply qt1 | apply qw5 | apply qw2 | apply qw9 | apply qt2 | apply qt3 | apply qt4 | apply qt5 | apply qt6 | apply qw3 | apply qw4 | apply qj1 | apply qj2 | apply qj3 | apply qj4 | apply qj5 | apply qu1 | apply qu2 | apply qne | apply qyn | apply qyz | apply qy0 | refine qnt rfl rfl ?_ | refine qnf rfl rfl ?_ | refine qyc rfl ?_ | refine qy1 rfl ?_ | refine qy2 rfl ?_ ?_ | (refine qj6 ?_ ?_ <;> intro hc <;> (try simp only [hc]) <;> (try simp only [decide_eq_true_eq, decide_eq_false_iff_not, Bool.not_eq_true', Bool.not_eq_false', Bool.not_eq_true, reduceCtorEq] at hc) <;> (try (exfalso; omega))) | (refine qk1 ?_ ?_; focus (repeat (first | exact qsub0 | (refine qsub1 ?_ ?_; focus (simp only [go_sem, Nat.reduceEqDiff, Nat.reduceAdd, Nat.reduceLeDiff, Nat.reduceLT, Nat.reduceSub, Int.reduceToNat, ↓reduceIte, reduceCtorEq, exl, enc_nil, enc_snoc0, enc_snoc1, enc_snoc, encPs_iff, wtL_append, wtL_one, wtP_mk, wtL_nil]))))) | (refine qt7 ?_ ?_; focus decide) | (refine qw7 ?_ ?_ ?_; (focus (decide +kernel)); (focus (decide +kernel))))
  all_goals (try (refine qw10 [2] [0, 2, 3, 5] [0, 2, 3, 1, 4, 5] ?_ ?_; focus (decide +kernel)))
  all_goals repeat' (first | ((first | apply qwd | apply qa1 | apply qa2 | apply qa3 | apply qh1 | apply qh2 | apply qm1 | apply qm2 | apply qm3 | apply qg1 rfl | apply qcd); (try intro K hk); focus (simp only [lv67, mkT, go_sem, Nat.reduceEqDiff, Nat.reduceAdd, Nat.reduceLeDiff, Nat.reduceLT, Nat.reduceSub, Int.reduceToNat, ↓reduceIte, reduceCtorEq, exl, enc_nil, enc_snoc0, enc_snoc1, enc_snoc, encPs_iff, wtL_append, wtL_one, wtP_mk, wtL_nil]; first | exact rfl | ((repeat (refine And.intro ?_ ?_; focus (first | omega | assumption | with_reducible rfl))); intros; apply hk; clear hk K))) | apply qw8 | apply qw1 | refine qwc lv67 ?_ | apply qt1 | apply qw5 | apply qw2 | apply qw9 | apply qt2 | apply qt3 | apply qt4 | apply qt5 | apply qt6 | apply qw3 | apply qw4 | apply qj1 | apply qj2 | apply qj3 | apply qj4 | apply qj5 | apply qu1 | apply qu2 | apply qne | apply qyn | apply qyz | apply qy0 | refine qnt rfl rfl ?_ | refine qnf rfl rfl ?_ | refine qyc rfl ?_ | refine qy1 rfl ?_ | refine qy2 rfl ?_ ?_ | (refine qj6 ?_ ?_ <;> intro hc <;> (try simp only [hc]) <;> (try simp only [decide_eq_true_eq, decide_eq_false_iff_not, Bool.not_eq_true', Bool.not_eq_false', Bool.not_eq_true, reduceCtorEq] at hc) <;> (try (exfalso; omega))) | (refine qk1 ?_ ?_; focus (repeat (first | exact qsub0 | (refine qsub1 ?_ ?_; focus (simp only [go_sem, Nat.reduceEqDiff, Nat.reduceAdd, Nat.reduceLeDiff, Nat.reduceLT, Nat.reduceSub, Int.reduceToNat, ↓reduceIte, reduceCtorEq, exl, enc_nil, enc_snoc0, enc_snoc1, enc_snoc, encPs_iff, wtL_append, wtL_one, wtP_mk, wtL_nil]))))) | (refine qt7 ?_ ?_; focus decide) | (refine qw7 ?_ ?_ ?_; (focus (decide +kernel)); (focus (decide +kernel))))
  rotate_right
  · ((first | refine fin_V ?_ | refine fin_Ve ?_ | refine fin_O ?_ | refine fin_Oe ?_ | refine fin_X ?_ | refine fin_Xe ?_ | refine fin_B ?_ | refine fin_Be ?_); simp only [go_sem, PV.own.injEq, MB.row.injEq, MB.nmb, not_false_eq_true, ne_eq, ↓upd_def, Nat.reduceEqDiff, Nat.reduceAdd, ↓reduceIte, reduceCtorEq])
    exact hK _ _ ⟨_, _, rfl, rfl, by omega, by omega, by omega⟩
  all_goals (rename p2 ≤ _ => hp9; obtain ⟨q9, hq9, _⟩ := le_ex hp9; subst hq9; rename Bs => s9; rename List PartD => y9)
  · refine s_againR ((m - 1, y9, q9 + 1)) (fun i => if i = 1 then 3 else i) ?_ ?_ ?_ ?_ ?_ ?_ <;> (first | omega | (dsimp only; omega) | (intro i hi; (try dsimp only); (repeat' split) <;> omega) | (intro i j hi hj h; (try dsimp only at h); (repeat' split at h) <;> omega) | skip)
    all_goals (simp [fitsTR, fitsMR, PV.ren, renL, MB.ren, upd_def, PV.nmb, nmbL, MB.nmb, List.getD_cons_zero, List.getD_cons_succ, frz, drp]; done)
  · refine s_againR ((m - 1, y9, q9 + 1)) (fun i => if i = 1 then 5 else i) ?_ ?_ ?_ ?_ ?_ ?_ <;> (first | omega | (dsimp only; omega) | (intro i hi; (try dsimp only); (repeat' split) <;> omega) | (intro i j hi hj h; (try dsimp only at h); (repeat' split at h) <;> omega) | skip)
    all_goals (simp [fitsTR, fitsMR, PV.ren, renL, MB.ren, upd_def, PV.nmb, nmbL, MB.nmb, List.getD_cons_zero, List.getD_cons_succ, frz, drp]; done)
  · refine s_againR ((m - 1, y9, q9 + 1)) (fun i => if i = 1 then 5 else i) ?_ ?_ ?_ ?_ ?_ ?_ <;> (first | omega | (dsimp only; omega) | (intro i hi; (try dsimp only); (repeat' split) <;> omega) | (intro i j hi hj h; (try dsimp only at h); (repeat' split at h) <;> omega) | skip)
    all_goals (simp [fitsTR, fitsMR, PV.ren, renL, MB.ren, upd_def, PV.nmb, nmbL, MB.nmb, List.getD_cons_zero, List.getD_cons_succ, frz, drp]; done)
  · refine s_againR ((m - 1, y9, q9 + 1)) (fun i => if i = 1 then 5 else i) ?_ ?_ ?_ ?_ ?_ ?_ <;> (first | omega | (dsimp only; omega) | (intro i hi; (try dsimp only); (repeat' split) <;> omega) | (intro i j hi hj h; (try dsimp only at h); (repeat' split at h) <;> omega) | skip)
    all_goals (simp [fitsTR, fitsMR, PV.ren, renL, MB.ren, upd_def, PV.nmb, nmbL, MB.nmb, List.getD_cons_zero, List.getD_cons_succ, frz, drp]; done)
  · refine s_againR ((m - 1, y9, q9 + 1)) (fun i => if i = 1 then 5 else i) ?_ ?_ ?_ ?_ ?_ ?_ <;> (first | omega | (dsimp only; omega) | (intro i hi; (try dsimp only); (repeat' split) <;> omega) | (intro i j hi hj h; (try dsimp only at h); (repeat' split at h) <;> omega) | skip)
    all_goals (simp [fitsTR, fitsMR, PV.ren, renL, MB.ren, upd_def, PV.nmb, nmbL, MB.nmb, List.getD_cons_zero, List.getD_cons_succ, frz, drp]; done)
  · refine s_againR ((m - 1, y9, q9 + 1)) (fun i => if i = 1 then 5 else i) ?_ ?_ ?_ ?_ ?_ ?_ <;> (first | omega | (dsimp only; omega) | (intro i hi; (try dsimp only); (repeat' split) <;> omega) | (intro i j hi hj h; (try dsimp only at h); (repeat' split at h) <;> omega) | skip)
    all_goals (simp [fitsTR, fitsMR, PV.ren, renL, MB.ren, upd_def, PV.nmb, nmbL, MB.nmb, List.getD_cons_zero, List.getD_cons_succ, frz, drp]; done)
  · refine s_againR ((m - 1, y9 ++ [.mk 2 [] s9 [] []], q9 + 1)) (fun i => if i = 1 then 4 else i) ?_ ?_ ?_ ?_ ?_ ?_ <;> (first | omega | (dsimp only; omega) | (intro i hi; (try dsimp only); (repeat' split) <;> omega) | (intro i j hi hj h; (try dsimp only at h); (repeat' split at h) <;> omega) | skip)
    · simp only [wtL_append, wtL_one, wtP_mk, wtL_nil]; dsimp only [List.length_nil]; omega
    all_goals (simp [fitsTR, fitsMR, PV.ren, renL, MB.ren, upd_def, PV.nmb, nmbL, MB.nmb, List.getD_cons_zero, List.getD_cons_succ, frz, drp, enc_snoc0]; done)
  · refine s_again ((m - 1, y9, q9 + 1)) ?_ ?_ ?_ <;> (first | omega | (dsimp only; omega) | skip)
    all_goals (simp [fits, fitsT, fitsM, upd_def, PV.nmb, nmbL, MB.nmb, List.getD_cons_zero, List.getD_cons_succ]; done)
  · refine s_again ((m - 1, y9, q9 + 1)) ?_ ?_ ?_ <;> (first | omega | (dsimp only; omega) | skip)
    all_goals (simp [fits, fitsT, fitsM, upd_def, PV.nmb, nmbL, MB.nmb, List.getD_cons_zero, List.getD_cons_succ]; done)
theorem prt0' : ACok Tryz.prog 67 (prtC 0 120 13) := prt_of prt0
end Go.Proofs.YtoocbpendccngaaGreat
