/- The law's walk over drawn parts and data: HolesOf. -/
import Derived.Test.YtoocbpendccngaaGreatVY23
import Derived.Test.YtoocbpendccngaaGreatVX35

namespace Go.Proofs.YtoocbpendccngaaGreat
attribute [local irreducible] awp arun acalm FinP Fin AX.then AX.inBlock Again aG gsel amix amixN amixC aop aopc aopd cutK
attribute [local go_sem] aBSliceD aSlice aSliceC boundOf aMk aCall aCallC aLenL aLen aPick_t aPick_f aNil aAlloc aBox aBuild bldPV aBSlice bsPV aApp newsOf destOf drp aConvX aConv aConvInt aLoad cellsAt aStore cellsPV setAt aFld aField aIdx aIndex aUn aBin' aBin aMax aExtract pvOf PV.isCell nmbL PV.nmb List.map_cons List.map_nil List.all_cons List.all_nil Bool.and_true Bool.true_and if_true if_false List.getD_cons_zero List.getD_cons_succ List.getD_nil Option.isSome_some true_and and_true and_self eq_self true_or or_true List.drop_zero List.drop_succ_cons List.drop_nil List.take_zero List.take_succ_cons List.take_nil List.length_cons List.length_nil List.length_map Option.getD_some Option.getD_none List.nil_append List.cons_append List.append_nil Option.some.injEq exists_eq_left' List.getElem?_cons_zero List.getElem?_cons_succ Int.toNat_natCast Int.natCast_inj toNat_succ Nat.zero_add res res1 resC owns owns1 ownsC List.flatMap_cons List.flatMap_nil List.flatten_cons List.flatten_nil List.mem_cons List.not_mem_nil or_false false_or forall_eq forall_eq_or_imp isFro frz frz1 pureC tabA isBld List.cons.injEq PV.seq.injEq PV.int.injEq PV.str.injEq PV.bool.injEq PV.agg.injEq inR tab Γof aRes packR Option.map_some Option.map_none rel Prod.exists exists_and_left exists_eq_left and_assoc beq_self_eq_true Bool.not_true Bool.not_false decide_true decide_false List.set_cons_zero List.set_cons_succ rst_nil rst_cons
attribute [local go_sem ↓] evT upd_def aop aopc aopd
set_option maxRecDepth 100000
set_option linter.unusedVariables false
set_option linter.unusedSimpArgs false
open Go.RowKit
def lvY24_4 : Nat → List Nat
  | 0 => [0]
  | 1 => [0, 14]
  | 2 => [2]
  | 3 => [3, 4]
  | 4 => [3, 4, 5]
  | 5 => [3, 4, 5, 6]
  | 6 => [3, 4, 5, 6, 30]
  | 7 => [2]
  | 8 => [5, 6, 7]
  | 9 => [5, 6, 7, 9]
  | 10 => [5, 6, 7, 9, 10]
  | 11 => [5, 6, 7, 9, 10, 40]
  | 12 => [5, 6, 7, 9, 10]
  | 13 => [5, 6, 7, 9, 10, 51]
  | 14 => [2]
  | 15 => [5, 6, 7, 9, 10, 11]
  | 16 => [5, 6, 7, 9, 10, 11, 80]
  | 17 => [5, 6, 7, 9, 10, 11]
  | 18 => [5, 6, 7, 9, 10, 11, 89]
  | 19 => [2]
  | 20 => [5, 6, 7, 9, 10]
  | 21 => [2]
  | _ => []
--LV=Y24
theorem holesE_flat {α : Type} (f : α → List Ev) : ∀ l : List α, holesE (l.flatMap f) = l.flatMap fun x => holesE (f x)
  | [] => rfl
  | x :: l => by rw [List.flatMap_cons, List.flatMap_cons, holesE_append, holesE_flat f l]
mutual
theorem ev_t40P : ∀ (x : PartD) (data : List FieldD) (s : St), dBd data → ∀ h ∈ holesE (evP data s x).1, h.2.length ≤ 40
  | .mk k t n ps os, data, s, hd => by
    have h1 := ev_t40L ps
    have h2 := ev_t40L os
    rw [evP_mk]
    split
    · intro h hh; simp [holesE, hole1] at hh
    split
    · intro h hh
      have hh : h = (placeM s, (findF data n).text) := by simpa [holesE, hole1] using hh
      rw [hh]
      exact (find_bd hd n).1
    split
    · split
      · exact h1 data s hd
      · exact h2 data s hd
    split
    · intro h hh
      rw [holesE_flat] at hh
      obtain ⟨it, hi, hh⟩ := List.mem_flatMap.1 hh
      exact h1 _ s (with_bd hd ((find_bd hd n).2.2 it hi)) h hh
    · intro h hh; simp [holesE] at hh
theorem ev_t40L : ∀ (xs : List PartD) (data : List FieldD) (s : St), dBd data → ∀ h ∈ holesE (evL data s xs).1, h.2.length ≤ 40
  | [], data, s, _ => by intro h hh; rw [evL_nil] at hh; simp [holesE] at hh
  | x :: xs, data, s, hd => by
    intro h hh
    rw [evL_cons, holesE_append] at hh
    rcases List.mem_append.1 hh with hh | hh
    · exact ev_t40P x data s hd h hh
    · exact ev_t40L xs data _ hd h hh
end
theorem drop_cons24 {α : Type} {l : List α} {k : Nat} {x : α} (h : l[k]? = some x) : l.drop k = x :: l.drop (k + 1) := by
  obtain ⟨hk, rfl⟩ := List.getElem?_eq_some_iff.1 h
  exact List.drop_eq_getElem_cons hk
theorem holes_emb {xs : List PartD} {data : List FieldD} : emb ((holesM xs data).map fun x => escFor x.1 x.2) ((fillM xs data).getD []) := by
  unfold holesM fillM
  split
  · exact emb_holes _
  · trivial
theorem holes_bd {xs : List PartD} {data : List FieldD} {p : Int} {t : Bs} (hd : dataB data = true → dBd data) (h : (p, t) ∈ holesM xs data) : t.length ≤ 40 := by
  unfold holesM at h
  split at h
  · rename_i hs
    exact ev_t40L xs data st0 (hd hs.2) _ h
  · simp at h
theorem holesM_len {xs : List PartD} {data : List FieldD} (hw : wtL xs ≤ 6000) : (holesM xs data).length ≤ 1000000000 := by
  unfold holesM
  split
  · rename_i hs
    have h1 := evL_wt xs 3 data st0 false (safe_parts hs.1).2.1 (dataB_bd hs.2)
    have h2 := hs_len (evL data st0 xs).1
    omega
  · simp
theorem fill_len24 {xs : List PartD} {data : List FieldD} (hw : wtL xs ≤ 6000) : ((fillM xs data).getD []).length ≤ 1000000000 := by
  cases hf : fillM xs data with
  | none => simp
  | some o => exact fillM_len hw hf
theorem drwHO : ACok Tryz.prog 14 (drwG (α := List PartD × List FieldD) (fun x => gdX x.1 ∧ bdFs x.2) (fun x => .tup [.seq (encPs x.1), .seq (encFs x.2)])) := drw_of (by
  refine ac_body 1 (tabA_cons drwFP (tabA_nil (Γof_ok tab_nil))) tab_nil mixed [.tmp 2, .tmp 3] Tryz.func14 rfl rfl (by kernel_rfl) (by kernel_rfl) ?_ (by kernel_rfl) ?_
  · intro args mem n K h
    obtain ⟨es, rfl, h⟩ := drw_args h
    rfl
  intro args mem n K h
  obtain ⟨es, rfl, ⟨l, rfl, hl⟩, hK⟩ := drw_args h
  have hba := bc_all l
  unfold entry
  repeat' (first | ((first | apply qa1 | apply qa2 | apply qa3 | apply qh1 | apply qh2 | apply qg1 rfl | apply qcd); (try intro K hk); focus (simp only [go_sem, Nat.reduceEqDiff, Nat.reduceAdd, Nat.reduceLeDiff, Nat.reduceLT, Nat.reduceSub, Int.reduceToNat, ↓reduceIte, reduceCtorEq, exl, encPs_iff, encFs_iff]; first | exact rfl | ((repeat (refine And.intro ?_ ?_; focus (first | omega | assumption | with_reducible rfl))); intros; apply hk; clear hk K))) | apply qw8 | apply qw1 | apply qw6 | apply qt1 | apply qw5 | apply qw2 | apply qw9 | apply qt2 | apply qt3 | apply qt4 | apply qt5 | apply qt6 | apply qw3 | apply qw4 | apply qj1 | apply qj2 | apply qj3 | apply qj4 | apply qj5 | apply qu1 | apply qu2 | (refine qj6 ?_ ?_ <;> intro hc <;> (try simp only [hc]) <;> (try simp only [decide_eq_true_eq, decide_eq_false_iff_not, Bool.not_eq_true', Bool.not_eq_false', Bool.not_eq_true, reduceCtorEq] at hc) <;> (try (exfalso; omega))) | (refine qt7 ?_ ?_; focus decide) | (refine qw7 ?_ ?_ ?_; (focus (decide +kernel)); (focus (decide +kernel))))
  rename (List PartD × List FieldD) => x
  refine fin_retA ?_
  simp only [go_sem, ↓upd_def, Nat.reduceEqDiff, ↓reduceIte]
  refine hK x _ _ _ (by assumption) ?_ (by omega)
  simp [res, res1, resC, upd_def])
set_option maxHeartbeats 8000000 in
theorem FnHolesOf_pure : PureOk Tryz.prog 4 (rel (α := Bs) (fun x => [.seq (x.map bc)]) (fun x => x.length ≤ 9223372036854775807) (fun _ => .bool true)) := by
  refine pure_relA 1 (tabA_cons drwHO (tabA_nil (Γof_ok (tab_cons hof_i (tab_cons hof_s (tab_cons fs_i (tab_cons ef_i (tab_cons alive9 tab_nil)))))))) (tab_cons hof_i (tab_cons hof_s (tab_cons fs_i (tab_cons ef_i (tab_cons alive9 tab_nil))))) mixed [.tmp 2] Tryz.func4 rfl rfl (by kernel_rfl) (by kernel_rfl) (fun _ => rfl) (by kernel_rfl) ?_
  rintro l0 K hl hK
  have hba := bc_all l0
  unfold entry
  repeat' (first | ((first | apply qwd | apply qa1 | apply qa2 | apply qa3 | apply qh1 | apply qh2 | apply qg1 rfl | apply qcd); (try intro K hk); focus (simp only [lvY24_4, mkT, go_sem, Nat.reduceEqDiff, Nat.reduceAdd, Nat.reduceLeDiff, Nat.reduceLT, Nat.reduceSub, Int.reduceToNat, ↓reduceIte, reduceCtorEq, exl, ex_unit9, true_and, encPs_iff, encFs_iff, gdX, decide_true, Bool.not_true]; first | exact rfl | ((repeat (refine And.intro ?_ ?_; focus (first | omega | assumption | with_reducible rfl))); intros; apply hk; clear hk K))) | apply qw8 | apply qw1 | refine qwc lvY24_4 ?_ | apply qt1 | apply qw5 | apply qw2 | apply qw9 | apply qt2 | apply qt3 | apply qt4 | apply qt5 | apply qt6 | apply qw3 | apply qw4 | apply qj1 | apply qj2 | apply qj3 | apply qj4 | apply qj5 | apply qu1 | apply qu2 | (refine qj6 ?_ ?_ <;> intro hc <;> (try simp only [hc]) <;> (try simp only [decide_eq_true_eq, decide_eq_false_iff_not, Bool.not_eq_true', Bool.not_eq_false', Bool.not_eq_true, reduceCtorEq] at hc) <;> (try (exfalso; omega))) | (refine qt7 ?_ ?_; focus decide) | (refine qw7 ?_ ?_ ?_; (focus (decide +kernel)); (focus (decide +kernel))))
  · ((first | refine fin_ret ?_ | refine fin_end ?_); simp only [go_sem, ↓upd_def, Nat.reduceEqDiff, Nat.reduceAdd, ↓reduceIte, reduceCtorEq])
    exact hK
  rename (List PartD × List FieldD) => x9
  obtain ⟨xs, d⟩ := x9
  rename _ ∧ _ ∧ _ => hgx
  obtain ⟨b1, b2, b3⟩ := hgx
  dsimp only at b1 b2 b3
  have hok := bdFs_ok b3
  have hem := holes_emb (xs := xs) (data := d)
  have hbd := fun p t => @holes_bd xs d p t (fun h => dataB_bd h)
  have hle := holesM_len (data := d) b1
  have hfl := fill_len24 (data := d) b1
  have hel := fun l => encHs_len l
  repeat' (first | ((first | apply qwd | apply qa1 | apply qa2 | apply qa3 | apply qh1 | apply qh2 | apply qg1 rfl | apply qcd); (try intro K hk); focus (simp only [lvY24_4, mkT, go_sem, Nat.reduceEqDiff, Nat.reduceAdd, Nat.reduceLeDiff, Nat.reduceLT, Nat.reduceSub, Int.reduceToNat, ↓reduceIte, reduceCtorEq, exl, ex_unit9, true_and, encPs_iff, encFs_iff, gdX, decide_true, Bool.not_true, bne_self_eq_false, hel]; first | exact rfl | ((repeat (refine And.intro ?_ ?_; focus (first | omega | assumption | with_reducible rfl))); intros; apply hk; clear hk K))) | apply qw8 | apply qw1 | refine qwc lvY24_4 ?_ | apply qt1 | apply qw5 | apply qw2 | apply qw9 | apply qt2 | apply qt3 | apply qt4 | apply qt5 | apply qt6 | apply qw3 | apply qw4 | apply qj1 | apply qj2 | apply qj3 | apply qj4 | apply qj5 | apply qu1 | apply qu2 | (refine qj6 ?_ ?_ <;> intro hc <;> (try simp only [hc]) <;> (try simp only [decide_eq_true_eq, decide_eq_false_iff_not, Bool.not_eq_true', Bool.not_eq_false', Bool.not_eq_true, reduceCtorEq] at hc) <;> (try (exfalso; omega))) | (refine qt7 ?_ ?_; focus decide) | (refine qw7 ?_ ?_ ?_; (focus (decide +kernel)); (focus (decide +kernel))))
  generalize holesM xs d = x at *
  generalize (fillM xs d).getD [] = s at *
  have hgx := encHs_get x
  refine s_loop (ι := Nat × Nat) (fun i => [(5, .seq (encHs x)), (6, .seq (encHs x)), (7, .str s), (9, .int .i64 i.2), (10, .int .i64 i.1)]) (fun _ => []) 0 (fun i => i.1 ≤ x.length ∧ i.2 ≤ s.length ∧ emb ((x.drop i.1).map fun x => escFor x.1 x.2) (s.drop i.2)) (fun i => x.length - i.1) (0, 0) (by omega) ⟨Nat.zero_le _, Nat.zero_le _, by simpa using hem⟩ ?_ ?_
  · simp [fits, fitsT, fitsM, upd_def, PV.nmb, nmbL, MB.nmb, List.getD_cons_zero, List.getD_cons_succ]
  rintro ⟨k, at0⟩ ⟨hk, hat, hbe⟩
  dsimp only at hk hat hbe
  simp only [mkS, mkT, mkM]
  by_cases hkl : k < x.length
  · obtain ⟨⟨p, t⟩, hy⟩ := get_some (xs := x) (k := k) hkl
    have htl := hbd p t (List.mem_of_getElem? hy)
    rw [drop_cons24 hy, List.map_cons] at hbe
    dsimp only at hbe
    have hesl := escFor_len p t
    repeat' (first | (refine s_draw 8 ?_ ?_; focus (decide +kernel)) | (refine s_draw 11 ?_ ?_; focus (decide +kernel)) | (first | ((first | apply qwd | apply qa1 | apply qa2 | apply qa3 | apply qh1 | apply qh2 | apply qg1 rfl | apply qcd); (try intro K hk); focus (simp only [lvY24_4, mkT, go_sem, Nat.reduceEqDiff, Nat.reduceAdd, Nat.reduceLeDiff, Nat.reduceLT, Nat.reduceSub, Int.reduceToNat, ↓reduceIte, reduceCtorEq, hel, hgx, hy, Option.map_some, encH_mk, bne_self_eq_false, decide_true]; first | exact rfl | ((repeat (refine And.intro ?_ ?_; focus (first | omega | assumption | with_reducible rfl))); intros; apply hk; clear hk K))) | apply qw8 | apply qw1 | refine qwc lvY24_4 ?_ | apply qt1 | apply qw5 | apply qw2 | apply qw9 | apply qt2 | apply qt3 | apply qt4 | apply qt5 | apply qt6 | apply qw3 | apply qw4 | apply qj1 | apply qj2 | apply qj3 | apply qj4 | apply qj5 | apply qu1 | apply qu2 | (refine qj6 ?_ ?_ <;> intro hc <;> (try simp only [hc]) <;> (try simp only [decide_eq_true_eq, decide_eq_false_iff_not, Bool.not_eq_true', Bool.not_eq_false', Bool.not_eq_true, reduceCtorEq] at hc) <;> (try (exfalso; omega))) | (refine qt7 ?_ ?_; focus decide) | (refine qw7 ?_ ?_ ?_; (focus (decide +kernel)); (focus (decide +kernel)))))
    generalize hee : escFor p t = e at *
    refine s_loop (ι := Nat) (fun j => [(5, .seq (encHs x)), (6, .seq (encHs x)), (7, .str s), (9, .int .i64 j), (10, .int .i64 k), (11, .str e)]) (fun _ => []) 0 (fun j => j ≤ s.length ∧ emb (e :: (x.drop (k + 1)).map fun x => escFor x.1 x.2) (s.drop j)) (fun j => s.length - j) at0 (by omega) ⟨hat, hbe⟩ ?_ ?_
    · simp [fits, fitsT, fitsM, upd_def, PV.nmb, nmbL, MB.nmb, List.getD_cons_zero, List.getD_cons_succ]
    rintro j ⟨hj, hjb⟩
    simp only [mkS, mkT, mkM]
    have hjl := emb_len hjb
    rw [List.length_drop] at hjl
    have hjl2 : j + e.length ≤ s.length ∨ (j = s.length ∧ e = []) := by
      by_cases h0 : e.length = 0
      · exact .inl (by omega)
      · exact .inl (by omega)
    have n1 : ((j : Int) + (e.length : Int)).toNat = j + e.length := by omega
    have hsl : List.drop j (List.take (j + e.length) s) = (s.drop j).take e.length := by rw [List.drop_take]; congr 1; omega
    by_cases heq : (s.drop j).take e.length = e
    · have hnx := emb_hit hjb
      rw [List.drop_drop] at hnx
      repeat' (first | ((first | apply qwd | apply qa1 | apply qa2 | apply qa3 | apply qh1 | apply qh2 | apply qg1 rfl | apply qcd); (try intro K hk); focus (simp only [lvY24_4, mkT, go_sem, Nat.reduceEqDiff, Nat.reduceAdd, Nat.reduceLeDiff, Nat.reduceLT, Nat.reduceSub, Int.reduceToNat, ↓reduceIte, reduceCtorEq, hel, hgx, hy, n1, hsl, heq, Int.toNat_natCast, Option.map_some, encH_mk, bne_self_eq_false, decide_true, Bool.not_true]; first | exact rfl | ((repeat (refine And.intro ?_ ?_; focus (first | omega | assumption | with_reducible rfl))); intros; apply hk; clear hk K))) | apply qw8 | apply qw1 | refine qwc lvY24_4 ?_ | apply qt1 | apply qw5 | apply qw2 | apply qw9 | apply qt2 | apply qt3 | apply qt4 | apply qt5 | apply qt6 | apply qw3 | apply qw4 | apply qj1 | apply qj2 | apply qj3 | apply qj4 | apply qj5 | apply qu1 | apply qu2 | (refine qj6 ?_ ?_ <;> intro hc <;> (try simp only [hc]) <;> (try simp only [decide_eq_true_eq, decide_eq_false_iff_not, Bool.not_eq_true', Bool.not_eq_false', Bool.not_eq_true, reduceCtorEq] at hc) <;> (try (exfalso; omega))) | (refine qt7 ?_ ?_; focus decide) | (refine qw7 ?_ ?_ ?_; (focus (decide +kernel)); (focus (decide +kernel))))
      refine s_again ((k + 1, j + e.length)) ?_ ?_ ?_ <;> (first | omega | (dsimp only; omega) | skip)
      · exact ⟨by dsimp only; omega, by dsimp only; omega, hnx⟩
      · simp [fits, fitsT, fitsM, upd_def, PV.nmb, nmbL, MB.nmb, List.getD_cons_zero, List.getD_cons_succ]
    · have hnx := emb_next hjb heq
      rw [List.drop_drop] at hnx
      have hlt : j < s.length := by
        rcases Nat.lt_or_ge j s.length with h | h
        · exact h
        · exfalso
          have h0 : e.length = 0 := by omega
          have : e = [] := List.length_eq_zero_iff.1 h0
          rw [this] at heq
          exact heq (by simp)
      repeat' (first | ((first | apply qwd | apply qa1 | apply qa2 | apply qa3 | apply qh1 | apply qh2 | apply qg1 rfl | apply qcd); (try intro K hk); focus (simp only [lvY24_4, mkT, go_sem, Nat.reduceEqDiff, Nat.reduceAdd, Nat.reduceLeDiff, Nat.reduceLT, Nat.reduceSub, Int.reduceToNat, ↓reduceIte, reduceCtorEq, hel, hgx, hy, n1, hsl, heq, Int.toNat_natCast, Option.map_some, encH_mk, decide_true, decide_false, Bool.not_true, Bool.not_false]; first | exact rfl | ((repeat (refine And.intro ?_ ?_; focus (first | omega | assumption | with_reducible rfl))); intros; apply hk; clear hk K))) | apply qw8 | apply qw1 | refine qwc lvY24_4 ?_ | apply qt1 | apply qw5 | apply qw2 | apply qw9 | apply qt2 | apply qt3 | apply qt4 | apply qt5 | apply qt6 | apply qw3 | apply qw4 | apply qj1 | apply qj2 | apply qj3 | apply qj4 | apply qj5 | apply qu1 | apply qu2 | (refine qj6 ?_ ?_ <;> intro hc <;> (try simp only [hc]) <;> (try simp only [decide_eq_true_eq, decide_eq_false_iff_not, Bool.not_eq_true', Bool.not_eq_false', Bool.not_eq_true, reduceCtorEq] at hc) <;> (try (exfalso; omega))) | (refine qt7 ?_ ?_; focus decide) | (refine qw7 ?_ ?_ ?_; (focus (decide +kernel)); (focus (decide +kernel))))
      refine s_again (j + 1) ?_ ?_ ?_ <;> (first | omega | (dsimp only; omega) | skip)
      · exact ⟨by omega, hnx⟩
      · simp [fits, fitsT, fitsM, upd_def, PV.nmb, nmbL, MB.nmb, List.getD_cons_zero, List.getD_cons_succ]
  · obtain rfl : k = x.length := by omega
    repeat' (first | ((first | apply qwd | apply qa1 | apply qa2 | apply qa3 | apply qh1 | apply qh2 | apply qg1 rfl | apply qcd); (try intro K hk); focus (simp only [lvY24_4, mkT, go_sem, Nat.reduceEqDiff, Nat.reduceAdd, Nat.reduceLeDiff, Nat.reduceLT, Nat.reduceSub, Int.reduceToNat, ↓reduceIte, reduceCtorEq, ex_unit9, true_and, hel]; first | exact rfl | ((repeat (refine And.intro ?_ ?_; focus (first | omega | assumption | with_reducible rfl))); intros; apply hk; clear hk K))) | apply qw8 | apply qw1 | refine qwc lvY24_4 ?_ | apply qt1 | apply qw5 | apply qw2 | apply qw9 | apply qt2 | apply qt3 | apply qt4 | apply qt5 | apply qt6 | apply qw3 | apply qw4 | apply qj1 | apply qj2 | apply qj3 | apply qj4 | apply qj5 | apply qu1 | apply qu2 | (refine qj6 ?_ ?_ <;> intro hc <;> (try simp only [hc]) <;> (try simp only [decide_eq_true_eq, decide_eq_false_iff_not, Bool.not_eq_true', Bool.not_eq_false', Bool.not_eq_true, reduceCtorEq] at hc) <;> (try (exfalso; omega))) | (refine qt7 ?_ ?_; focus decide) | (refine qw7 ?_ ?_ ?_; (focus (decide +kernel)); (focus (decide +kernel))))
    ((first | refine fin_ret ?_ | refine fin_end ?_); simp only [go_sem, ↓upd_def, Nat.reduceEqDiff, Nat.reduceAdd, ↓reduceIte, reduceCtorEq])
    exact hK
end Go.Proofs.YtoocbpendccngaaGreat
