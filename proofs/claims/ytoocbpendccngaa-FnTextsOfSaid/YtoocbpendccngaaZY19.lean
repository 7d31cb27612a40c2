/- The law's walk over drawn holes: TextsOf. -/
import Derived.Test.YtoocbpendccngaaZX25
import Derived.Test.YtoocbpendccngaaZR11
import Derived.Test.YtoocbpendccngaaZY9

namespace Go.Proofs.Ytoocbpendccngaa
attribute [local irreducible] awp arun acalm FinP Fin AX.then AX.inBlock Again aG gsel amix amixN amixC aop aopc aopd cutK
attribute [local go_sem] aBSliceD aSlice aSliceC boundOf aMk aCall aCallC aLenL aLen aPick_t aPick_f aNil aAlloc aBox aBuild bldPV aBSlice bsPV aApp newsOf destOf drp aConvX aConv aConvInt aLoad cellsAt aStore cellsPV setAt aFld aField aIdx aIndex aUn aBin' aBin aMax aExtract pvOf PV.isCell nmbL PV.nmb List.map_cons List.map_nil List.all_cons List.all_nil Bool.and_true Bool.true_and if_true if_false List.getD_cons_zero List.getD_cons_succ List.getD_nil Option.isSome_some true_and and_true and_self eq_self true_or or_true List.drop_zero List.drop_succ_cons List.drop_nil List.take_zero List.take_succ_cons List.take_nil List.length_cons List.length_nil List.length_map Option.getD_some Option.getD_none List.nil_append List.cons_append List.append_nil Option.some.injEq exists_eq_left' List.getElem?_cons_zero List.getElem?_cons_succ Int.toNat_natCast Int.natCast_inj toNat_succ Nat.zero_add res res1 resC owns owns1 ownsC List.flatMap_cons List.flatMap_nil List.flatten_cons List.flatten_nil List.mem_cons List.not_mem_nil or_false false_or forall_eq forall_eq_or_imp isFro frz frz1 pureC tabA isBld List.cons.injEq PV.seq.injEq PV.int.injEq PV.str.injEq PV.bool.injEq PV.agg.injEq inR tab Γof aRes packR Option.map_some Option.map_none rel Prod.exists exists_and_left exists_eq_left and_assoc beq_self_eq_true Bool.not_true Bool.not_false decide_true decide_false List.set_cons_zero List.set_cons_succ rst_nil rst_cons
attribute [local go_sem ↓] evT upd_def aop aopc aopd
set_option maxRecDepth 100000
set_option linter.unusedVariables false
set_option linter.unusedSimpArgs false
open Go.RowKit
def lvY19_5 : Nat → List Nat
  | 0 => [0]
  | 1 => [0, 10]
  | 2 => [2]
  | 3 => [3, 4]
  | 4 => [3, 4, 5]
  | 5 => [3, 5, 24]
  | 6 => [2]
  | 7 => [3, 5, 6]
  | 8 => [3, 5, 6, 7]
  | 9 => [3, 5, 6, 7, 26]
  | 10 => [3, 5, 6, 7]
  | 11 => [3, 5, 6, 7]
  | 12 => [2]
  | _ => []
def lvY19_23 : Nat → List Nat
  | 0 => [0, 1]
  | 1 => [0, 1, 5]
  | 2 => [1, 5, 9, 10, 11]
  | 3 => [1, 5, 9, 10, 11, 12]
  | 4 => [1, 5, 7, 9, 10, 11]
  | 5 => [1, 5, 7, 9, 10, 11, 18]
  | 6 => [1, 5, 9, 10, 11]
  | 7 => [1, 5, 9, 10, 11]
  | 8 => [4]
  | _ => []
def lvY19_24 : Nat → List Nat
  | 0 => [0, 1]
  | 1 => [0, 1, 10]
  | 2 => [4]
  | 3 => [0, 1, 5]
  | 4 => [0, 1, 5, 14]
  | 5 => [0, 1, 5]
  | 6 => [0, 1, 5, 25]
  | 7 => [4]
  | 8 => [4]
  | _ => []
--LV=Y19
theorem holesE_cons (e : Ev) (l : List Ev) : holesE (e :: l) = hole1 e ++ holesE l := by simp [holesE]
theorem hl_flat {α : Type} (g : α → List Ev) (m : Nat) : ∀ l : List α, (∀ x ∈ l, (holesE (g x)).length ≤ m) → (holesE (l.flatMap g)).length ≤ l.length * m
  | [], _ => by simp [holesE]
  | x :: l, h => by
    rw [List.flatMap_cons, holesE_append, List.length_append, List.length_cons, Nat.add_mul, Nat.one_mul]
    have h1 := h x (by simp)
    have h2 := hl_flat g m l (fun y hy => h y (by simp [hy]))
    omega
mutual
theorem evP_hl : ∀ (x : PartD) (d : Nat) (data : List FieldD) (s : St), gdP d x = true → dBd data → (holesE (evP data s x).1).length ≤ 5 ^ d * (wtP x + 1)
  | .mk k t n ps os, d, data, s, hg, hd => by
    have hp : 1 ≤ 5 ^ d := Nat.pow_pos (by omega)
    have hf := find_bd hd n
    have big : ∀ m : Nat, m ≤ wtP (.mk k t n ps os) + 1 → m ≤ 5 ^ d * (wtP (.mk k t n ps os) + 1) := fun m h => Nat.le_trans h (Nat.le_mul_of_pos_left _ hp)
    rw [gdP_mk] at hg
    rw [evP_mk]
    split
    · refine big _ ?_
      simp [holesE, hole1]
    rename_i k1
    rw [if_neg k1] at hg
    split
    · refine big _ ?_
      simp [holesE, hole1]
    rename_i k2
    rw [if_neg k2] at hg
    by_cases k34 : k = 3 ∨ k = 4
    · rw [if_pos k34] at hg
      simp only [Bool.and_eq_true, Bool.not_eq_true', decide_eq_false_iff_not] at hg
      have hd0 : d ≠ 0 := hg.1.1.2
      have e5 : 5 ^ d = 5 * 5 ^ (d - 1) := by rw [← Nat.pow_succ']; congr 1; omega
      have h1 := fun da hda => evL_hl ps (d - 1) da s false hg.1.2 hda
      have h2 := evL_hl os (d - 1) data s false hg.2 hd
      have w1 : 5 ^ (d - 1) * wtL ps ≤ 5 ^ (d - 1) * (wtP (.mk k t n ps os) + 1) := Nat.mul_le_mul_left _ (by rw [wtP_mk]; omega)
      have w2 : 5 ^ (d - 1) * wtL os ≤ 5 ^ (d - 1) * (wtP (.mk k t n ps os) + 1) := Nat.mul_le_mul_left _ (by rw [wtP_mk]; omega)
      rw [e5, Nat.mul_assoc]
      split
      · split
        · have := h1 data hd; omega
        · omega
      · split
        · have h3 := hl_flat (fun it => (evL (withF data it) s ps).1) (5 ^ (d - 1) * wtL ps) (findF data n).items (fun it hit => h1 _ (with_bd hd (hf.2.2 it hit)))
          have h4 : (findF data n).items.length * (5 ^ (d - 1) * wtL ps) ≤ 5 * (5 ^ (d - 1) * wtL ps) := Nat.mul_le_mul_right _ hf.2.1
          dsimp only
          omega
        · simp [holesE]
    · rw [if_neg k34] at hg; cases hg
theorem evL_hl : ∀ (xs : List PartD) (d : Nat) (data : List FieldD) (s : St) (b : Bool), gdL d b xs = true → dBd data → (holesE (evL data s xs).1).length ≤ 5 ^ d * wtL xs
  | [], d, data, s, b, _, _ => by rw [evL_nil]; simp [holesE]
  | x :: xs, d, data, s, b, hg, hd => by
    rw [gdL] at hg
    simp only [Bool.and_eq_true] at hg
    have h1 := evP_hl x d data s hg.1.1 hd
    have h2 := evL_hl xs d data (evP data s x).2 _ hg.2 hd
    rw [evL_cons, holesE_append, List.length_append]
    have e : wtL (x :: xs) = (wtP x + 1) + wtL xs := by rw [show x :: xs = [x] ++ xs from rfl, wtL_append, wtL_one]; omega
    rw [e, Nat.mul_add]
    omega
end
theorem holesE_bd : ∀ (l : List Ev), ∀ x ∈ holesE l, 0 ≤ x.1 ∧ x.1 ≤ 5 ∧ x.2.length ≤ wEs l
  | [], x, h => by simp [holesE] at h
  | e :: l, x, h => by
    rw [holesE_cons] at h
    rw [wEs_cons]
    rcases List.mem_append.1 h with h | h
    · cases e with
      | txt t => simp [hole1] at h
      | hole f s =>
        simp only [hole1, List.mem_singleton] at h
        subst h
        have := placeM_bd s
        refine ⟨this.1, this.2, ?_⟩
        rw [wE_hole]; dsimp only; omega
    · obtain ⟨h1, h2, h3⟩ := holesE_bd l x h
      exact ⟨h1, h2, by omega⟩
def gdH (l : List (Int × Bs)) : Prop := l.length ≤ 1048576 ∧ ∀ x ∈ l, 0 ≤ x.1 ∧ x.1 ≤ 5 ∧ x.2.length ≤ 1000000000
theorem holesM_gd {xs : List PartD} {data : List FieldD} (hw : wtL xs ≤ 6000) : gdH (holesM xs data) := by
  unfold holesM
  split
  · rename_i h
    obtain ⟨_, g1, _, _⟩ := safe_parts h.1
    have h1 := evL_hl xs 3 data st0 false g1 (dataB_bd h.2)
    have h2 := evL_wt xs 3 data st0 false g1 (dataB_bd h.2)
    refine ⟨by omega, fun x hx => ?_⟩
    obtain ⟨e1, e2, e3⟩ := holesE_bd _ x hx
    exact ⟨e1, e2, by omega⟩
  · exact ⟨by simp, by simp⟩
theorem bdFs_ok19 {d : List FieldD} (h : bdFs d) : okF d := ⟨by have := h.1; omega, fun f hf => by
  obtain ⟨h1, h2, h3, h4⟩ := h.2 f hf
  exact ⟨by omega, by omega, by omega, fun t ht => by have := h4 t ht; omega⟩⟩
theorem drwTX : ACok Try.prog 22 (drwG (α := List (Int × Bs) × Int) (fun x => gdH x.1 ∧ 0 ≤ x.2 ∧ x.2 ≤ 6) (fun x => .tup [.seq (encHs x.1), .int .i64 x.2])) := drw_of (by
  refine ac_body 1 (tabA_cons open_ok (tabA_cons tpl_ok (tabA_cons daD_ok (tabA_cons pick_ok (tabA_nil (Γof_ok (tab_cons hof_s tab_nil))))))) (tab_cons hof_s tab_nil) mixed [.tmp 2, .tmp 3] Try.func22 rfl rfl (by kernel_rfl) (by kernel_rfl) ?_ (by kernel_rfl) ?_
  · intro args mem n K h
    obtain ⟨es, rfl, h⟩ := drw_args h
    rfl
  intro args mem n K h
  obtain ⟨es, rfl, ⟨l, rfl, hl⟩, hK⟩ := drw_args h
  have hba := bc_all l
  unfold entry
  repeat' (first | apply qw8 | apply qw1 | apply qw6 | apply qt1 | apply qw5 | apply qw2 | apply qw9 | apply qt2 | apply qt3 | apply qt4 | apply qt5 | apply qt6 | apply qw3 | apply qw4 | apply qj1 | apply qj2 | apply qj3 | apply qj4 | apply qj5 | apply qu1 | apply qu2 | ((first | apply qa1 | apply qa2 | apply qa3 | apply qh1 | apply qh2); intro K hk; simp only [go_sem, Nat.reduceEqDiff, Nat.reduceAdd, Nat.reduceLeDiff, Nat.reduceLT, Nat.reduceSub, Int.reduceToNat, ↓reduceIte, reduceCtorEq, exl, q_1, q_2, q_3, q_4, q_5, q_6, q_7, q_8, q_9, q_10, q_19, q_20, encPs_iff, encFs_iff]; (repeat (refine And.intro ?_ ?_; focus (first | omega | assumption | with_reducible rfl | (simp only [go_sem, Nat.reduceEqDiff, Nat.reduceAdd, Nat.reduceLeDiff, Nat.reduceLT, Nat.reduceSub, Int.reduceToNat, ↓reduceIte, reduceCtorEq, exl, q_1, q_2, q_3, q_4, q_5, q_6, q_7, q_8, q_9, q_10, q_19, q_20, encPs_iff, encFs_iff]; done)))); intros; apply hk; clear hk K) | ((first | apply qg1 rfl | apply qcd); focus (simp only [go_sem, Nat.reduceEqDiff, Nat.reduceAdd, Nat.reduceLeDiff, Nat.reduceLT, Nat.reduceSub, Int.reduceToNat, ↓reduceIte, reduceCtorEq, exl, q_1, q_2, q_3, q_4, q_5, q_6, q_7, q_8, q_9, q_10, q_19, q_20, encPs_iff, encFs_iff]; exact rfl)) | (refine qj6 ?_ ?_ <;> intro hc <;> (try simp only [hc]) <;> (try simp only [decide_eq_true_eq, decide_eq_false_iff_not, Bool.not_eq_true', Bool.not_eq_false', Bool.not_eq_true, reduceCtorEq] at hc) <;> (try (exfalso; omega))) | (refine qt7 ?_ ?_; focus decide) | (refine qw7 ?_ ?_ ?_; (focus (decide +kernel)); (focus (decide +kernel))))
  rename List PartD => xs
  rename List FieldD => d
  have hok := bdFs_ok19 ‹bdFs d›
  repeat' (first | apply qw8 | apply qw1 | apply qw6 | apply qt1 | apply qw5 | apply qw2 | apply qw9 | apply qt2 | apply qt3 | apply qt4 | apply qt5 | apply qt6 | apply qw3 | apply qw4 | apply qj1 | apply qj2 | apply qj3 | apply qj4 | apply qj5 | apply qu1 | apply qu2 | ((first | apply qa1 | apply qa2 | apply qa3 | apply qh1 | apply qh2); intro K hk; simp only [go_sem, Nat.reduceEqDiff, Nat.reduceAdd, Nat.reduceLeDiff, Nat.reduceLT, Nat.reduceSub, Int.reduceToNat, ↓reduceIte, reduceCtorEq, exl, q_1, q_2, q_3, q_4, q_5, q_6, q_7, q_8, q_9, q_10, q_19, q_20, encPs_iff, encFs_iff]; (repeat (refine And.intro ?_ ?_; focus (first | omega | assumption | with_reducible rfl | (simp only [go_sem, Nat.reduceEqDiff, Nat.reduceAdd, Nat.reduceLeDiff, Nat.reduceLT, Nat.reduceSub, Int.reduceToNat, ↓reduceIte, reduceCtorEq, exl, q_1, q_2, q_3, q_4, q_5, q_6, q_7, q_8, q_9, q_10, q_19, q_20, encPs_iff, encFs_iff]; done)))); intros; apply hk; clear hk K) | ((first | apply qg1 rfl | apply qcd); focus (simp only [go_sem, Nat.reduceEqDiff, Nat.reduceAdd, Nat.reduceLeDiff, Nat.reduceLT, Nat.reduceSub, Int.reduceToNat, ↓reduceIte, reduceCtorEq, exl, q_1, q_2, q_3, q_4, q_5, q_6, q_7, q_8, q_9, q_10, q_19, q_20, encPs_iff, encFs_iff]; exact rfl)) | (refine qj6 ?_ ?_ <;> intro hc <;> (try simp only [hc]) <;> (try simp only [decide_eq_true_eq, decide_eq_false_iff_not, Bool.not_eq_true', Bool.not_eq_false', Bool.not_eq_true, reduceCtorEq] at hc) <;> (try (exfalso; omega))) | (refine qt7 ?_ ?_; focus decide) | (refine qw7 ?_ ?_ ?_; (focus (decide +kernel)); (focus (decide +kernel))))
  rename_i kk _ _
  refine fin_retA ?_
  simp only [go_sem, ↓upd_def, Nat.reduceEqDiff, ↓reduceIte, q_1, q_2, q_3, q_4, q_5, q_6, q_7, q_8, q_9, q_10, q_19, q_20]
  refine hK (holesM xs d, kk) _ _ _ ⟨holesM_gd (by omega), by dsimp only; omega, by dsimp only; omega⟩ ?_ (by omega)
  simp [res, res1, resC, upd_def, q_1, q_2, q_3, q_4, q_5, q_6, q_7, q_8, q_9, q_10, q_19, q_20])
theorem txp_i : PureOk Try.prog 23 txsC := by
  refine pure_rel 2 tab_nil mixed [.tmp 4] Try.func23 rfl rfl (by kernel_rfl) (by kernel_rfl) (fun _ => rfl) (by kernel_rfl) ?_
  rintro ⟨l, p⟩ K h0 hK
  dsimp only at *
  unfold entry
  repeat' (first | (refine qwd fun K hk => ?_; simp only [lvY19_23, mkT, go_sem, Nat.reduceEqDiff, Nat.reduceAdd, Nat.reduceLeDiff, Nat.reduceLT, Nat.reduceSub, Int.reduceToNat, ↓reduceIte, reduceCtorEq, encHs_len]; apply hk; clear hk K) | apply qw8 | apply qw1 | refine qwc lvY19_23 ?_ | apply qt1 | apply qw5 | apply qw2 | apply qw9 | apply qt2 | apply qt3 | apply qt4 | apply qt5 | apply qt6 | apply qw3 | apply qw4 | apply qj1 | apply qj2 | apply qj3 | apply qj4 | apply qj5 | apply qu1 | apply qu2 | ((first | apply qa1 | apply qa2 | apply qa3 | apply qh1 | apply qh2); intro K hk; simp only [go_sem, Nat.reduceEqDiff, Nat.reduceAdd, Nat.reduceLeDiff, Nat.reduceLT, Nat.reduceSub, Int.reduceToNat, ↓reduceIte, reduceCtorEq, encHs_len]; (repeat (refine And.intro ?_ ?_; focus (first | omega | assumption | with_reducible rfl | (simp only [go_sem, Nat.reduceEqDiff, Nat.reduceAdd, Nat.reduceLeDiff, Nat.reduceLT, Nat.reduceSub, Int.reduceToNat, ↓reduceIte, reduceCtorEq, encHs_len]; done)))); intros; apply hk; clear hk K) | ((first | apply qg1 rfl | apply qcd); focus (simp only [go_sem, Nat.reduceEqDiff, Nat.reduceAdd, Nat.reduceLeDiff, Nat.reduceLT, Nat.reduceSub, Int.reduceToNat, ↓reduceIte, reduceCtorEq, encHs_len]; exact rfl)) | (refine qj6 ?_ ?_ <;> intro hc <;> (try simp only [hc]) <;> (try simp only [decide_eq_true_eq, decide_eq_false_iff_not, Bool.not_eq_true', Bool.not_eq_false', Bool.not_eq_true, reduceCtorEq] at hc) <;> (try (exfalso; omega))) | (refine qt7 ?_ ?_; focus decide) | (refine qw7 ?_ ?_ ?_; (focus (decide +kernel)); (focus (decide +kernel))))
  refine s_loop (ι := Nat) (fun j => [(1, .int .i64 p), (5, .own 0), (9, .seq (encHs l)), (10, .int .i64 l.length), (11, .int .i64 j)]) (fun j => [(0, .row 9 1 (strs (textsM (l.take j) p)))]) 1 (fun j => j ≤ l.length) (fun j => l.length - j) 0 (by omega) (by omega) ?_ ?_
  · simp [fits, fitsT, fitsM, upd_def, PV.nmb, nmbL, MB.nmb, List.getD_cons_zero, List.getD_cons_succ, textsM, strs]
  rintro j hj
  have hl9 := textsM_len (l.take j) p
  rw [List.length_take] at hl9
  simp only [mkS, mkT, mkM]
  by_cases hjl : j < l.length
  · obtain ⟨⟨q, t⟩, hx⟩ := get_some (xs := l) (k := j) hjl
    have ga : (encHs l)[j]? = some [.int .i64 q, .str t] := by rw [encHs_get, hx]; rfl
    have hs := textsM_snoc (p := p) hx
    dsimp only at hs
    repeat' (first | (refine qwd fun K hk => ?_; simp only [lvY19_23, mkT, go_sem, Nat.reduceEqDiff, Nat.reduceAdd, Nat.reduceLeDiff, Nat.reduceLT, Nat.reduceSub, Int.reduceToNat, ↓reduceIte, reduceCtorEq, encHs_len, strs_len, ga, strs_cell]; apply hk; clear hk K) | apply qw8 | apply qw1 | refine qwc lvY19_23 ?_ | apply qt1 | apply qw5 | apply qw2 | apply qw9 | apply qt2 | apply qt3 | apply qt4 | apply qt5 | apply qt6 | apply qw3 | apply qw4 | apply qj1 | apply qj2 | apply qj3 | apply qj4 | apply qj5 | apply qu1 | apply qu2 | ((first | apply qa1 | apply qa2 | apply qa3 | apply qh1 | apply qh2); intro K hk; simp only [go_sem, Nat.reduceEqDiff, Nat.reduceAdd, Nat.reduceLeDiff, Nat.reduceLT, Nat.reduceSub, Int.reduceToNat, ↓reduceIte, reduceCtorEq, encHs_len, strs_len, ga, strs_cell]; (repeat (refine And.intro ?_ ?_; focus (first | omega | assumption | with_reducible rfl | (simp only [go_sem, Nat.reduceEqDiff, Nat.reduceAdd, Nat.reduceLeDiff, Nat.reduceLT, Nat.reduceSub, Int.reduceToNat, ↓reduceIte, reduceCtorEq, encHs_len, strs_len, ga, strs_cell]; done)))); intros; apply hk; clear hk K) | ((first | apply qg1 rfl | apply qcd); focus (simp only [go_sem, Nat.reduceEqDiff, Nat.reduceAdd, Nat.reduceLeDiff, Nat.reduceLT, Nat.reduceSub, Int.reduceToNat, ↓reduceIte, reduceCtorEq, encHs_len, strs_len, ga, strs_cell]; exact rfl)) | (refine qj6 ?_ ?_ <;> intro hc <;> (try simp only [hc]) <;> (try simp only [decide_eq_true_eq, decide_eq_false_iff_not, Bool.not_eq_true', Bool.not_eq_false', Bool.not_eq_true, reduceCtorEq] at hc) <;> (try (exfalso; omega))) | (refine qt7 ?_ ?_; focus decide) | (refine qw7 ?_ ?_ ?_; (focus (decide +kernel)); (focus (decide +kernel))))
    · refine s_againR (j + 1) (fun i => if i = 0 then 3 else i) ?_ ?_ ?_ ?_ ?_ ?_ <;> (first | omega | (dsimp only; omega) | (intro i hi; (try dsimp only); (repeat' split) <;> omega) | (intro i j hi hj h; (try dsimp only at h); (repeat' split at h) <;> omega) | skip)
      · simp [fitsTR, fitsMR, PV.ren, renL, MB.ren, upd_def, PV.nmb, nmbL, MB.nmb, List.getD_cons_zero, List.getD_cons_succ, frz, drp]
      · rw [if_pos ‹_›] at hs
        simp [fitsTR, fitsMR, PV.ren, renL, MB.ren, upd_def, PV.nmb, nmbL, MB.nmb, List.getD_cons_zero, List.getD_cons_succ, frz, drp, hs, strs_append]
        rfl
    · refine s_again (j + 1) ?_ ?_ ?_ <;> (first | omega | (dsimp only; omega) | skip)
      rw [if_neg ‹_›, List.append_nil] at hs
      simp [fits, fitsT, fitsM, upd_def, PV.nmb, nmbL, MB.nmb, List.getD_cons_zero, List.getD_cons_succ, hs]
  · obtain rfl : j = l.length := by omega
    repeat' (first | (refine qwd fun K hk => ?_; simp only [lvY19_23, mkT, go_sem, Nat.reduceEqDiff, Nat.reduceAdd, Nat.reduceLeDiff, Nat.reduceLT, Nat.reduceSub, Int.reduceToNat, ↓reduceIte, reduceCtorEq, encHs_len]; apply hk; clear hk K) | apply qw8 | apply qw1 | refine qwc lvY19_23 ?_ | apply qt1 | apply qw5 | apply qw2 | apply qw9 | apply qt2 | apply qt3 | apply qt4 | apply qt5 | apply qt6 | apply qw3 | apply qw4 | apply qj1 | apply qj2 | apply qj3 | apply qj4 | apply qj5 | apply qu1 | apply qu2 | ((first | apply qa1 | apply qa2 | apply qa3 | apply qh1 | apply qh2); intro K hk; simp only [go_sem, Nat.reduceEqDiff, Nat.reduceAdd, Nat.reduceLeDiff, Nat.reduceLT, Nat.reduceSub, Int.reduceToNat, ↓reduceIte, reduceCtorEq, encHs_len]; (repeat (refine And.intro ?_ ?_; focus (first | omega | assumption | with_reducible rfl | (simp only [go_sem, Nat.reduceEqDiff, Nat.reduceAdd, Nat.reduceLeDiff, Nat.reduceLT, Nat.reduceSub, Int.reduceToNat, ↓reduceIte, reduceCtorEq, encHs_len]; done)))); intros; apply hk; clear hk K) | ((first | apply qg1 rfl | apply qcd); focus (simp only [go_sem, Nat.reduceEqDiff, Nat.reduceAdd, Nat.reduceLeDiff, Nat.reduceLT, Nat.reduceSub, Int.reduceToNat, ↓reduceIte, reduceCtorEq, encHs_len]; exact rfl)) | (refine qj6 ?_ ?_ <;> intro hc <;> (try simp only [hc]) <;> (try simp only [decide_eq_true_eq, decide_eq_false_iff_not, Bool.not_eq_true', Bool.not_eq_false', Bool.not_eq_true, reduceCtorEq] at hc) <;> (try (exfalso; omega))) | (refine qt7 ?_ ?_; focus decide) | (refine qw7 ?_ ?_ ?_; (focus (decide +kernel)); (focus (decide +kernel))))
    ((first | refine fin_ret ?_ | refine fin_end ?_); simp only [go_sem, ↓upd_def, Nat.reduceEqDiff, Nat.reduceAdd, ↓reduceIte, reduceCtorEq])
    rw [List.take_length]
    exact hK
@[go_sem] def stxC : PC := rel (α := List Bs × List Bs) (fun x => [.seq (strs x.1), .seq (strs x.2)]) (fun x => x.1.length ≤ 9223372036854775807 ∧ x.2.length ≤ 9223372036854775807) (fun x => .bool (decide (x.1 = x.2)))
theorem stx_ok : PureOk Try.prog 24 stxC := by
  refine pure_rel 2 tab_nil mixed [.tmp 4] Try.func24 rfl rfl (by kernel_rfl) (by kernel_rfl) (fun _ => rfl) (by kernel_rfl) ?_
  rintro ⟨a, b⟩ K ⟨ha, hb⟩ hK
  dsimp only at *
  have hga := strK_get a
  have hgb := strK_get b
  unfold entry
  by_cases hlen : a.length = b.length
  · repeat' (first | (refine qwd fun K hk => ?_; simp only [lvY19_24, mkT, go_sem, Nat.reduceEqDiff, Nat.reduceAdd, Nat.reduceLeDiff, Nat.reduceLT, Nat.reduceSub, Int.reduceToNat, ↓reduceIte, reduceCtorEq, strs_length, hlen, decide_true, Bool.not_true]; apply hk; clear hk K) | apply qw8 | apply qw1 | refine qwc lvY19_24 ?_ | apply qt1 | apply qw5 | apply qw2 | apply qw9 | apply qt2 | apply qt3 | apply qt4 | apply qt5 | apply qt6 | apply qw3 | apply qw4 | apply qj1 | apply qj2 | apply qj3 | apply qj4 | apply qj5 | apply qu1 | apply qu2 | ((first | apply qa1 | apply qa2 | apply qa3 | apply qh1 | apply qh2); intro K hk; simp only [go_sem, Nat.reduceEqDiff, Nat.reduceAdd, Nat.reduceLeDiff, Nat.reduceLT, Nat.reduceSub, Int.reduceToNat, ↓reduceIte, reduceCtorEq, strs_length, hlen, decide_true, Bool.not_true]; (repeat (refine And.intro ?_ ?_; focus (first | omega | assumption | with_reducible rfl | (simp only [go_sem, Nat.reduceEqDiff, Nat.reduceAdd, Nat.reduceLeDiff, Nat.reduceLT, Nat.reduceSub, Int.reduceToNat, ↓reduceIte, reduceCtorEq, strs_length, hlen, decide_true, Bool.not_true]; done)))); intros; apply hk; clear hk K) | ((first | apply qg1 rfl | apply qcd); focus (simp only [go_sem, Nat.reduceEqDiff, Nat.reduceAdd, Nat.reduceLeDiff, Nat.reduceLT, Nat.reduceSub, Int.reduceToNat, ↓reduceIte, reduceCtorEq, strs_length, hlen, decide_true, Bool.not_true]; exact rfl)) | (refine qj6 ?_ ?_ <;> intro hc <;> (try simp only [hc]) <;> (try simp only [decide_eq_true_eq, decide_eq_false_iff_not, Bool.not_eq_true', Bool.not_eq_false', Bool.not_eq_true, reduceCtorEq] at hc) <;> (try (exfalso; omega))) | (refine qt7 ?_ ?_; focus decide) | (refine qw7 ?_ ?_ ?_; (focus (decide +kernel)); (focus (decide +kernel))))
    refine s_loop (ι := Nat) (fun k => [(0, .seq (strs a)), (1, .seq (strs b)), (5, .int .i64 k)]) (fun _ => []) 0 (fun k => k ≤ a.length ∧ a.take k = b.take k) (fun k => a.length - k) 0 (by omega) ⟨Nat.zero_le _, rfl⟩ ?_ ?_
    · simp [fits, fitsT, fitsM, upd_def, PV.nmb, nmbL, MB.nmb, List.getD_cons_zero, List.getD_cons_succ]
    rintro k ⟨hk, ht⟩
    simp only [mkS, mkT, mkM]
    by_cases hkl : k < a.length
    · obtain ⟨x, hx⟩ := get_some (xs := a) (k := k) hkl
      obtain ⟨y, hy⟩ := get_some (xs := b) (k := k) (by omega)
      by_cases hxy : x = y
      · subst hxy
        repeat' (first | (refine qwd fun K hk => ?_; simp only [lvY19_24, mkT, go_sem, Nat.reduceEqDiff, Nat.reduceAdd, Nat.reduceLeDiff, Nat.reduceLT, Nat.reduceSub, Int.reduceToNat, ↓reduceIte, reduceCtorEq, strs_length, hga, hgb, hx, hy, Option.map_some, hlen, bne_self_eq_false, decide_true, Bool.not_true]; apply hk; clear hk K) | apply qw8 | apply qw1 | refine qwc lvY19_24 ?_ | apply qt1 | apply qw5 | apply qw2 | apply qw9 | apply qt2 | apply qt3 | apply qt4 | apply qt5 | apply qt6 | apply qw3 | apply qw4 | apply qj1 | apply qj2 | apply qj3 | apply qj4 | apply qj5 | apply qu1 | apply qu2 | ((first | apply qa1 | apply qa2 | apply qa3 | apply qh1 | apply qh2); intro K hk; simp only [go_sem, Nat.reduceEqDiff, Nat.reduceAdd, Nat.reduceLeDiff, Nat.reduceLT, Nat.reduceSub, Int.reduceToNat, ↓reduceIte, reduceCtorEq, strs_length, hga, hgb, hx, hy, Option.map_some, hlen, bne_self_eq_false, decide_true, Bool.not_true]; (repeat (refine And.intro ?_ ?_; focus (first | omega | assumption | with_reducible rfl | (simp only [go_sem, Nat.reduceEqDiff, Nat.reduceAdd, Nat.reduceLeDiff, Nat.reduceLT, Nat.reduceSub, Int.reduceToNat, ↓reduceIte, reduceCtorEq, strs_length, hga, hgb, hx, hy, Option.map_some, hlen, bne_self_eq_false, decide_true, Bool.not_true]; done)))); intros; apply hk; clear hk K) | ((first | apply qg1 rfl | apply qcd); focus (simp only [go_sem, Nat.reduceEqDiff, Nat.reduceAdd, Nat.reduceLeDiff, Nat.reduceLT, Nat.reduceSub, Int.reduceToNat, ↓reduceIte, reduceCtorEq, strs_length, hga, hgb, hx, hy, Option.map_some, hlen, bne_self_eq_false, decide_true, Bool.not_true]; exact rfl)) | (refine qj6 ?_ ?_ <;> intro hc <;> (try simp only [hc]) <;> (try simp only [decide_eq_true_eq, decide_eq_false_iff_not, Bool.not_eq_true', Bool.not_eq_false', Bool.not_eq_true, reduceCtorEq] at hc) <;> (try (exfalso; omega))) | (refine qt7 ?_ ?_; focus decide) | (refine qw7 ?_ ?_ ?_; (focus (decide +kernel)); (focus (decide +kernel))))
        refine s_again (k + 1) ?_ ?_ ?_ <;> (first | omega | (dsimp only; omega) | skip)
        · refine ⟨by omega, ?_⟩
          rw [take_snoc' hx, take_snoc' hy, ht]
        · simp [fits, fitsT, fitsM, upd_def, PV.nmb, nmbL, MB.nmb, List.getD_cons_zero, List.getD_cons_succ]
      · repeat' (first | (refine qwd fun K hk => ?_; simp only [lvY19_24, mkT, go_sem, Nat.reduceEqDiff, Nat.reduceAdd, Nat.reduceLeDiff, Nat.reduceLT, Nat.reduceSub, Int.reduceToNat, ↓reduceIte, reduceCtorEq, strs_length, hga, hgb, hx, hy, Option.map_some, hlen, hxy, decide_false, Bool.not_false]; apply hk; clear hk K) | apply qw8 | apply qw1 | refine qwc lvY19_24 ?_ | apply qt1 | apply qw5 | apply qw2 | apply qw9 | apply qt2 | apply qt3 | apply qt4 | apply qt5 | apply qt6 | apply qw3 | apply qw4 | apply qj1 | apply qj2 | apply qj3 | apply qj4 | apply qj5 | apply qu1 | apply qu2 | ((first | apply qa1 | apply qa2 | apply qa3 | apply qh1 | apply qh2); intro K hk; simp only [go_sem, Nat.reduceEqDiff, Nat.reduceAdd, Nat.reduceLeDiff, Nat.reduceLT, Nat.reduceSub, Int.reduceToNat, ↓reduceIte, reduceCtorEq, strs_length, hga, hgb, hx, hy, Option.map_some, hlen, hxy, decide_false, Bool.not_false]; (repeat (refine And.intro ?_ ?_; focus (first | omega | assumption | with_reducible rfl | (simp only [go_sem, Nat.reduceEqDiff, Nat.reduceAdd, Nat.reduceLeDiff, Nat.reduceLT, Nat.reduceSub, Int.reduceToNat, ↓reduceIte, reduceCtorEq, strs_length, hga, hgb, hx, hy, Option.map_some, hlen, hxy, decide_false, Bool.not_false]; done)))); intros; apply hk; clear hk K) | ((first | apply qg1 rfl | apply qcd); focus (simp only [go_sem, Nat.reduceEqDiff, Nat.reduceAdd, Nat.reduceLeDiff, Nat.reduceLT, Nat.reduceSub, Int.reduceToNat, ↓reduceIte, reduceCtorEq, strs_length, hga, hgb, hx, hy, Option.map_some, hlen, hxy, decide_false, Bool.not_false]; exact rfl)) | (refine qj6 ?_ ?_ <;> intro hc <;> (try simp only [hc]) <;> (try simp only [decide_eq_true_eq, decide_eq_false_iff_not, Bool.not_eq_true', Bool.not_eq_false', Bool.not_eq_true, reduceCtorEq] at hc) <;> (try (exfalso; omega))) | (refine qt7 ?_ ?_; focus decide) | (refine qw7 ?_ ?_ ?_; (focus (decide +kernel)); (focus (decide +kernel))))
        ((first | refine fin_ret ?_ | refine fin_end ?_); simp only [go_sem, ↓upd_def, Nat.reduceEqDiff, Nat.reduceAdd, ↓reduceIte, reduceCtorEq])
        refine K_bool hK ?_
        rw [decide_eq_false]
        rintro rfl
        rw [hx] at hy
        simp only [Option.some.injEq] at hy
        exact hxy hy
    · obtain rfl : k = a.length := by omega
      repeat' (first | (refine qwd fun K hk => ?_; simp only [lvY19_24, mkT, go_sem, Nat.reduceEqDiff, Nat.reduceAdd, Nat.reduceLeDiff, Nat.reduceLT, Nat.reduceSub, Int.reduceToNat, ↓reduceIte, reduceCtorEq, strs_length, hlen]; apply hk; clear hk K) | apply qw8 | apply qw1 | refine qwc lvY19_24 ?_ | apply qt1 | apply qw5 | apply qw2 | apply qw9 | apply qt2 | apply qt3 | apply qt4 | apply qt5 | apply qt6 | apply qw3 | apply qw4 | apply qj1 | apply qj2 | apply qj3 | apply qj4 | apply qj5 | apply qu1 | apply qu2 | ((first | apply qa1 | apply qa2 | apply qa3 | apply qh1 | apply qh2); intro K hk; simp only [go_sem, Nat.reduceEqDiff, Nat.reduceAdd, Nat.reduceLeDiff, Nat.reduceLT, Nat.reduceSub, Int.reduceToNat, ↓reduceIte, reduceCtorEq, strs_length, hlen]; (repeat (refine And.intro ?_ ?_; focus (first | omega | assumption | with_reducible rfl | (simp only [go_sem, Nat.reduceEqDiff, Nat.reduceAdd, Nat.reduceLeDiff, Nat.reduceLT, Nat.reduceSub, Int.reduceToNat, ↓reduceIte, reduceCtorEq, strs_length, hlen]; done)))); intros; apply hk; clear hk K) | ((first | apply qg1 rfl | apply qcd); focus (simp only [go_sem, Nat.reduceEqDiff, Nat.reduceAdd, Nat.reduceLeDiff, Nat.reduceLT, Nat.reduceSub, Int.reduceToNat, ↓reduceIte, reduceCtorEq, strs_length, hlen]; exact rfl)) | (refine qj6 ?_ ?_ <;> intro hc <;> (try simp only [hc]) <;> (try simp only [decide_eq_true_eq, decide_eq_false_iff_not, Bool.not_eq_true', Bool.not_eq_false', Bool.not_eq_true, reduceCtorEq] at hc) <;> (try (exfalso; omega))) | (refine qt7 ?_ ?_; focus decide) | (refine qw7 ?_ ?_ ?_; (focus (decide +kernel)); (focus (decide +kernel))))
      ((first | refine fin_ret ?_ | refine fin_end ?_); simp only [go_sem, ↓upd_def, Nat.reduceEqDiff, Nat.reduceAdd, ↓reduceIte, reduceCtorEq])
      refine K_bool hK ?_
      rw [List.take_length, hlen, List.take_length] at ht
      rw [decide_eq_true ht]
  · repeat' (first | (refine qwd fun K hk => ?_; simp only [lvY19_24, mkT, go_sem, Nat.reduceEqDiff, Nat.reduceAdd, Nat.reduceLeDiff, Nat.reduceLT, Nat.reduceSub, Int.reduceToNat, ↓reduceIte, reduceCtorEq, strs_length, hlen, decide_false, Bool.not_false]; apply hk; clear hk K) | apply qw8 | apply qw1 | refine qwc lvY19_24 ?_ | apply qt1 | apply qw5 | apply qw2 | apply qw9 | apply qt2 | apply qt3 | apply qt4 | apply qt5 | apply qt6 | apply qw3 | apply qw4 | apply qj1 | apply qj2 | apply qj3 | apply qj4 | apply qj5 | apply qu1 | apply qu2 | ((first | apply qa1 | apply qa2 | apply qa3 | apply qh1 | apply qh2); intro K hk; simp only [go_sem, Nat.reduceEqDiff, Nat.reduceAdd, Nat.reduceLeDiff, Nat.reduceLT, Nat.reduceSub, Int.reduceToNat, ↓reduceIte, reduceCtorEq, strs_length, hlen, decide_false, Bool.not_false]; (repeat (refine And.intro ?_ ?_; focus (first | omega | assumption | with_reducible rfl | (simp only [go_sem, Nat.reduceEqDiff, Nat.reduceAdd, Nat.reduceLeDiff, Nat.reduceLT, Nat.reduceSub, Int.reduceToNat, ↓reduceIte, reduceCtorEq, strs_length, hlen, decide_false, Bool.not_false]; done)))); intros; apply hk; clear hk K) | ((first | apply qg1 rfl | apply qcd); focus (simp only [go_sem, Nat.reduceEqDiff, Nat.reduceAdd, Nat.reduceLeDiff, Nat.reduceLT, Nat.reduceSub, Int.reduceToNat, ↓reduceIte, reduceCtorEq, strs_length, hlen, decide_false, Bool.not_false]; exact rfl)) | (refine qj6 ?_ ?_ <;> intro hc <;> (try simp only [hc]) <;> (try simp only [decide_eq_true_eq, decide_eq_false_iff_not, Bool.not_eq_true', Bool.not_eq_false', Bool.not_eq_true, reduceCtorEq] at hc) <;> (try (exfalso; omega))) | (refine qt7 ?_ ?_; focus decide) | (refine qw7 ?_ ?_ ?_; (focus (decide +kernel)); (focus (decide +kernel))))
    ((first | refine fin_ret ?_ | refine fin_end ?_); simp only [go_sem, ↓upd_def, Nat.reduceEqDiff, Nat.reduceAdd, ↓reduceIte, reduceCtorEq])
    refine K_bool hK ?_
    rw [decide_eq_false]
    rintro rfl
    exact hlen rfl
/-- Holes whose place is below a number. -/
def cntT (l : List (Int × Bs)) (k : Nat) : Nat := (l.filter fun x => decide (x.1 < (k : Int))).length
theorem cntT_step : ∀ (l : List (Int × Bs)) (k : Nat), cntT l (k + 1) = cntT l k + (textsM l (k : Int)).length
  | [], k => by simp [cntT, textsM]
  | x :: l, k => by
    have ih := cntT_step l k
    unfold cntT textsM at *
    simp only [List.filter_cons, List.length_map] at *
    by_cases h1 : x.1 < (k : Int)
    · have h2 : x.1 < ((k + 1 : Nat) : Int) := by omega
      have h3 : ¬ x.1 = (k : Int) := by omega
      simp only [h1, h2, h3, decide_true, decide_false, if_true, List.length_cons, Bool.false_eq_true, if_false]
      omega
    · by_cases h3 : x.1 = (k : Int)
      · have h2 : x.1 < ((k + 1 : Nat) : Int) := by omega
        simp only [h1, h2, h3, decide_true, decide_false, if_true, List.length_cons, Bool.false_eq_true, if_false, List.length_map]
        simp only [h3, Int.lt_irrefl, decide_false, Bool.false_eq_true, if_false] at *
        simp only [show ((k : Int) < ((k + 1 : Nat) : Int)) from by omega, decide_true, if_true, List.length_cons] at *
        omega
      · have h2 : ¬ x.1 < ((k + 1 : Nat) : Int) := by omega
        simp only [h1, h2, h3, decide_false, Bool.false_eq_true, if_false]
        omega
theorem cntT_zero {l : List (Int × Bs)} (h : gdH l) : cntT l 0 = 0 := by
  unfold cntT
  rw [List.length_eq_zero_iff, List.filter_eq_nil_iff]
  intro x hx
  have := (h.2 x hx).1
  simp; omega
theorem cntT_all {l : List (Int × Bs)} (h : gdH l) : cntT l 6 = l.length := by
  unfold cntT
  rw [List.filter_eq_self.2]
  intro x hx
  have := (h.2 x hx).2.1
  simp; omega
theorem cntT_le (l : List (Int × Bs)) (k : Nat) : cntT l k ≤ l.length := List.length_filter_le _ _
set_option maxHeartbeats 8000000 in
theorem FnTextsOf_pure : PureOk Try.prog 5 (rel (α := Bs) (fun x => [.seq (x.map bc)]) (fun x => x.length ≤ 9223372036854775807) (fun _ => .bool true)) := by
  refine pure_relA 1 (tabA_cons drwTX (tabA_nil (Γof_ok (tab_cons txp_i (tab_cons txs_s (tab_cons stx_ok (tab_cons alive9 tab_nil))))))) (tab_cons txp_i (tab_cons txs_s (tab_cons stx_ok (tab_cons alive9 tab_nil)))) mixed [.tmp 2] Try.func5 rfl rfl (by kernel_rfl) (by kernel_rfl) (fun _ => rfl) (by kernel_rfl) ?_
  rintro l0 K hl hK
  have hba := bc_all l0
  unfold entry
  repeat' (first | (refine qwd fun K hk => ?_; simp only [lvY19_5, mkT, go_sem, Nat.reduceEqDiff, Nat.reduceAdd, Nat.reduceLeDiff, Nat.reduceLT, Nat.reduceSub, Int.reduceToNat, ↓reduceIte, reduceCtorEq, exl, ex_unit9, true_and, strs_iff, decide_true, Bool.not_true, encHs_len]; apply hk; clear hk K) | apply qw8 | apply qw1 | refine qwc lvY19_5 ?_ | apply qt1 | apply qw5 | apply qw2 | apply qw9 | apply qt2 | apply qt3 | apply qt4 | apply qt5 | apply qt6 | apply qw3 | apply qw4 | apply qj1 | apply qj2 | apply qj3 | apply qj4 | apply qj5 | apply qu1 | apply qu2 | ((first | apply qa1 | apply qa2 | apply qa3 | apply qh1 | apply qh2); intro K hk; simp only [go_sem, Nat.reduceEqDiff, Nat.reduceAdd, Nat.reduceLeDiff, Nat.reduceLT, Nat.reduceSub, Int.reduceToNat, ↓reduceIte, reduceCtorEq, exl, ex_unit9, true_and, strs_iff, decide_true, Bool.not_true, encHs_len]; (repeat (refine And.intro ?_ ?_; focus (first | omega | assumption | with_reducible rfl | (simp only [go_sem, Nat.reduceEqDiff, Nat.reduceAdd, Nat.reduceLeDiff, Nat.reduceLT, Nat.reduceSub, Int.reduceToNat, ↓reduceIte, reduceCtorEq, exl, ex_unit9, true_and, strs_iff, decide_true, Bool.not_true, encHs_len]; done)))); intros; apply hk; clear hk K) | ((first | apply qg1 rfl | apply qcd); focus (simp only [go_sem, Nat.reduceEqDiff, Nat.reduceAdd, Nat.reduceLeDiff, Nat.reduceLT, Nat.reduceSub, Int.reduceToNat, ↓reduceIte, reduceCtorEq, exl, ex_unit9, true_and, strs_iff, decide_true, Bool.not_true, encHs_len]; exact rfl)) | (refine qj6 ?_ ?_ <;> intro hc <;> (try simp only [hc]) <;> (try simp only [decide_eq_true_eq, decide_eq_false_iff_not, Bool.not_eq_true', Bool.not_eq_false', Bool.not_eq_true, reduceCtorEq] at hc) <;> (try (exfalso; omega))) | (refine qt7 ?_ ?_; focus decide) | (refine qw7 ?_ ?_ ?_; (focus (decide +kernel)); (focus (decide +kernel))))
  · ((first | refine fin_ret ?_ | refine fin_end ?_); simp only [go_sem, ↓upd_def, Nat.reduceEqDiff, Nat.reduceAdd, ↓reduceIte, reduceCtorEq])
    exact hK
  rename (List (Int × Bs) × Int) => x
  obtain ⟨l, p⟩ := x
  rename _ ∧ _ ∧ _ => hgx
  obtain ⟨b1, b2, b3⟩ := hgx
  dsimp only at b1 b2 b3
  have hll := b1.1
  have htl := textsM_len l p
  repeat' (first | (refine qwd fun K hk => ?_; simp only [lvY19_5, mkT, go_sem, Nat.reduceEqDiff, Nat.reduceAdd, Nat.reduceLeDiff, Nat.reduceLT, Nat.reduceSub, Int.reduceToNat, ↓reduceIte, reduceCtorEq, exl, ex_unit9, true_and, strs_iff, decide_true, Bool.not_true, encHs_len]; apply hk; clear hk K) | apply qw8 | apply qw1 | refine qwc lvY19_5 ?_ | apply qt1 | apply qw5 | apply qw2 | apply qw9 | apply qt2 | apply qt3 | apply qt4 | apply qt5 | apply qt6 | apply qw3 | apply qw4 | apply qj1 | apply qj2 | apply qj3 | apply qj4 | apply qj5 | apply qu1 | apply qu2 | ((first | apply qa1 | apply qa2 | apply qa3 | apply qh1 | apply qh2); intro K hk; simp only [go_sem, Nat.reduceEqDiff, Nat.reduceAdd, Nat.reduceLeDiff, Nat.reduceLT, Nat.reduceSub, Int.reduceToNat, ↓reduceIte, reduceCtorEq, exl, ex_unit9, true_and, strs_iff, decide_true, Bool.not_true, encHs_len]; (repeat (refine And.intro ?_ ?_; focus (first | omega | assumption | with_reducible rfl | (simp only [go_sem, Nat.reduceEqDiff, Nat.reduceAdd, Nat.reduceLeDiff, Nat.reduceLT, Nat.reduceSub, Int.reduceToNat, ↓reduceIte, reduceCtorEq, exl, ex_unit9, true_and, strs_iff, decide_true, Bool.not_true, encHs_len]; done)))); intros; apply hk; clear hk K) | ((first | apply qg1 rfl | apply qcd); focus (simp only [go_sem, Nat.reduceEqDiff, Nat.reduceAdd, Nat.reduceLeDiff, Nat.reduceLT, Nat.reduceSub, Int.reduceToNat, ↓reduceIte, reduceCtorEq, exl, ex_unit9, true_and, strs_iff, decide_true, Bool.not_true, encHs_len]; exact rfl)) | (refine qj6 ?_ ?_ <;> intro hc <;> (try simp only [hc]) <;> (try simp only [decide_eq_true_eq, decide_eq_false_iff_not, Bool.not_eq_true', Bool.not_eq_false', Bool.not_eq_true, reduceCtorEq] at hc) <;> (try (exfalso; omega))) | (refine qt7 ?_ ?_; focus decide) | (refine qw7 ?_ ?_ ?_; (focus (decide +kernel)); (focus (decide +kernel))))
  refine s_loop (ι := Nat) (fun k => [(3, .seq (encHs l)), (5, .seq (strs (textsM l p))), (6, .int .i64 (cntT l k)), (7, .int .i64 k)]) (fun _ => []) 0 (fun k => k ≤ 6) (fun k => 6 - k) 0 (by omega) (Nat.zero_le _) ?_ ?_
  · simp [fits, fitsT, fitsM, upd_def, PV.nmb, nmbL, MB.nmb, List.getD_cons_zero, List.getD_cons_succ, cntT_zero b1]
  intro k hk
  simp only [mkS, mkT, mkM]
  by_cases hkl : k < 6
  · have hst := cntT_step l k
    have h1 := cntT_le l (k + 1)
    have h2 := textsM_len l (k : Int)
    repeat' (first | (refine qwd fun K hk => ?_; simp only [lvY19_5, mkT, go_sem, Nat.reduceEqDiff, Nat.reduceAdd, Nat.reduceLeDiff, Nat.reduceLT, Nat.reduceSub, Int.reduceToNat, ↓reduceIte, reduceCtorEq, exl, ex_unit9, true_and, strs_iff, encHs_len, strs_length]; apply hk; clear hk K) | apply qw8 | apply qw1 | refine qwc lvY19_5 ?_ | apply qt1 | apply qw5 | apply qw2 | apply qw9 | apply qt2 | apply qt3 | apply qt4 | apply qt5 | apply qt6 | apply qw3 | apply qw4 | apply qj1 | apply qj2 | apply qj3 | apply qj4 | apply qj5 | apply qu1 | apply qu2 | ((first | apply qa1 | apply qa2 | apply qa3 | apply qh1 | apply qh2); intro K hk; simp only [go_sem, Nat.reduceEqDiff, Nat.reduceAdd, Nat.reduceLeDiff, Nat.reduceLT, Nat.reduceSub, Int.reduceToNat, ↓reduceIte, reduceCtorEq, exl, ex_unit9, true_and, strs_iff, encHs_len, strs_length]; (repeat (refine And.intro ?_ ?_; focus (first | omega | assumption | with_reducible rfl | (simp only [go_sem, Nat.reduceEqDiff, Nat.reduceAdd, Nat.reduceLeDiff, Nat.reduceLT, Nat.reduceSub, Int.reduceToNat, ↓reduceIte, reduceCtorEq, exl, ex_unit9, true_and, strs_iff, encHs_len, strs_length]; done)))); intros; apply hk; clear hk K) | ((first | apply qg1 rfl | apply qcd); focus (simp only [go_sem, Nat.reduceEqDiff, Nat.reduceAdd, Nat.reduceLeDiff, Nat.reduceLT, Nat.reduceSub, Int.reduceToNat, ↓reduceIte, reduceCtorEq, exl, ex_unit9, true_and, strs_iff, encHs_len, strs_length]; exact rfl)) | (refine qj6 ?_ ?_ <;> intro hc <;> (try simp only [hc]) <;> (try simp only [decide_eq_true_eq, decide_eq_false_iff_not, Bool.not_eq_true', Bool.not_eq_false', Bool.not_eq_true, reduceCtorEq] at hc) <;> (try (exfalso; omega))) | (refine qt7 ?_ ?_; focus decide) | (refine qw7 ?_ ?_ ?_; (focus (decide +kernel)); (focus (decide +kernel))))
    refine s_again (k + 1) ?_ ?_ ?_ <;> (first | omega | (dsimp only; omega) | skip)
    simp [fits, fitsT, fitsM, upd_def, PV.nmb, nmbL, MB.nmb, List.getD_cons_zero, List.getD_cons_succ, hst]
  · obtain rfl : k = 6 := by omega
    rw [cntT_all b1]
    repeat' (first | (refine qwd fun K hk => ?_; simp only [lvY19_5, mkT, go_sem, Nat.reduceEqDiff, Nat.reduceAdd, Nat.reduceLeDiff, Nat.reduceLT, Nat.reduceSub, Int.reduceToNat, ↓reduceIte, reduceCtorEq, exl, ex_unit9, true_and, encHs_len, strs_length, decide_true]; apply hk; clear hk K) | apply qw8 | apply qw1 | refine qwc lvY19_5 ?_ | apply qt1 | apply qw5 | apply qw2 | apply qw9 | apply qt2 | apply qt3 | apply qt4 | apply qt5 | apply qt6 | apply qw3 | apply qw4 | apply qj1 | apply qj2 | apply qj3 | apply qj4 | apply qj5 | apply qu1 | apply qu2 | ((first | apply qa1 | apply qa2 | apply qa3 | apply qh1 | apply qh2); intro K hk; simp only [go_sem, Nat.reduceEqDiff, Nat.reduceAdd, Nat.reduceLeDiff, Nat.reduceLT, Nat.reduceSub, Int.reduceToNat, ↓reduceIte, reduceCtorEq, exl, ex_unit9, true_and, encHs_len, strs_length, decide_true]; (repeat (refine And.intro ?_ ?_; focus (first | omega | assumption | with_reducible rfl | (simp only [go_sem, Nat.reduceEqDiff, Nat.reduceAdd, Nat.reduceLeDiff, Nat.reduceLT, Nat.reduceSub, Int.reduceToNat, ↓reduceIte, reduceCtorEq, exl, ex_unit9, true_and, encHs_len, strs_length, decide_true]; done)))); intros; apply hk; clear hk K) | ((first | apply qg1 rfl | apply qcd); focus (simp only [go_sem, Nat.reduceEqDiff, Nat.reduceAdd, Nat.reduceLeDiff, Nat.reduceLT, Nat.reduceSub, Int.reduceToNat, ↓reduceIte, reduceCtorEq, exl, ex_unit9, true_and, encHs_len, strs_length, decide_true]; exact rfl)) | (refine qj6 ?_ ?_ <;> intro hc <;> (try simp only [hc]) <;> (try simp only [decide_eq_true_eq, decide_eq_false_iff_not, Bool.not_eq_true', Bool.not_eq_false', Bool.not_eq_true, reduceCtorEq] at hc) <;> (try (exfalso; omega))) | (refine qt7 ?_ ?_; focus decide) | (refine qw7 ?_ ?_ ?_; (focus (decide +kernel)); (focus (decide +kernel))))
    all_goals first
      | (((first | refine fin_ret ?_ | refine fin_end ?_); simp only [go_sem, ↓upd_def, Nat.reduceEqDiff, Nat.reduceAdd, ↓reduceIte, reduceCtorEq])
         exact hK)
      | skip
end Go.Proofs.Ytoocbpendccngaa
