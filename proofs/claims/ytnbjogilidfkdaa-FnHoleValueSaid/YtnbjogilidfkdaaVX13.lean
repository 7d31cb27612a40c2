/- Contracts: readParts. -/
import Derived.Test.YtnbjogilidfkdaaVX9
import Derived.Test.YtnbjogilidfkdaaVXS
import Derived.Test.YtnbjogilidfkdaaVX1
import Derived.Test.YtnbjogilidfkdaaVK10

namespace Go.Proofs.Ytnbjogilidfkdaa
attribute [local irreducible] awp arun acalm FinP Fin AX.then AX.inBlock Again aG gsel amix amixN amixC aop aopc aopd cutK
attribute [local go_sem] aBSliceD aSlice aSliceC boundOf aMk aCall aCallC aLenL aLen aPick_t aPick_f aNil aAlloc aBox aBuild bldPV aBSlice bsPV aApp newsOf destOf drp aConvX aConv aConvInt aLoad cellsAt aStore cellsPV setAt aFld aField aIdx aIndex aUn aBin' aBin aMax aExtract pvOf PV.isCell nmbL PV.nmb List.map_cons List.map_nil List.all_cons List.all_nil Bool.and_true Bool.true_and if_true if_false List.getD_cons_zero List.getD_cons_succ List.getD_nil Option.isSome_some true_and and_true and_self eq_self true_or or_true List.drop_zero List.drop_succ_cons List.drop_nil List.take_zero List.take_succ_cons List.take_nil List.length_cons List.length_nil List.length_map Option.getD_some Option.getD_none List.nil_append List.cons_append List.append_nil Option.some.injEq exists_eq_left' List.getElem?_cons_zero List.getElem?_cons_succ Int.toNat_natCast Int.natCast_inj toNat_succ Nat.zero_add res res1 resC owns owns1 ownsC List.flatMap_cons List.flatMap_nil List.flatten_cons List.flatten_nil List.mem_cons List.not_mem_nil or_false false_or forall_eq forall_eq_or_imp isFro frz frz1 pureC tabA isBld List.cons.injEq PV.seq.injEq PV.int.injEq PV.str.injEq PV.bool.injEq PV.agg.injEq inR tab Γof aRes packR Option.map_some Option.map_none rel Prod.exists exists_and_left exists_eq_left and_assoc beq_self_eq_true Bool.not_true Bool.not_false decide_true decide_false List.set_cons_zero List.set_cons_succ rst_nil rst_cons
attribute [local go_sem ↓] evT upd_def aop aopc aopd
set_option maxRecDepth 100000
set_option linter.unusedVariables false
set_option linter.unusedSimpArgs false
open Go.RowKit
def lvX13_61 : Nat → List Nat
  | 0 => [0, 1]
  | 1 => [0, 1, 7]
  | 2 => [0, 1, 7, 16]
  | 3 => [0, 1, 7, 8]
  | 4 => [0, 1, 7, 8, 20]
  | 5 => [4, 5, 6]
  | 6 => [0, 1, 7, 8, 27]
  | 7 => [0, 1, 7, 8]
  | 8 => [0, 1, 7, 8, 9]
  | 9 => [0, 1, 7, 8, 9, 40]
  | 10 => [4, 5, 6]
  | 11 => [0, 1, 7, 8, 9, 10]
  | 12 => [0, 1, 7, 10]
  | 13 => [0, 1, 7, 10, 11]
  | 14 => [0, 1, 7, 10, 11, 55]
  | 15 => [4, 5, 6]
  | 16 => [0, 1, 7, 10, 11, 65]
  | 17 => [0, 1, 7, 10, 11]
  | 18 => [0, 1, 7, 10, 11]
  | 19 => [0, 1, 7, 10, 11, 70]
  | 20 => [0, 1, 7, 10, 11]
  | 21 => [0, 1, 7, 10, 11]
  | 22 => [0, 1, 7, 10, 11, 76]
  | 23 => [0, 1, 7]
  | 24 => [0, 1, 7, 10, 11, 83]
  | 25 => [4, 5, 6]
  | 26 => [0, 1, 7, 11, 12]
  | 27 => [0, 1, 7, 11, 12]
  | 28 => [0, 1, 7, 11, 12, 13]
  | 29 => [0, 1, 7, 12, 13, 102]
  | 30 => [0, 1, 7, 12, 13]
  | 31 => [0, 1, 7, 12, 113]
  | 32 => [4, 5, 6]
  | 33 => [0, 1, 7]
  | 34 => [4, 5, 6]
  | _ => []
--LV=X13
def rdI (x : Bs × Int) : List PartD × Bs × Bs := rdG kdI (x.1.length + 1) [] x.1 x.2
theorem rdI_eq (s : Bs) (d : Int) : rdI (s, d) = rdG kdI (s.length + 1) [] s d := rfl
theorem rdI_of {f : Nat} {s : Bs} {d : Int} (h : s.length < f) : rdG kdI f [] s d = rdI (s, d) := rdG_fuel kdI f _ [] s d h (Nat.lt_succ_self _)
@[go_sem] def rdC (n : Nat) : PC := rel (α := Bs × Int) (fun x => [.str x.1, .int .i64 x.2]) (fun x => x.1.length < n ∧ x.1.length ≤ 1073741824 ∧ 0 ≤ x.2 ∧ x.2 ≤ 3) (fun x => .tup [.seq (encPs (rdI x).1), .str (rdI x).2.1, .str (rdI x).2.2])
theorem encPs_a5 (xs : List PartD) : (∀ e ∈ encPs xs, e.length = 5) = True := eq_true (encPs_all xs)
theorem enc_tx (out : List PartD) (s : Bs) : encPs out ++ [[.int .i64 1, .str s, .str [], .seq [], .seq []]] = encPs (out ++ [txD s]) := by
  unfold txD; rw [encPs_append, encPs_one, encP_mk, encPs_nil]
theorem enc_hl (out : List PartD) (s : Bs) : encPs out ++ [[.int .i64 2, .str [], .str s, .seq [], .seq []]] = encPs (out ++ [holeD s]) := by
  unfold holeD; rw [encPs_append, encPs_one, encP_mk, encPs_nil]
theorem enc_pt (out : List PartD) (k : Int) (s : Bs) (x y : List PartD) : encPs out ++ [[.int .i64 k, .str [], .str s, .seq (encPs x), .seq (encPs y)]] = encPs (out ++ [.mk k [] s x y]) := by
  rw [encPs_append, encPs_one, encP_mk]
theorem enc_pt0 (out : List PartD) (k : Int) (s : Bs) (x : List PartD) : encPs out ++ [[.int .i64 k, .str [], .str s, .seq (encPs x), .seq []]] = encPs (out ++ [.mk k [] s x []]) := by
  rw [encPs_append, encPs_one, encP_mk, encPs_nil]
set_option maxHeartbeats 8000000 in
theorem rd_i : ∀ n, PureOk Try.prog 61 (rdC n) := by
  intro n
  induction n with
  | zero => exact never_rel Try.func61 (by kernel_rfl) (by kernel_rfl) (fun x h => absurd h.1 (Nat.not_lt_zero _))
  | succ n ih =>
  refine pure_rel 2 (tab_cons index_any (tab_cons pre_any (tab_cons ih tab_nil))) mixed [.tmp 4, .tmp 5, .tmp 6] Try.func61 rfl rfl (by kernel_rfl) (by kernel_rfl) (fun _ => rfl) (by kernel_rfl) ?_
  rintro ⟨s0, d⟩ K ⟨hn, hl, hd0, hd3⟩ hK
  dsimp only at *
  clear ih
  unfold entry
  repeat' (first | ((first | apply qwd | apply qa1 | apply qa2 | apply qa3 | apply qh1 | apply qh2 | apply qg1 rfl | apply qcd); (try intro K hk); focus (simp only [lvX13_61, mkT, go_sem, Nat.reduceEqDiff, Nat.reduceAdd, Nat.reduceLeDiff, Nat.reduceLT, Nat.reduceSub, Int.reduceToNat, ↓reduceIte, reduceCtorEq]; first | exact rfl | ((repeat (refine And.intro ?_ ?_; focus (first | omega | assumption | with_reducible rfl))); intros; apply hk; clear hk K))) | apply qw8 | apply qw1 | refine qwc lvX13_61 ?_ | apply qt1 | apply qw5 | apply qw2 | apply qw9 | apply qt2 | apply qt3 | apply qt4 | apply qt5 | apply qt6 | apply qw3 | apply qw4 | apply qj1 | apply qj2 | apply qj3 | apply qj4 | apply qj5 | apply qu1 | apply qu2 | (refine qj6 ?_ ?_ <;> intro hc <;> (try simp only [hc]) <;> (try simp only [decide_eq_true_eq, decide_eq_false_iff_not, Bool.not_eq_true', Bool.not_eq_false', Bool.not_eq_true, reduceCtorEq] at hc) <;> (try (exfalso; omega))) | (refine qt7 ?_ ?_; focus decide) | (refine qw7 ?_ ?_ ?_; (focus (decide +kernel)); (focus (decide +kernel))))
  generalize hR : rdI (s0, d) = R at hK
  refine s_loop (ι := Bs × List PartD) (fun i => [(0, .str i.1), (1, .int .i64 d), (7, .own 0)]) (fun i => [(0, .row 103 5 (encPs i.2))]) 1 (fun i => i.1.length ≤ s0.length ∧ i.2.length + i.1.length ≤ s0.length ∧ rdG kdI (i.1.length + 1) i.2 i.1 d = R) (fun i => i.1.length) (s0, []) (by omega) ⟨Nat.le_refl _, by simp, hR⟩ ?_ ?_
  · simp [fits, fitsT, fitsM, upd_def, PV.nmb, nmbL, MB.nmb, List.getD_cons_zero, List.getD_cons_succ, encPs_nil]
  rintro ⟨s, out⟩ ⟨hs, ho, he⟩
  dsimp only at *
  clear hR
  have hxa := encPs_all out
  simp only [mkS, mkT, mkM]
  rw [rdG_succ] at he
  by_cases h0 : s = []
  · rw [if_pos h0] at he
    subst h0 he
    repeat' (first | ((first | apply qwd | apply qa1 | apply qa2 | apply qa3 | apply qh1 | apply qh2 | apply qg1 rfl | apply qcd); (try intro K hk); focus (simp only [lvX13_61, mkT, go_sem, Nat.reduceEqDiff, Nat.reduceAdd, Nat.reduceLeDiff, Nat.reduceLT, Nat.reduceSub, Int.reduceToNat, ↓reduceIte, reduceCtorEq]; first | exact rfl | ((repeat (refine And.intro ?_ ?_; focus (first | omega | assumption | with_reducible rfl))); intros; apply hk; clear hk K))) | apply qw8 | apply qw1 | refine qwc lvX13_61 ?_ | apply qt1 | apply qw5 | apply qw2 | apply qw9 | apply qt2 | apply qt3 | apply qt4 | apply qt5 | apply qt6 | apply qw3 | apply qw4 | apply qj1 | apply qj2 | apply qj3 | apply qj4 | apply qj5 | apply qu1 | apply qu2 | (refine qj6 ?_ ?_ <;> intro hc <;> (try simp only [hc]) <;> (try simp only [decide_eq_true_eq, decide_eq_false_iff_not, Bool.not_eq_true', Bool.not_eq_false', Bool.not_eq_true, reduceCtorEq] at hc) <;> (try (exfalso; omega))) | (refine qt7 ?_ ?_; focus decide) | (refine qw7 ?_ ?_ ?_; (focus (decide +kernel)); (focus (decide +kernel))))
    all_goals first
      | (((first | refine fin_ret ?_ | refine fin_end ?_); simp only [go_sem, ↓upd_def, Nat.reduceEqDiff, Nat.reduceAdd, ↓reduceIte, reduceCtorEq])
         exact hK)
      | skip
  by_cases h1 : ix1 s < 0
  · rw [if_neg h0, if_pos h1] at he
    subst he
    have h1' : Lib.index s [123, 123] < 0 := h1
    repeat' (first | ((first | apply qwd | apply qa1 | apply qa2 | apply qa3 | apply qh1 | apply qh2 | apply qg1 rfl | apply qcd); (try intro K hk); focus (simp only [lvX13_61, mkT, go_sem, Nat.reduceEqDiff, Nat.reduceAdd, Nat.reduceLeDiff, Nat.reduceLT, Nat.reduceSub, Int.reduceToNat, ↓reduceIte, reduceCtorEq, h0, h1', decide_true, decide_false, encPs_iff, enc_tx]; first | exact rfl | ((repeat (refine And.intro ?_ ?_; focus (first | omega | assumption | with_reducible rfl))); intros; apply hk; clear hk K))) | apply qw8 | apply qw1 | refine qwc lvX13_61 ?_ | apply qt1 | apply qw5 | apply qw2 | apply qw9 | apply qt2 | apply qt3 | apply qt4 | apply qt5 | apply qt6 | apply qw3 | apply qw4 | apply qj1 | apply qj2 | apply qj3 | apply qj4 | apply qj5 | apply qu1 | apply qu2 | (refine qj6 ?_ ?_ <;> intro hc <;> (try simp only [hc]) <;> (try simp only [decide_eq_true_eq, decide_eq_false_iff_not, Bool.not_eq_true', Bool.not_eq_false', Bool.not_eq_true, reduceCtorEq] at hc) <;> (try (exfalso; omega))) | (refine qt7 ?_ ?_; focus decide) | (refine qw7 ?_ ?_ ?_; (focus (decide +kernel)); (focus (decide +kernel))))
    all_goals first
      | (((first | refine fin_ret ?_ | refine fin_end ?_); simp only [go_sem, ↓upd_def, Nat.reduceEqDiff, Nat.reduceAdd, ↓reduceIte, reduceCtorEq])
         exact hK)
      | skip
  obtain ⟨a, ha⟩ := Int.eq_ofNat_of_zero_le (show 0 ≤ ix1 s by omega)
  have ha' : Lib.index s [123, 123] = (a : Int) := ha
  have hal : a + 2 ≤ s.length := by
    have hr : ix1 s + 2 ≤ s.length := Lib.index_room s [123, 123] (show 0 ≤ ix1 s by omega)
    omega
  have ha0 : ((a : Int) < 0) = False := eq_false (by omega)
  by_cases h2 : ix2 s < 0
  · have h2' : Lib.index (s.drop a) [125, 125] < 0 := by
      have : ix2 s = Lib.index (s.drop (ix1 s).toNat) [125, 125] := rfl
      rw [ha, Int.toNat_natCast] at this
      rw [← this]; exact h2
    rw [if_neg h0, if_neg h1, if_pos h2] at he
    subst he
    repeat' (first | ((first | apply qwd | apply qa1 | apply qa2 | apply qa3 | apply qh1 | apply qh2 | apply qg1 rfl | apply qcd); (try intro K hk); focus (simp only [lvX13_61, mkT, go_sem, Nat.reduceEqDiff, Nat.reduceAdd, Nat.reduceLeDiff, Nat.reduceLT, Nat.reduceSub, Int.reduceToNat, ↓reduceIte, reduceCtorEq, h0, ha', ha0, h2', decide_true, decide_false, encPs_iff, Int.toNat_natCast, List.drop_zero, List.take_length, enc_tx, enc_hl, enc_pt, enc_pt0, encPs_a5, encPs_length, List.length_append, List.length_cons, List.length_nil, List.length_drop, List.length_take]; first | exact rfl | ((repeat (refine And.intro ?_ ?_; focus (first | omega | assumption | with_reducible rfl))); intros; apply hk; clear hk K))) | apply qw8 | apply qw1 | refine qwc lvX13_61 ?_ | apply qt1 | apply qw5 | apply qw2 | apply qw9 | apply qt2 | apply qt3 | apply qt4 | apply qt5 | apply qt6 | apply qw3 | apply qw4 | apply qj1 | apply qj2 | apply qj3 | apply qj4 | apply qj5 | apply qu1 | apply qu2 | (refine qj6 ?_ ?_ <;> intro hc <;> (try simp only [hc]) <;> (try simp only [decide_eq_true_eq, decide_eq_false_iff_not, Bool.not_eq_true', Bool.not_eq_false', Bool.not_eq_true, reduceCtorEq] at hc) <;> (try (exfalso; omega))) | (refine qt7 ?_ ?_; focus decide) | (refine qw7 ?_ ?_ ?_; (focus (decide +kernel)); (focus (decide +kernel))))
    all_goals first
      | (((first | refine fin_ret ?_ | refine fin_end ?_); simp only [go_sem, ↓upd_def, Nat.reduceEqDiff, Nat.reduceAdd, ↓reduceIte, reduceCtorEq])
         exact hK)
      | skip
  obtain ⟨a', b, ha2, hb, h3, h4, e1, e2, e3⟩ := tag_at h1 h2
  obtain rfl : a = a' := by rw [ha'] at ha2; omega
  clear ha2
  have hb0 : ((b : Int) < 0) = False := eq_false (by omega)
  rw [if_neg h0, if_neg h1, if_neg h2] at he
  have hwl : (wdR s).length + 2 + (rsR s).length ≤ s.length := by
    rw [e1, e2, List.length_drop, List.length_drop, List.length_take]; omega
  have g1 : ∀ o, (rdG kdI s.length o (rsR s) d) = rdG kdI ((rsR s).length + 1) o (rsR s) d := fun o => rdG_fuel kdI _ _ o _ _ (by omega) (by omega)
  have g2 : rdG kdI s.length [] (rsR s) (d + 1) = rdI (rsR s, d + 1) := rdI_of (by omega)
  rw [g1, g2] at he
  have g3 : (rdI (rsR s, d + 1)).2.1.length ≤ (rsR s).length := rdG_len _ _ _ _ _
  dsimp only at he
  have g4 : rdG kdI s.length [] (rdI (rsR s, d + 1)).2.1 (d + 1) = rdI ((rdI (rsR s, d + 1)).2.1, d + 1) := rdI_of (by omega)
  have g5 : (rdI ((rdI (rsR s, d + 1)).2.1, d + 1)).2.1.length ≤ (rdI (rsR s, d + 1)).2.1.length := rdG_len _ _ _ _ _
  have g6 : ∀ r o, r.length + 2 ≤ s.length → (rdG kdI s.length o r d) = rdG kdI (r.length + 1) o r d := fun r o h => rdG_fuel kdI _ _ o _ _ (by omega) (by omega)
  rw [g4] at he
  rw [e3, e1, e2] at he
  have hww : ((s.take (a + b)).drop (a + 2)).length = b - 2 := by rw [List.length_drop, List.length_take]; omega
  rw [e1, e2, List.length_drop] at hwl
  rw [e2] at g3 g5
  clear g1 g2 g4 e1 e2 e3
  have n1 : ((a : Int) + 2).toNat = a + 2 := by omega
  have n2 : ((a : Int) + b).toNat = a + b := by omega
  have n3 : ((a : Int) + b + 2).toNat = a + b + 2 := by omega
  have hzz : (s.drop (a + b + 2)).length = s.length - (a + b + 2) := List.length_drop
  generalize hw : (s.take (a + b)).drop (a + 2) = w at *
  generalize hz : s.drop (a + b + 2) = z at *
  generalize htx : s.take a = tx at *
  have hwz : w.length = b - 2 := hww
  clear hww
  have hz0 : z.length = s.length - (a + b + 2) := hzz
  clear hwl hzz
  rcases Bool.eq_false_or_eq_true ([101, 97, 99, 104, 32].isPrefixOf w) with hE | hE
  · have hk : kdI w = 4 := by unfold kdI; exact if_pos hE
    have hnm : nmI w = w.drop 5 := by unfold nmI; exact if_pos hE
    have hpl : 5 ≤ w.length := by obtain ⟨q, rfl⟩ := List.isPrefixOf_iff_prefix.1 hE; simp
    simp only [hk, hnm, show ((4 : Int) = 0) = False by simp, show ((4 : Int) = 3) = False by simp, and_false, if_false] at he
    by_cases hca : 0 < a
    all_goals
      simp only [hca, if_true, if_false] at he
      repeat' (first | ((first | apply qwd | apply qa1 | apply qa2 | apply qa3 | apply qh1 | apply qh2 | apply qg1 rfl | apply qcd); (try intro K hk); focus (simp only [lvX13_61, mkT, go_sem, Nat.reduceEqDiff, Nat.reduceAdd, Nat.reduceLeDiff, Nat.reduceLT, Nat.reduceSub, Int.reduceToNat, ↓reduceIte, reduceCtorEq, h0, ha', ha0, hb, hb0, n1, n2, n3, hw, hz, htx, hE, List.nil_append, decide_true, decide_false, encPs_iff, Int.toNat_natCast, List.drop_zero, List.take_length, enc_tx, enc_hl, enc_pt, enc_pt0, encPs_a5, encPs_length, List.length_append, List.length_cons, List.length_nil, List.length_drop, List.length_take]; first | exact rfl | ((repeat (refine And.intro ?_ ?_; focus (first | omega | assumption | with_reducible rfl))); intros; apply hk; clear hk K))) | apply qw8 | apply qw1 | refine qwc lvX13_61 ?_ | apply qt1 | apply qw5 | apply qw2 | apply qw9 | apply qt2 | apply qt3 | apply qt4 | apply qt5 | apply qt6 | apply qw3 | apply qw4 | apply qj1 | apply qj2 | apply qj3 | apply qj4 | apply qj5 | apply qu1 | apply qu2 | (refine qj6 ?_ ?_ <;> intro hc <;> (try simp only [hc]) <;> (try simp only [decide_eq_true_eq, decide_eq_false_iff_not, Bool.not_eq_true', Bool.not_eq_false', Bool.not_eq_true, reduceCtorEq] at hc) <;> (try (exfalso; omega))) | (refine qt7 ?_ ?_; focus decide) | (refine qw7 ?_ ?_ ?_; (focus (decide +kernel)); (focus (decide +kernel))))
      all_goals first
       | (((first | refine fin_ret ?_ | refine fin_end ?_); simp only [go_sem, ↓upd_def, Nat.reduceEqDiff, Nat.reduceAdd, ↓reduceIte, reduceCtorEq])
          rw [if_pos (show w = wEnd ∨ w = wElse from Or.inl ‹w = [101, 110, 100]›)] at he
          subst he
          exact hK)
       | (((first | refine fin_ret ?_ | refine fin_end ?_); simp only [go_sem, ↓upd_def, Nat.reduceEqDiff, Nat.reduceAdd, ↓reduceIte, reduceCtorEq])
          rw [if_pos (show w = wEnd ∨ w = wElse from Or.inr ‹w = [101, 108, 115, 101]›)] at he
          subst he
          exact hK)
       | (((first | refine fin_ret ?_ | refine fin_end ?_); simp only [go_sem, ↓upd_def, Nat.reduceEqDiff, Nat.reduceAdd, ↓reduceIte, reduceCtorEq])
          rw [if_neg (fun h : w = wEnd ∨ w = wElse => h.elim ‹¬ w = [101, 110, 100]› ‹¬ w = [101, 108, 115, 101]›), if_pos ‹3 ≤ d›] at he
          subst he
          exact hK)
       | (((first | refine fin_ret ?_ | refine fin_end ?_); simp only [go_sem, ↓upd_def, Nat.reduceEqDiff, Nat.reduceAdd, ↓reduceIte, reduceCtorEq])
          rw [if_neg (fun h : w = wEnd ∨ w = wElse => h.elim ‹¬ w = [101, 110, 100]› ‹¬ w = [101, 108, 115, 101]›), if_neg ‹¬ 3 ≤ d›, if_neg (show ¬ (rdI (z, d + 1)).2.2 = wEnd from ‹¬ (rdI (z, d + 1)).2.2 = [101, 110, 100]›)] at he
          subst he
          exact hK)
       | (rw [if_neg (fun h : w = wEnd ∨ w = wElse => h.elim ‹¬ w = [101, 110, 100]› ‹¬ w = [101, 108, 115, 101]›), if_neg ‹¬ 3 ≤ d›, if_pos (show (rdI (z, d + 1)).2.2 = wEnd from ‹(rdI (z, d + 1)).2.2 = [101, 110, 100]›)] at he
          refine s_againR (((rdI (z, d + 1)).2.1, out ++ [txD tx] ++ [.mk 4 [] (w.drop 5) (rdI (z, d + 1)).1 []])) (fun i => if i = 0 then 5 else i) ?_ ?_ ?_ ?_ ?_ ?_ <;> (first | omega | (dsimp only; omega) | (intro i hi; (try dsimp only); (repeat' split) <;> omega) | (intro i j hi hj h; (try dsimp only at h); (repeat' split at h) <;> omega) | skip)
          · refine ⟨by dsimp only; omega, by simp only [List.length_append, List.length_cons, List.length_nil]; omega, ?_⟩
            (try dsimp only at he)
            rw [g6 _ _ (by omega)] at he
            exact he
          all_goals (simp [fitsTR, fitsMR, PV.ren, renL, MB.ren, upd_def, PV.nmb, nmbL, MB.nmb, List.getD_cons_zero, List.getD_cons_succ, frz, drp]; done))
       | (rw [if_neg (fun h : w = wEnd ∨ w = wElse => h.elim ‹¬ w = [101, 110, 100]› ‹¬ w = [101, 108, 115, 101]›), if_neg ‹¬ 3 ≤ d›, if_pos (show (rdI (z, d + 1)).2.2 = wEnd from ‹(rdI (z, d + 1)).2.2 = [101, 110, 100]›)] at he
          refine s_againR (((rdI (z, d + 1)).2.1, out ++ [.mk 4 [] (w.drop 5) (rdI (z, d + 1)).1 []])) (fun i => if i = 0 then 3 else i) ?_ ?_ ?_ ?_ ?_ ?_ <;> (first | omega | (dsimp only; omega) | (intro i hi; (try dsimp only); (repeat' split) <;> omega) | (intro i j hi hj h; (try dsimp only at h); (repeat' split at h) <;> omega) | skip)
          · refine ⟨by dsimp only; omega, by simp only [List.length_append, List.length_cons, List.length_nil]; omega, ?_⟩
            (try dsimp only at he)
            rw [g6 _ _ (by omega)] at he
            exact he
          all_goals (simp [fitsTR, fitsMR, PV.ren, renL, MB.ren, upd_def, PV.nmb, nmbL, MB.nmb, List.getD_cons_zero, List.getD_cons_succ, frz, drp]; done))
       | skip
  have hE0 : ¬ List.isPrefixOf eachP w = true := fun h => absurd (hE.symm.trans h) (by decide)
  rcases Bool.eq_false_or_eq_true ([105, 102, 32].isPrefixOf w) with hI | hI
  · have hk : kdI w = 3 := by unfold kdI; rw [if_neg hE0]; exact if_pos hI
    have hnm : nmI w = w.drop 3 := by unfold nmI; rw [if_neg hE0]
    have hpl : 3 ≤ w.length := by obtain ⟨q, rfl⟩ := List.isPrefixOf_iff_prefix.1 hI; simp
    simp only [hk, hnm, show ((3 : Int) = 0) = False by simp, and_true, if_false] at he
    by_cases hca : 0 < a
    all_goals
      simp only [hca, if_true, if_false] at he
      repeat' (first | ((first | apply qwd | apply qa1 | apply qa2 | apply qa3 | apply qh1 | apply qh2 | apply qg1 rfl | apply qcd); (try intro K hk); focus (simp only [lvX13_61, mkT, go_sem, Nat.reduceEqDiff, Nat.reduceAdd, Nat.reduceLeDiff, Nat.reduceLT, Nat.reduceSub, Int.reduceToNat, ↓reduceIte, reduceCtorEq, h0, ha', ha0, hb, hb0, n1, n2, n3, hw, hz, htx, hE, hI, List.nil_append, decide_true, decide_false, encPs_iff, Int.toNat_natCast, List.drop_zero, List.take_length, enc_tx, enc_hl, enc_pt, enc_pt0, encPs_a5, encPs_length, List.length_append, List.length_cons, List.length_nil, List.length_drop, List.length_take]; first | exact rfl | ((repeat (refine And.intro ?_ ?_; focus (first | omega | assumption | with_reducible rfl))); intros; apply hk; clear hk K))) | apply qw8 | apply qw1 | refine qwc lvX13_61 ?_ | apply qt1 | apply qw5 | apply qw2 | apply qw9 | apply qt2 | apply qt3 | apply qt4 | apply qt5 | apply qt6 | apply qw3 | apply qw4 | apply qj1 | apply qj2 | apply qj3 | apply qj4 | apply qj5 | apply qu1 | apply qu2 | (refine qj6 ?_ ?_ <;> intro hc <;> (try simp only [hc]) <;> (try simp only [decide_eq_true_eq, decide_eq_false_iff_not, Bool.not_eq_true', Bool.not_eq_false', Bool.not_eq_true, reduceCtorEq] at hc) <;> (try (exfalso; omega))) | (refine qt7 ?_ ?_; focus decide) | (refine qw7 ?_ ?_ ?_; (focus (decide +kernel)); (focus (decide +kernel))))
      all_goals first
       | (((first | refine fin_ret ?_ | refine fin_end ?_); simp only [go_sem, ↓upd_def, Nat.reduceEqDiff, Nat.reduceAdd, ↓reduceIte, reduceCtorEq])
          rw [if_pos (show w = wEnd ∨ w = wElse from Or.inl ‹w = [101, 110, 100]›)] at he
          subst he
          exact hK)
       | (((first | refine fin_ret ?_ | refine fin_end ?_); simp only [go_sem, ↓upd_def, Nat.reduceEqDiff, Nat.reduceAdd, ↓reduceIte, reduceCtorEq])
          rw [if_pos (show w = wEnd ∨ w = wElse from Or.inr ‹w = [101, 108, 115, 101]›)] at he
          subst he
          exact hK)
       | (((first | refine fin_ret ?_ | refine fin_end ?_); simp only [go_sem, ↓upd_def, Nat.reduceEqDiff, Nat.reduceAdd, ↓reduceIte, reduceCtorEq])
          rw [if_neg (fun h : w = wEnd ∨ w = wElse => h.elim ‹¬ w = [101, 110, 100]› ‹¬ w = [101, 108, 115, 101]›), if_pos ‹3 ≤ d›] at he
          subst he
          exact hK)
       | (((first | refine fin_ret ?_ | refine fin_end ?_); simp only [go_sem, ↓upd_def, Nat.reduceEqDiff, Nat.reduceAdd, ↓reduceIte, reduceCtorEq])
          rw [if_neg (fun h : w = wEnd ∨ w = wElse => h.elim ‹¬ w = [101, 110, 100]› ‹¬ w = [101, 108, 115, 101]›), if_neg ‹¬ 3 ≤ d›, if_pos (show (rdI (z, d + 1)).2.2 = wElse from ‹(rdI (z, d + 1)).2.2 = [101, 108, 115, 101]›), if_neg (show ¬ (rdI ((rdI (z, d + 1)).2.1, d + 1)).2.2 = wEnd from ‹¬ (rdI ((rdI (z, d + 1)).2.1, d + 1)).2.2 = [101, 110, 100]›)] at he
          subst he
          exact hK)
       | (((first | refine fin_ret ?_ | refine fin_end ?_); simp only [go_sem, ↓upd_def, Nat.reduceEqDiff, Nat.reduceAdd, ↓reduceIte, reduceCtorEq])
          rw [if_neg (fun h : w = wEnd ∨ w = wElse => h.elim ‹¬ w = [101, 110, 100]› ‹¬ w = [101, 108, 115, 101]›), if_neg ‹¬ 3 ≤ d›, if_neg (show ¬ (rdI (z, d + 1)).2.2 = wElse from ‹¬ (rdI (z, d + 1)).2.2 = [101, 108, 115, 101]›), if_neg (show ¬ (rdI (z, d + 1)).2.2 = wEnd from ‹¬ (rdI (z, d + 1)).2.2 = [101, 110, 100]›)] at he
          subst he
          exact hK)
       | (rw [if_neg (fun h : w = wEnd ∨ w = wElse => h.elim ‹¬ w = [101, 110, 100]› ‹¬ w = [101, 108, 115, 101]›), if_neg ‹¬ 3 ≤ d›, if_pos (show (rdI (z, d + 1)).2.2 = wElse from ‹(rdI (z, d + 1)).2.2 = [101, 108, 115, 101]›), if_pos (show (rdI ((rdI (z, d + 1)).2.1, d + 1)).2.2 = wEnd from ‹(rdI ((rdI (z, d + 1)).2.1, d + 1)).2.2 = [101, 110, 100]›)] at he
          refine s_againR (((rdI ((rdI (z, d + 1)).2.1, d + 1)).2.1, out ++ [txD tx] ++ [.mk 3 [] (w.drop 3) (rdI (z, d + 1)).1 (rdI ((rdI (z, d + 1)).2.1, d + 1)).1])) (fun i => if i = 0 then 5 else i) ?_ ?_ ?_ ?_ ?_ ?_ <;> (first | omega | (dsimp only; omega) | (intro i hi; (try dsimp only); (repeat' split) <;> omega) | (intro i j hi hj h; (try dsimp only at h); (repeat' split at h) <;> omega) | skip)
          · refine ⟨by dsimp only; omega, by simp only [List.length_append, List.length_cons, List.length_nil]; omega, ?_⟩
            (try dsimp only at he)
            rw [g6 _ _ (by omega)] at he
            exact he
          all_goals (simp [fitsTR, fitsMR, PV.ren, renL, MB.ren, upd_def, PV.nmb, nmbL, MB.nmb, List.getD_cons_zero, List.getD_cons_succ, frz, drp]; done))
       | (rw [if_neg (fun h : w = wEnd ∨ w = wElse => h.elim ‹¬ w = [101, 110, 100]› ‹¬ w = [101, 108, 115, 101]›), if_neg ‹¬ 3 ≤ d›, if_pos (show (rdI (z, d + 1)).2.2 = wElse from ‹(rdI (z, d + 1)).2.2 = [101, 108, 115, 101]›), if_pos (show (rdI ((rdI (z, d + 1)).2.1, d + 1)).2.2 = wEnd from ‹(rdI ((rdI (z, d + 1)).2.1, d + 1)).2.2 = [101, 110, 100]›)] at he
          refine s_againR (((rdI ((rdI (z, d + 1)).2.1, d + 1)).2.1, out ++ [.mk 3 [] (w.drop 3) (rdI (z, d + 1)).1 (rdI ((rdI (z, d + 1)).2.1, d + 1)).1])) (fun i => if i = 0 then 3 else i) ?_ ?_ ?_ ?_ ?_ ?_ <;> (first | omega | (dsimp only; omega) | (intro i hi; (try dsimp only); (repeat' split) <;> omega) | (intro i j hi hj h; (try dsimp only at h); (repeat' split at h) <;> omega) | skip)
          · refine ⟨by dsimp only; omega, by simp only [List.length_append, List.length_cons, List.length_nil]; omega, ?_⟩
            (try dsimp only at he)
            rw [g6 _ _ (by omega)] at he
            exact he
          all_goals (simp [fitsTR, fitsMR, PV.ren, renL, MB.ren, upd_def, PV.nmb, nmbL, MB.nmb, List.getD_cons_zero, List.getD_cons_succ, frz, drp]; done))
       | (rw [if_neg (fun h : w = wEnd ∨ w = wElse => h.elim ‹¬ w = [101, 110, 100]› ‹¬ w = [101, 108, 115, 101]›), if_neg ‹¬ 3 ≤ d›, if_neg (show ¬ (rdI (z, d + 1)).2.2 = wElse from ‹¬ (rdI (z, d + 1)).2.2 = [101, 108, 115, 101]›), if_pos (show (rdI (z, d + 1)).2.2 = wEnd from ‹(rdI (z, d + 1)).2.2 = [101, 110, 100]›)] at he
          refine s_againR (((rdI (z, d + 1)).2.1, out ++ [txD tx] ++ [.mk 3 [] (w.drop 3) (rdI (z, d + 1)).1 []])) (fun i => if i = 0 then 5 else i) ?_ ?_ ?_ ?_ ?_ ?_ <;> (first | omega | (dsimp only; omega) | (intro i hi; (try dsimp only); (repeat' split) <;> omega) | (intro i j hi hj h; (try dsimp only at h); (repeat' split at h) <;> omega) | skip)
          · refine ⟨by dsimp only; omega, by simp only [List.length_append, List.length_cons, List.length_nil]; omega, ?_⟩
            (try dsimp only at he)
            rw [g6 _ _ (by omega)] at he
            exact he
          all_goals (simp [fitsTR, fitsMR, PV.ren, renL, MB.ren, upd_def, PV.nmb, nmbL, MB.nmb, List.getD_cons_zero, List.getD_cons_succ, frz, drp]; done))
       | (rw [if_neg (fun h : w = wEnd ∨ w = wElse => h.elim ‹¬ w = [101, 110, 100]› ‹¬ w = [101, 108, 115, 101]›), if_neg ‹¬ 3 ≤ d›, if_neg (show ¬ (rdI (z, d + 1)).2.2 = wElse from ‹¬ (rdI (z, d + 1)).2.2 = [101, 108, 115, 101]›), if_pos (show (rdI (z, d + 1)).2.2 = wEnd from ‹(rdI (z, d + 1)).2.2 = [101, 110, 100]›)] at he
          refine s_againR (((rdI (z, d + 1)).2.1, out ++ [.mk 3 [] (w.drop 3) (rdI (z, d + 1)).1 []])) (fun i => if i = 0 then 3 else i) ?_ ?_ ?_ ?_ ?_ ?_ <;> (first | omega | (dsimp only; omega) | (intro i hi; (try dsimp only); (repeat' split) <;> omega) | (intro i j hi hj h; (try dsimp only at h); (repeat' split at h) <;> omega) | skip)
          · refine ⟨by dsimp only; omega, by simp only [List.length_append, List.length_cons, List.length_nil]; omega, ?_⟩
            (try dsimp only at he)
            rw [g6 _ _ (by omega)] at he
            exact he
          all_goals (simp [fitsTR, fitsMR, PV.ren, renL, MB.ren, upd_def, PV.nmb, nmbL, MB.nmb, List.getD_cons_zero, List.getD_cons_succ, frz, drp]; done))
       | skip
  · have hI0 : ¬ List.isPrefixOf ifP w = true := fun h => absurd (hI.symm.trans h) (by decide)
    have hk : kdI w = 0 := by unfold kdI; rw [if_neg hE0, if_neg hI0]
    simp only [hk, if_true] at he
    by_cases hca : 0 < a
    all_goals
      simp only [hca, if_true, if_false] at he
      repeat' (first | ((first | apply qwd | apply qa1 | apply qa2 | apply qa3 | apply qh1 | apply qh2 | apply qg1 rfl | apply qcd); (try intro K hk); focus (simp only [lvX13_61, mkT, go_sem, Nat.reduceEqDiff, Nat.reduceAdd, Nat.reduceLeDiff, Nat.reduceLT, Nat.reduceSub, Int.reduceToNat, ↓reduceIte, reduceCtorEq, h0, ha', ha0, hb, hb0, n1, n2, n3, hw, hz, htx, hE, hI, List.nil_append, decide_true, decide_false, encPs_iff, Int.toNat_natCast, List.drop_zero, List.take_length, enc_tx, enc_hl, enc_pt, enc_pt0, encPs_a5, encPs_length, List.length_append, List.length_cons, List.length_nil, List.length_drop, List.length_take]; first | exact rfl | ((repeat (refine And.intro ?_ ?_; focus (first | omega | assumption | with_reducible rfl))); intros; apply hk; clear hk K))) | apply qw8 | apply qw1 | refine qwc lvX13_61 ?_ | apply qt1 | apply qw5 | apply qw2 | apply qw9 | apply qt2 | apply qt3 | apply qt4 | apply qt5 | apply qt6 | apply qw3 | apply qw4 | apply qj1 | apply qj2 | apply qj3 | apply qj4 | apply qj5 | apply qu1 | apply qu2 | (refine qj6 ?_ ?_ <;> intro hc <;> (try simp only [hc]) <;> (try simp only [decide_eq_true_eq, decide_eq_false_iff_not, Bool.not_eq_true', Bool.not_eq_false', Bool.not_eq_true, reduceCtorEq] at hc) <;> (try (exfalso; omega))) | (refine qt7 ?_ ?_; focus decide) | (refine qw7 ?_ ?_ ?_; (focus (decide +kernel)); (focus (decide +kernel))))
      all_goals first
       | (((first | refine fin_ret ?_ | refine fin_end ?_); simp only [go_sem, ↓upd_def, Nat.reduceEqDiff, Nat.reduceAdd, ↓reduceIte, reduceCtorEq])
          rw [if_pos (show w = wEnd ∨ w = wElse from Or.inl ‹w = [101, 110, 100]›)] at he
          subst he
          exact hK)
       | (((first | refine fin_ret ?_ | refine fin_end ?_); simp only [go_sem, ↓upd_def, Nat.reduceEqDiff, Nat.reduceAdd, ↓reduceIte, reduceCtorEq])
          rw [if_pos (show w = wEnd ∨ w = wElse from Or.inr ‹w = [101, 108, 115, 101]›)] at he
          subst he
          exact hK)
       | (rw [if_neg (fun h : w = wEnd ∨ w = wElse => h.elim ‹¬ w = [101, 110, 100]› ‹¬ w = [101, 108, 115, 101]›)] at he
          refine s_againR ((z, out ++ [txD tx] ++ [holeD w])) (fun i => if i = 0 then 4 else i) ?_ ?_ ?_ ?_ ?_ ?_ <;> (first | omega | (dsimp only; omega) | (intro i hi; (try dsimp only); (repeat' split) <;> omega) | (intro i j hi hj h; (try dsimp only at h); (repeat' split at h) <;> omega) | skip)
          · refine ⟨by dsimp only; omega, by simp only [List.length_append, List.length_cons, List.length_nil]; omega, ?_⟩
            exact he
          all_goals (simp [fitsTR, fitsMR, PV.ren, renL, MB.ren, upd_def, PV.nmb, nmbL, MB.nmb, List.getD_cons_zero, List.getD_cons_succ, frz, drp]; done))
       | (rw [if_neg (fun h : w = wEnd ∨ w = wElse => h.elim ‹¬ w = [101, 110, 100]› ‹¬ w = [101, 108, 115, 101]›)] at he
          refine s_againR ((z, out ++ [holeD w])) (fun i => if i = 0 then 2 else i) ?_ ?_ ?_ ?_ ?_ ?_ <;> (first | omega | (dsimp only; omega) | (intro i hi; (try dsimp only); (repeat' split) <;> omega) | (intro i j hi hj h; (try dsimp only at h); (repeat' split at h) <;> omega) | skip)
          · refine ⟨by dsimp only; omega, by simp only [List.length_append, List.length_cons, List.length_nil]; omega, ?_⟩
            exact he
          all_goals (simp [fitsTR, fitsMR, PV.ren, renL, MB.ren, upd_def, PV.nmb, nmbL, MB.nmb, List.getD_cons_zero, List.getD_cons_succ, frz, drp]; done))
       | skip
@[go_sem] noncomputable def rtQ : PC := rel (α := Bs) (fun s => [.str s]) (fun s => s.length ≤ 1073741824) (fun s => .tup [.seq (encPs ((readM s).getD [])), .bool (readM s).isSome])
theorem rd_ic : PureOk Try.prog 61 (rel (α := Bs × Int) (fun x => [.str x.1, .int .i64 x.2]) (fun x => x.1.length ≤ 1073741824 ∧ 0 ≤ x.2 ∧ x.2 ≤ 3) (fun x => .tup [.seq (encPs (rdI x).1), .str (rdI x).2.1, .str (rdI x).2.2])) := rel_all (fun x : Bs × Int => x.1.length) rd_i
theorem rt_i : PureOk Try.prog 27 rtQ := by
  refine pure_rel 1 (tab_cons rd_ic (tab_cons pv_i (tab_cons txt_ic tab_nil))) mixed [.tmp 2, .tmp 3] Try.func27 rfl rfl (by kernel_rfl) (by kernel_rfl) (fun _ => rfl) (by kernel_rfl) ?_
  rintro s K hl hK
  have hw := rdG_wt kdI (s.length + 1) [] s 0
  rw [← rdI_eq, wtL_nil] at hw
  have ht := read_test kdI_ok s
  rw [← rdI_eq] at ht
  unfold entry
  repeat' (first | ((first | apply qa1 | apply qa2 | apply qa3 | apply qh1 | apply qh2 | apply qg1 rfl | apply qcd); (try intro K hk); focus (simp only [go_sem, Nat.reduceEqDiff, Nat.reduceAdd, Nat.reduceLeDiff, Nat.reduceLT, Nat.reduceSub, Int.reduceToNat, ↓reduceIte, reduceCtorEq]; first | exact rfl | ((repeat (refine And.intro ?_ ?_; focus (first | omega | assumption | with_reducible rfl))); intros; apply hk; clear hk K))) | apply qw8 | apply qw1 | apply qw6 | apply qt1 | apply qw5 | apply qw2 | apply qw9 | apply qt2 | apply qt3 | apply qt4 | apply qt5 | apply qt6 | apply qw3 | apply qw4 | apply qj1 | apply qj2 | apply qj3 | apply qj4 | apply qj5 | apply qu1 | apply qu2 | (refine qj6 ?_ ?_ <;> intro hc <;> (try simp only [hc]) <;> (try simp only [decide_eq_true_eq, decide_eq_false_iff_not, Bool.not_eq_true', Bool.not_eq_false', Bool.not_eq_true, reduceCtorEq] at hc) <;> (try (exfalso; omega))) | (refine qt7 ?_ ?_; focus decide) | (refine qw7 ?_ ?_ ?_; (focus (decide +kernel)); (focus (decide +kernel))))
  all_goals
    ((first | refine fin_ret ?_ | refine fin_end ?_); simp only [go_sem, ↓upd_def, Nat.reduceEqDiff, Nat.reduceAdd, ↓reduceIte, reduceCtorEq])
    refine K_eq hK ?_
    clear hK
    rw [← ht]
    simp [*, encPs_nil]
end Go.Proofs.Ytnbjogilidfkdaa
