/- Contracts: valid parts. -/
import Derived.Test.YtnbjogilidfkdaaVX8
import Derived.Test.YtnbjogilidfkdaaVXS
import Derived.Test.YtnbjogilidfkdaaVX1
import Derived.Test.YtnbjogilidfkdaaVTY

namespace Go.Proofs.Ytnbjogilidfkdaa
attribute [local irreducible] awp arun acalm FinP Fin AX.then AX.inBlock Again aG gsel amix amixN amixC aop aopc aopd cutK
attribute [local go_sem] aBSliceD aSlice aSliceC boundOf aMk aCall aCallC aLenL aLen aPick_t aPick_f aNil aAlloc aBox aBuild bldPV aBSlice bsPV aApp newsOf destOf drp aConvX aConv aConvInt aLoad cellsAt aStore cellsPV setAt aFld aField aIdx aIndex aUn aBin' aBin aMax aExtract pvOf PV.isCell nmbL PV.nmb List.map_cons List.map_nil List.all_cons List.all_nil Bool.and_true Bool.true_and if_true if_false List.getD_cons_zero List.getD_cons_succ List.getD_nil Option.isSome_some true_and and_true and_self eq_self true_or or_true List.drop_zero List.drop_succ_cons List.drop_nil List.take_zero List.take_succ_cons List.take_nil List.length_cons List.length_nil List.length_map Option.getD_some Option.getD_none List.nil_append List.cons_append List.append_nil Option.some.injEq exists_eq_left' List.getElem?_cons_zero List.getElem?_cons_succ Int.toNat_natCast Int.natCast_inj toNat_succ Nat.zero_add res res1 resC owns owns1 ownsC List.flatMap_cons List.flatMap_nil List.flatten_cons List.flatten_nil List.mem_cons List.not_mem_nil or_false false_or forall_eq forall_eq_or_imp isFro frz frz1 pureC tabA isBld List.cons.injEq PV.seq.injEq PV.int.injEq PV.str.injEq PV.bool.injEq PV.agg.injEq inR tab Γof aRes packR Option.map_some Option.map_none rel Prod.exists exists_and_left exists_eq_left and_assoc beq_self_eq_true Bool.not_true Bool.not_false decide_true decide_false List.set_cons_zero List.set_cons_succ rst_nil rst_cons
attribute [local go_sem ↓] evT upd_def aop aopc aopd
set_option maxRecDepth 100000
set_option linter.unusedVariables false
set_option linter.unusedSimpArgs false
open Go.RowKit
def lv98 : Nat → List Nat
  | 0 => [0, 1]
  | 1 => [0, 1, 8, 9, 10]
  | 2 => [0, 1, 8, 9, 10, 11]
  | 3 => [0, 1, 5, 6, 8, 9, 10]
  | 4 => [0, 1, 5, 6, 8, 9, 10, 16]
  | 5 => [4]
  | 6 => [0, 1, 5, 6, 8, 9, 10, 16, 17]
  | 7 => [0, 1, 5, 6, 7, 8, 9, 10]
  | 8 => [0, 1, 5, 6, 8, 9, 10, 53]
  | 9 => [4]
  | 10 => [0, 1, 8, 9, 10, 79]
  | 11 => [4]
  | 12 => [0, 1, 6, 8, 9, 10, 16, 80]
  | 13 => [0, 1, 8, 9, 10, 120]
  | 14 => [4]
  | 15 => [0, 1, 6, 8, 9, 10, 16, 121]
  | 16 => [0, 1, 6, 8, 9, 10, 121]
  | 17 => [0, 1, 8, 9, 10, 163]
  | 18 => [4]
  | 19 => [0, 1, 8, 9, 10]
  | 20 => [4]
  | _ => []
theorem toNat_pred (n : Nat) : ((n : Int) - 1).toNat = n - 1 := by omega
theorem nil_of {α : Type} {xs : List α} (h : (xs.length : Int) ≤ 0) : xs = [] := List.eq_nil_of_length_eq_zero (by omega)
theorem two_nil {α : Type} {xs ys : List α} (h : ¬ (0 : Int) < (xs.length : Int) + (ys.length : Int)) : xs = [] ∧ ys = [] := ⟨nil_of (by omega), nil_of (by omega)⟩
theorem two_not {α : Type} {xs ys : List α} (h : (0 : Int) < (xs.length : Int) + (ys.length : Int)) : (decide (xs = []) && decide (ys = [])) = false := by
  rw [Bool.and_eq_false_iff]
  by_cases e : xs = []
  · right; rw [decide_eq_false_iff_not]; rintro e2; subst e e2; simp at h
  · left; rw [decide_eq_false_iff_not]; exact e
@[go_sem] def pokC (n : Nat) : PC := rel (α := List PartD × Int) (fun x => [.seq (encPs x.1), .int .i64 x.2]) (fun x => wtL x.1 < n ∧ wtL x.1 ≤ 4294967280 ∧ 0 ≤ x.2 ∧ x.2 ≤ 3) (fun x => .bool (gdL (3 - x.2).toNat false x.1))
@[go_sem] def pokQ : PC := rel (α := List PartD × Int) (fun x => [.seq (encPs x.1), .int .i64 x.2]) (fun x => wtL x.1 ≤ 4294967280 ∧ 0 ≤ x.2 ∧ x.2 ≤ 3) (fun x => .bool (gdL (3 - x.2).toNat false x.1))
theorem prev_of {xs : List PartD} {k : Nat} (h : 0 < k) {y : PartD} (hy : xs[k - 1]? = some y) : lastT false (xs.take k) = decide (y.kind = 1) := by
  have := lastT_take hy
  rwa [show k - 1 + 1 = k by omega] at this
theorem len0 {α : Type} {xs : List α} (h : (xs.length : Int) = 0) : xs = [] := List.eq_nil_of_length_eq_zero (by omega)
section
variable {d : Nat} {k : Int} {t nm : Bs} {ps os : List PartD}
theorem gd1f (h : textB t = false ∨ (t.length : Int) = 0 ∨ dbl 123 t = true ∨ dbl 125 t = true ∨ hasB [123, 125] (t.getD 0 0) = true ∨ hasB [123, 125] (t.getD (t.length - 1) 0) = true ∨ ¬ nm = [] ∨ (0 : Int) < ps.length + os.length) : gdP d (.mk 1 t nm ps os) = false := by
  rw [gdP_mk, if_pos rfl]
  rcases h with h | h | h | h | h | h | h | h
  · simp [txtB, h]
  · simp [txtB, len0 h]
  · simp [txtB, h]
  · simp [txtB, h]
  · simp only [txtB, edgeT, brace, h]; simp
  · simp only [txtB, edgeT, brace, h]; simp
  · simp [h]
  · rw [Bool.and_assoc, two_not h]; simp
theorem gd1t (h1 : textB t = true) (h2 : ¬ (t.length : Int) = 0) (h3 : dbl 123 t = false) (h4 : dbl 125 t = false) (h5 : hasB [123, 125] (t.getD 0 0) = false) (h6 : hasB [123, 125] (t.getD (t.length - 1) 0) = false) (h7 : nm = []) (h8 : ¬ (0 : Int) < ps.length + os.length) : gdP d (.mk 1 t nm ps os) = true := by
  obtain ⟨e1, e2⟩ := two_nil h8
  subst e1 e2 h7
  have : t ≠ [] := by rintro rfl; exact h2 rfl
  rw [gdP_mk, if_pos rfl]
  simp only [txtB, edgeT, brace, h1, h3, h4, h5, h6]
  simp [this]
theorem gd2f (h : nameB nm = false ∨ nm = [105, 102] ∨ nm = [101, 97, 99, 104] ∨ nm = [101, 108, 115, 101] ∨ nm = [101, 110, 100] ∨ ¬ t = [] ∨ (0 : Int) < ps.length + os.length) : gdP d (.mk 2 t nm ps os) = false := by
  rw [gdP_mk, if_neg (by decide), if_pos rfl]
  rcases h with h | h | h | h | h | h | h
  · simp [h]
  · simp [wordB, h]
  · simp [wordB, h]
  · simp [wordB, h]
  · simp [wordB, h]
  · simp [h]
  · rw [Bool.and_assoc, two_not h]; simp
theorem gd2t (h1 : nameB nm = true) (h2 : ¬ nm = [105, 102]) (h3 : ¬ nm = [101, 97, 99, 104]) (h4 : ¬ nm = [101, 108, 115, 101]) (h5 : ¬ nm = [101, 110, 100]) (h6 : t = []) (h7 : ¬ (0 : Int) < ps.length + os.length) : gdP d (.mk 2 t nm ps os) = true := by
  obtain ⟨e1, e2⟩ := two_nil h7
  subst e1 e2 h6
  rw [gdP_mk, if_neg (by decide), if_pos rfl]
  simp [wordB, h1, h2, h3, h4, h5]
theorem gd3f (hk : k = 3 ∨ k = 4) (h : nameB nm = false ∨ ¬ t = [] ∨ (k = 4 ∧ (0 : Int) < os.length) ∨ d = 0 ∨ gdL (d - 1) false ps = false ∨ gdL (d - 1) false os = false) : gdP d (.mk k t nm ps os) = false := by
  rw [gdP_mk, if_neg (by omega), if_neg (by omega), if_pos hk]
  rcases h with h | h | h | h | h | h
  · simp [h]
  · simp [h]
  · have : os ≠ [] := by rintro rfl; simp at h
    simp [h.1, this]
  · simp [h]
  · simp [h]
  · simp [h]
theorem gd3t (hk : k = 3 ∨ k = 4) (h1 : nameB nm = true) (h2 : t = []) (h3 : k = 3 ∨ ¬ (0 : Int) < os.length) (h4 : d ≠ 0) (h5 : gdL (d - 1) false ps = true) (h6 : gdL (d - 1) false os = true) : gdP d (.mk k t nm ps os) = true := by
  rw [gdP_mk, if_neg (by omega), if_neg (by omega), if_pos hk]
  have : (decide (k = 4) && !decide (os = [])) = false := by
    rcases h3 with h3 | h3
    · simp [h3]
    · rw [nil_of (xs := os) (by omega)]; simp
  simp [h1, h2, this, h4, h5, h6]
theorem gd0f (h1 : ¬ k = 1) (h2 : ¬ k = 2) (h3 : ¬ k = 3) (h4 : ¬ k = 4) : gdP d (.mk k t nm ps os) = false := by
  rw [gdP_mk, if_neg h1, if_neg h2, if_neg (by omega)]
end
theorem deep1 {deep : Int} (h : ¬ 3 ≤ deep) : (3 - (deep + 1)).toNat = (3 - deep).toNat - 1 := by omega
section
variable {deep : Int} {k : Int} {t nm : Bs} {ps os : List PartD}
def badP (deep k : Int) (t nm : Bs) (ps os : List PartD) : Prop :=
  (k = 1 ∧ (textB t = false ∨ (t.length : Int) = 0 ∨ dbl 123 t = true ∨ dbl 125 t = true ∨ hasB [123, 125] (t.getD 0 0) = true ∨ hasB [123, 125] (t.getD (t.length - 1) 0) = true ∨ ¬ nm = [] ∨ (0 : Int) < ps.length + os.length)) ∨
  (k = 2 ∧ (nameB nm = false ∨ nm = [105, 102] ∨ nm = [101, 97, 99, 104] ∨ nm = [101, 108, 115, 101] ∨ nm = [101, 110, 100] ∨ ¬ t = [] ∨ (0 : Int) < ps.length + os.length)) ∨
  ((k = 3 ∨ k = 4) ∧ (nameB nm = false ∨ ¬ t = [] ∨ (k = 4 ∧ (0 : Int) < os.length) ∨ 3 ≤ deep ∨ gdL (3 - (deep + 1)).toNat false ps = false ∨ gdL (3 - (deep + 1)).toNat false os = false)) ∨
  (¬ k = 1 ∧ ¬ k = 2 ∧ ¬ k = 3 ∧ ¬ k = 4)
theorem gdF (h : badP deep k t nm ps os) : gdP (3 - deep).toNat (.mk k t nm ps os) = false := by
  rcases h with ⟨rfl, h⟩ | ⟨rfl, h⟩ | ⟨hk, h⟩ | ⟨h1, h2, h3, h4⟩
  · exact gd1f h
  · exact gd2f h
  · refine gd3f hk ?_
    by_cases h3 : 3 ≤ deep
    · exact .inr (.inr (.inr (.inl (by omega))))
    · rw [deep1 h3] at h
      rcases h with h | h | h | h | h | h
      · exact .inl h
      · exact .inr (.inl h)
      · exact .inr (.inr (.inl h))
      · exact absurd h h3
      · exact .inr (.inr (.inr (.inr (.inl h))))
      · exact .inr (.inr (.inr (.inr (.inr h))))
  · exact gd0f h1 h2 h3 h4
theorem gdT (h : ¬ badP deep k t nm ps os) : gdP (3 - deep).toNat (.mk k t nm ps os) = true := by
  unfold badP at h
  simp only [not_or, not_and, Bool.not_eq_false, Bool.not_eq_true, Classical.not_not] at h
  obtain ⟨h1, h2, h3, h4⟩ := h
  by_cases k1 : k = 1
  · subst k1
    obtain ⟨a1, a2, a3, a4, a5, a6, a7, a8⟩ := h1 rfl
    exact gd1t a1 a2 a3 a4 a5 a6 a7 a8
  by_cases k2 : k = 2
  · subst k2
    obtain ⟨a1, a2, a3, a4, a5, a6, a7⟩ := h2 rfl
    exact gd2t a1 a2 a3 a4 a5 a6 a7
  have hk : k = 3 ∨ k = 4 := by
    by_cases k3 : k = 3
    · exact .inl k3
    · exact .inr (h4 k1 k2 k3)
  obtain ⟨a1, a2, a3, a4, a5, a6⟩ := h3 hk
  rw [deep1 a4] at a5 a6
  exact gd3t hk a1 a2 (by rcases hk with e | e; exact .inl e; exact .inr (a3 e)) (by omega) a5 a6
end
set_option maxHeartbeats 16000000 in
theorem pok_i : ∀ n, PureOk Try.prog 98 (pokC n) := by
  intro n
  induction n with
  | zero => exact never_rel Try.func98 (by kernel_rfl) (by kernel_rfl) (fun x h => by omega)
  | succ n ih =>
  refine pure_rel 2 (tab_cons ih (tab_cons text_i (tab_cons cont_any (tab_cons has_i (tab_cons name_i tab_nil))))) mixed [.tmp 4] Try.func98 rfl rfl (by kernel_rfl) (by kernel_rfl) (fun _ => rfl) (by kernel_rfl) ?_
  rintro ⟨xs, deep⟩ K ⟨hn, hb, h0, h3⟩ hK
  clear ih
  dsimp only at *
  have hlw := len_le_wtL xs
  unfold entry
  repeat' (first | ((first | apply qwd | apply qa1 | apply qa2 | apply qa3 | apply qh1 | apply qh2 | apply qg1 rfl | apply qcd); (try intro K hk); focus (simp only [lv98, mkT, go_sem, Nat.reduceEqDiff, Nat.reduceAdd, Nat.reduceLeDiff, Nat.reduceLT, Nat.reduceSub, Int.reduceToNat, ↓reduceIte, reduceCtorEq]; first | exact rfl | ((repeat (refine And.intro ?_ ?_; focus (first | omega | assumption | with_reducible rfl))); intros; apply hk; clear hk K))) | apply qw8 | apply qw1 | refine qwc lv98 ?_ | apply qt1 | apply qw5 | apply qw2 | apply qw9 | apply qt2 | apply qt3 | apply qt4 | apply qt5 | apply qt6 | apply qw3 | apply qw4 | apply qj1 | apply qj2 | apply qj3 | apply qj4 | apply qj5 | apply qu1 | apply qu2 | (refine qj6 ?_ ?_ <;> intro hc <;> (try simp only [hc]) <;> (try simp only [decide_eq_true_eq, decide_eq_false_iff_not, Bool.not_eq_true', Bool.not_eq_false', Bool.not_eq_true, reduceCtorEq] at hc) <;> (try (exfalso; omega))) | (refine qt7 ?_ ?_; focus decide) | (refine qw7 ?_ ?_ ?_; (focus (decide +kernel)); (focus (decide +kernel))))
  refine s_loop (ι := Nat) (fun k => [(0, .seq (encPs xs)), (1, .int .i64 deep), (8, .seq (encPs xs)), (9, .int .i64 xs.length), (10, .int .i64 k)]) (fun _ => []) 0 (fun k => k ≤ xs.length ∧ gdL (3 - deep).toNat false (xs.take k) = true) (fun k => xs.length - k) 0 (by omega) ⟨by omega, by simp [gdL_nil]⟩ ?_ ?_
  · simp [fits, fitsT, fitsM, upd_def, PV.nmb, nmbL, MB.nmb, List.getD_cons_zero, List.getD_cons_succ]
  rintro k ⟨hk, hp⟩
  simp only [mkS, mkT, mkM]
  repeat' (first | ((first | apply qwd | apply qa1 | apply qa2 | apply qa3 | apply qh1 | apply qh2 | apply qg1 rfl | apply qcd); (try intro K hk); focus (simp only [lv98, mkT, go_sem, Nat.reduceEqDiff, Nat.reduceAdd, Nat.reduceLeDiff, Nat.reduceLT, Nat.reduceSub, Int.reduceToNat, ↓reduceIte, reduceCtorEq]; first | exact rfl | ((repeat (refine And.intro ?_ ?_; focus (first | omega | assumption | with_reducible rfl))); intros; apply hk; clear hk K))) | apply qw8 | apply qw1 | refine qwc lv98 ?_ | apply qt1 | apply qw5 | apply qw2 | apply qw9 | apply qt2 | apply qt3 | apply qt4 | apply qt5 | apply qt6 | apply qw3 | apply qw4 | apply qj1 | apply qj2 | apply qj3 | apply qj4 | apply qj5 | apply qu1 | apply qu2 | (refine qj6 ?_ ?_ <;> intro hc <;> (try simp only [hc]) <;> (try simp only [decide_eq_true_eq, decide_eq_false_iff_not, Bool.not_eq_true', Bool.not_eq_false', Bool.not_eq_true, reduceCtorEq] at hc) <;> (try (exfalso; omega))) | (refine qt7 ?_ ?_; focus decide) | (refine qw7 ?_ ?_ ?_; (focus (decide +kernel)); (focus (decide +kernel))))
  · obtain ⟨⟨kd, t, nm, ps, os⟩, hx⟩ := get_some (xs := xs) (k := k) (by omega)
    have htk := take_snoc' hx
    have ws := wtL_split hx
    rw [wtP_mk] at ws
    have hget := encPs_get xs
    have hb0 := byte_lt t 0
    have hb1 := byte_lt t (t.length - 1)
    have hps := len_le_wtL ps
    have hos := len_le_wtL os
    obtain ⟨⟨kd', t', nm', ps', os'⟩, hy⟩ := get_some (xs := xs) (k := k - 1) (by omega)
    have hpv : 0 < k → lastT false (xs.take k) = decide (kd' = 1) := fun h => by rw [prev_of h hy, kind_mk]
    repeat' (first | ((first | apply qwd | apply qa1 | apply qa2 | apply qa3 | apply qh1 | apply qh2 | apply qg1 rfl | apply qcd); (try intro K hk); focus (simp only [lv98, mkT, go_sem, Nat.reduceEqDiff, Nat.reduceAdd, Nat.reduceLeDiff, Nat.reduceLT, Nat.reduceSub, Int.reduceToNat, ↓reduceIte, reduceCtorEq, hget, hx, hy, encP_mk, dbl_contains, toNat_pred]; first | exact rfl | ((repeat (refine And.intro ?_ ?_; focus (first | omega | assumption | with_reducible rfl))); intros; apply hk; clear hk K))) | apply qw8 | apply qw1 | refine qwc lv98 ?_ | apply qt1 | apply qw5 | apply qw2 | apply qw9 | apply qt2 | apply qt3 | apply qt4 | apply qt5 | apply qt6 | apply qw3 | apply qw4 | apply qj1 | apply qj2 | apply qj3 | apply qj4 | apply qj5 | apply qu1 | apply qu2 | (refine qj6 ?_ ?_ <;> intro hc <;> (try simp only [hc]) <;> (try simp only [decide_eq_true_eq, decide_eq_false_iff_not, Bool.not_eq_true', Bool.not_eq_false', Bool.not_eq_true, reduceCtorEq] at hc) <;> (try (exfalso; omega))) | (refine qt7 ?_ ?_; focus decide) | (refine qw7 ?_ ?_ ?_; (focus (decide +kernel)); (focus (decide +kernel))))
    all_goals first
      | (((first | refine fin_ret ?_ | refine fin_end ?_); simp only [go_sem, ↓upd_def, Nat.reduceEqDiff, Nat.reduceAdd, ↓reduceIte, reduceCtorEq])
         refine K_bool hK (gdL_fail hx (.inl (gdF ?_)))
         clear hK
         unfold badP
         grind)
      | (((first | refine fin_ret ?_ | refine fin_end ?_); simp only [go_sem, ↓upd_def, Nat.reduceEqDiff, Nat.reduceAdd, ↓reduceIte, reduceCtorEq])
         refine K_bool hK (gdL_fail hx (.inr ?_))
         clear hK
         rw [kind_mk]
         grind)
      | (refine s_again (k + 1) ?_ ?_ ?_ <;> (first | omega | (dsimp only; omega) | skip)
         · refine ⟨by omega, gdL_step hx hp (gdT ?_) ?_⟩
           · clear hK
             unfold badP
             grind
           · clear hK
             rw [kind_mk]
             by_cases h0k : 0 < k
             · rw [hpv h0k]; grind
             · rw [show k = 0 by omega, lastT_zero]; rfl
         · simp [fits, fitsT, fitsM, upd_def, PV.nmb, nmbL, MB.nmb, List.getD_cons_zero, List.getD_cons_succ]
         done)
      | skip
  · obtain rfl : k = xs.length := by omega
    ((first | refine fin_ret ?_ | refine fin_end ?_); simp only [go_sem, ↓upd_def, Nat.reduceEqDiff, Nat.reduceAdd, ↓reduceIte, reduceCtorEq])
    rw [List.take_length] at hp
    exact K_bool hK hp
end Go.Proofs.Ytnbjogilidfkdaa

/- Contracts: PartsValid, DeepestPart. -/
namespace Go.Proofs.Ytnbjogilidfkdaa
attribute [local irreducible] awp arun acalm FinP Fin AX.then AX.inBlock Again aG gsel amix amixN amixC aop aopc aopd cutK
attribute [local go_sem] aBSliceD aSlice aSliceC boundOf aMk aCall aCallC aLenL aLen aPick_t aPick_f aNil aAlloc aBox aBuild bldPV aBSlice bsPV aApp newsOf destOf drp aConvX aConv aConvInt aLoad cellsAt aStore cellsPV setAt aFld aField aIdx aIndex aUn aBin' aBin aMax aExtract pvOf PV.isCell nmbL PV.nmb List.map_cons List.map_nil List.all_cons List.all_nil Bool.and_true Bool.true_and if_true if_false List.getD_cons_zero List.getD_cons_succ List.getD_nil Option.isSome_some true_and and_true and_self eq_self true_or or_true List.drop_zero List.drop_succ_cons List.drop_nil List.take_zero List.take_succ_cons List.take_nil List.length_cons List.length_nil List.length_map Option.getD_some Option.getD_none List.nil_append List.cons_append List.append_nil Option.some.injEq exists_eq_left' List.getElem?_cons_zero List.getElem?_cons_succ Int.toNat_natCast Int.natCast_inj toNat_succ Nat.zero_add res res1 resC owns owns1 ownsC List.flatMap_cons List.flatMap_nil List.flatten_cons List.flatten_nil List.mem_cons List.not_mem_nil or_false false_or forall_eq forall_eq_or_imp isFro frz frz1 pureC tabA isBld List.cons.injEq PV.seq.injEq PV.int.injEq PV.str.injEq PV.bool.injEq PV.agg.injEq inR tab Γof aRes packR Option.map_some Option.map_none rel Prod.exists exists_and_left exists_eq_left and_assoc beq_self_eq_true Bool.not_true Bool.not_false decide_true decide_false List.set_cons_zero List.set_cons_succ rst_nil rst_cons
attribute [local go_sem ↓] evT upd_def aop aopc aopd
set_option maxRecDepth 100000
set_option linter.unusedVariables false
set_option linter.unusedSimpArgs false
open Go.RowKit
@[go_sem] def parV (f : List PartD → PV) : PC := rel (α := List PartD) (fun x => [.seq (encPs x)]) (fun x => wtL x ≤ 4294967280) f
theorem pok_ic : PureOk Try.prog 98 pokQ := rel_all (fun x : List PartD × Int => wtL x.1) pok_i
theorem pv_i : PureOk Try.prog 62 (parV fun x => .bool (partsB x)) := by
  refine pure_rel 1 (tab_cons cnt_ic (tab_cons pok_ic tab_nil)) mixed [.tmp 2] Try.func62 rfl rfl (by kernel_rfl) (by kernel_rfl) (fun _ => rfl) (by kernel_rfl) ?_
  rintro xs K hb hK
  unfold entry
  repeat' (first | ((first | apply qa1 | apply qa2 | apply qa3 | apply qh1 | apply qh2 | apply qg1 rfl | apply qcd); (try intro K hk); focus (simp only [go_sem, Nat.reduceEqDiff, Nat.reduceAdd, Nat.reduceLeDiff, Nat.reduceLT, Nat.reduceSub, Int.reduceToNat, ↓reduceIte, reduceCtorEq]; first | exact rfl | ((repeat (refine And.intro ?_ ?_; focus (first | omega | assumption | with_reducible rfl))); intros; apply hk; clear hk K))) | apply qw8 | apply qw1 | apply qw6 | apply qt1 | apply qw5 | apply qw2 | apply qw9 | apply qt2 | apply qt3 | apply qt4 | apply qt5 | apply qt6 | apply qw3 | apply qw4 | apply qj1 | apply qj2 | apply qj3 | apply qj4 | apply qj5 | apply qu1 | apply qu2 | (refine qj6 ?_ ?_ <;> intro hc <;> (try simp only [hc]) <;> (try simp only [decide_eq_true_eq, decide_eq_false_iff_not, Bool.not_eq_true', Bool.not_eq_false', Bool.not_eq_true, reduceCtorEq] at hc) <;> (try (exfalso; omega))) | (refine qt7 ?_ ?_; focus decide) | (refine qw7 ?_ ?_ ?_; (focus (decide +kernel)); (focus (decide +kernel))))
  all_goals
    ((first | refine fin_ret ?_ | refine fin_end ?_); simp only [go_sem, ↓upd_def, Nat.reduceEqDiff, Nat.reduceAdd, ↓reduceIte, reduceCtorEq])
    refine K_bool hK ?_
    clear hK
    unfold partsB
    simp [*]
    try omega
end Go.Proofs.Ytnbjogilidfkdaa

/- Contracts: the text of parts. -/
namespace Go.Proofs.Ytnbjogilidfkdaa
attribute [local irreducible] awp arun acalm FinP Fin AX.then AX.inBlock Again aG gsel amix amixN amixC aop aopc aopd cutK
attribute [local go_sem] aBSliceD aSlice aSliceC boundOf aMk aCall aCallC aLenL aLen aPick_t aPick_f aNil aAlloc aBox aBuild bldPV aBSlice bsPV aApp newsOf destOf drp aConvX aConv aConvInt aLoad cellsAt aStore cellsPV setAt aFld aField aIdx aIndex aUn aBin' aBin aMax aExtract pvOf PV.isCell nmbL PV.nmb List.map_cons List.map_nil List.all_cons List.all_nil Bool.and_true Bool.true_and if_true if_false List.getD_cons_zero List.getD_cons_succ List.getD_nil Option.isSome_some true_and and_true and_self eq_self true_or or_true List.drop_zero List.drop_succ_cons List.drop_nil List.take_zero List.take_succ_cons List.take_nil List.length_cons List.length_nil List.length_map Option.getD_some Option.getD_none List.nil_append List.cons_append List.append_nil Option.some.injEq exists_eq_left' List.getElem?_cons_zero List.getElem?_cons_succ Int.toNat_natCast Int.natCast_inj toNat_succ Nat.zero_add res res1 resC owns owns1 ownsC List.flatMap_cons List.flatMap_nil List.flatten_cons List.flatten_nil List.mem_cons List.not_mem_nil or_false false_or forall_eq forall_eq_or_imp isFro frz frz1 pureC tabA isBld List.cons.injEq PV.seq.injEq PV.int.injEq PV.str.injEq PV.bool.injEq PV.agg.injEq inR tab Γof aRes packR Option.map_some Option.map_none rel Prod.exists exists_and_left exists_eq_left and_assoc beq_self_eq_true Bool.not_true Bool.not_false decide_true decide_false List.set_cons_zero List.set_cons_succ rst_nil rst_cons
attribute [local go_sem ↓] evT upd_def aop aopc aopd
set_option maxRecDepth 100000
set_option linter.unusedVariables false
set_option linter.unusedSimpArgs false
open Go.RowKit
def lv63 : Nat → List Nat
  | 0 => [0]
  | 1 => [0, 3]
  | 2 => [3, 6, 7, 8]
  | 3 => [3, 6, 7, 8, 9]
  | 4 => [3, 5, 6, 7, 8]
  | 5 => [3, 5, 6, 7, 8, 13]
  | 6 => [3, 5, 6, 7, 8, 13, 14]
  | 7 => [3, 6, 7, 8]
  | 8 => [3, 5, 6, 7, 8, 13, 20]
  | 9 => [3, 6, 7, 8]
  | 10 => [3, 5, 6, 7, 8, 13, 28]
  | 11 => [3, 6, 7, 8]
  | 12 => [3, 5, 6, 7, 8, 41]
  | 13 => [3, 5, 6, 7, 8]
  | 14 => [3, 5, 6, 7, 8, 56]
  | 15 => [3, 6, 7, 8]
  | 16 => [3, 6, 7, 8]
  | 17 => [3, 6, 7, 8]
  | 18 => [2]
  | _ => []
mutual
/-- The text of a part (of an unknown kind: none). -/
def txtP : PartD → Bs
  | .mk k t n ps os => if k = 1 then t else if k = 2 then [123, 123] ++ n ++ [125, 125] else if k = 4 then [123, 123, 101, 97, 99, 104, 32] ++ n ++ [125, 125] ++ txtL ps ++ [123, 123, 101, 110, 100, 125, 125]
    else if k = 3 then [123, 123, 105, 102, 32] ++ n ++ [125, 125] ++ txtL ps ++ (if os = [] then [] else [123, 123, 101, 108, 115, 101, 125, 125] ++ txtL os) ++ [123, 123, 101, 110, 100, 125, 125] else []
def txtL : List PartD → Bs
  | [] => []
  | x :: xs => txtP x ++ txtL xs
end
theorem txtL_nil : txtL [] = [] := by simp [txtL]
theorem txtL_cons (x : PartD) (xs : List PartD) : txtL (x :: xs) = txtP x ++ txtL xs := by simp [txtL]
theorem txtL_append : ∀ xs ys : List PartD, txtL (xs ++ ys) = txtL xs ++ txtL ys
  | [], ys => by simp [txtL_nil]
  | x :: xs, ys => by rw [List.cons_append, txtL_cons, txtL_cons, txtL_append xs ys, List.append_assoc]
theorem txtL_one (x : PartD) : txtL [x] = txtP x := by rw [txtL_cons, txtL_nil, List.append_nil]
theorem txtP_mk (k : Int) (t n : Bs) (ps os : List PartD) : txtP (.mk k t n ps os) = if k = 1 then t else if k = 2 then [123, 123] ++ n ++ [125, 125] else if k = 4 then [123, 123, 101, 97, 99, 104, 32] ++ n ++ [125, 125] ++ txtL ps ++ [123, 123, 101, 110, 100, 125, 125]
    else if k = 3 then [123, 123, 105, 102, 32] ++ n ++ [125, 125] ++ txtL ps ++ (if os = [] then [] else [123, 123, 101, 108, 115, 101, 125, 125] ++ txtL os) ++ [123, 123, 101, 110, 100, 125, 125] else [] := by rw [txtP]
mutual
theorem txtP_le : ∀ x : PartD, (txtP x).length ≤ 22 * (wtP x + 1)
  | .mk k t n ps os => by
    have h1 := txtL_le ps
    have h2 := txtL_le os
    rw [txtP_mk, wtP_mk]
    repeat' split
    all_goals (try simp only [List.length_append, List.length_cons, List.length_nil])
    all_goals omega
theorem txtL_le : ∀ xs : List PartD, (txtL xs).length ≤ 22 * wtL xs
  | [] => by simp [txtL]
  | x :: xs => by
    have h1 := txtP_le x
    have h2 := txtL_le xs
    rw [txtL_cons, show x :: xs = [x] ++ xs from rfl, wtL_append, wtL_one, List.length_append]
    omega
end
set_option maxHeartbeats 8000000 in
theorem txt_i : ∀ n, PureOk Try.prog 63 (parC (fun x => .str (txtL x)) n) := by
  intro n
  induction n with
  | zero => exact never_rel Try.func63 (by kernel_rfl) (by kernel_rfl) (fun x h => by omega)
  | succ n ih =>
  refine pure_rel 1 (tab_cons ih tab_nil) mixed [.tmp 2] Try.func63 rfl rfl (by kernel_rfl) (by kernel_rfl) (fun _ => rfl) (by kernel_rfl) ?_
  rintro xs K ⟨hn, hb⟩ hK
  clear ih
  have hlw := len_le_wtL xs
  unfold entry
  repeat' (first | ((first | apply qwd | apply qa1 | apply qa2 | apply qa3 | apply qh1 | apply qh2 | apply qg1 rfl | apply qcd); (try intro K hk); focus (simp only [lv63, mkT, go_sem, Nat.reduceEqDiff, Nat.reduceAdd, Nat.reduceLeDiff, Nat.reduceLT, Nat.reduceSub, Int.reduceToNat, ↓reduceIte, reduceCtorEq]; first | exact rfl | ((repeat (refine And.intro ?_ ?_; focus (first | omega | assumption | with_reducible rfl))); intros; apply hk; clear hk K))) | apply qw8 | apply qw1 | refine qwc lv63 ?_ | apply qt1 | apply qw5 | apply qw2 | apply qw9 | apply qt2 | apply qt3 | apply qt4 | apply qt5 | apply qt6 | apply qw3 | apply qw4 | apply qj1 | apply qj2 | apply qj3 | apply qj4 | apply qj5 | apply qu1 | apply qu2 | (refine qj6 ?_ ?_ <;> intro hc <;> (try simp only [hc]) <;> (try simp only [decide_eq_true_eq, decide_eq_false_iff_not, Bool.not_eq_true', Bool.not_eq_false', Bool.not_eq_true, reduceCtorEq] at hc) <;> (try (exfalso; omega))) | (refine qt7 ?_ ?_; focus decide) | (refine qw7 ?_ ?_ ?_; (focus (decide +kernel)); (focus (decide +kernel))))
  refine s_loop (ι := Nat) (fun k => [(3, .str (txtL (xs.take k))), (6, .seq (encPs xs)), (7, .int .i64 xs.length), (8, .int .i64 k)]) (fun _ => []) 0 (fun k => k ≤ xs.length) (fun k => xs.length - k) 0 (by omega) (by omega) ?_ ?_
  · simp [fits, fitsT, fitsM, upd_def, PV.nmb, nmbL, MB.nmb, List.getD_cons_zero, List.getD_cons_succ, txtL_nil]
  intro k hk
  simp only [mkS, mkT, mkM]
  repeat' (first | ((first | apply qwd | apply qa1 | apply qa2 | apply qa3 | apply qh1 | apply qh2 | apply qg1 rfl | apply qcd); (try intro K hk); focus (simp only [lv63, mkT, go_sem, Nat.reduceEqDiff, Nat.reduceAdd, Nat.reduceLeDiff, Nat.reduceLT, Nat.reduceSub, Int.reduceToNat, ↓reduceIte, reduceCtorEq]; first | exact rfl | ((repeat (refine And.intro ?_ ?_; focus (first | omega | assumption | with_reducible rfl))); intros; apply hk; clear hk K))) | apply qw8 | apply qw1 | refine qwc lv63 ?_ | apply qt1 | apply qw5 | apply qw2 | apply qw9 | apply qt2 | apply qt3 | apply qt4 | apply qt5 | apply qt6 | apply qw3 | apply qw4 | apply qj1 | apply qj2 | apply qj3 | apply qj4 | apply qj5 | apply qu1 | apply qu2 | (refine qj6 ?_ ?_ <;> intro hc <;> (try simp only [hc]) <;> (try simp only [decide_eq_true_eq, decide_eq_false_iff_not, Bool.not_eq_true', Bool.not_eq_false', Bool.not_eq_true, reduceCtorEq] at hc) <;> (try (exfalso; omega))) | (refine qt7 ?_ ?_; focus decide) | (refine qw7 ?_ ?_ ?_; (focus (decide +kernel)); (focus (decide +kernel))))
  · obtain ⟨⟨kd, t, nm, ps, os⟩, hx⟩ := get_some (xs := xs) (k := k) (by omega)
    have htk := take_snoc' hx
    have ws := wtL_split hx
    rw [wtP_mk] at ws
    have hget := encPs_get xs
    have c1 := txtL_le ps
    have c2 := txtL_le os
    have c3 := txtL_le (xs.take k)
    have wd := len_le_wtL (xs.drop (k + 1))
    have c4 := len_le_wtL os
    have hos : os = [] ↔ ¬ (0 : Int) < os.length := by rw [← List.length_eq_zero_iff]; omega
    have wk : wtL (xs.take k) ≤ wtL xs := by have := wtL_append (xs.take k) (xs.drop k); rw [List.take_append_drop] at this; omega
    repeat' (first | ((first | apply qwd | apply qa1 | apply qa2 | apply qa3 | apply qh1 | apply qh2 | apply qg1 rfl | apply qcd); (try intro K hk); focus (simp only [lv63, mkT, go_sem, Nat.reduceEqDiff, Nat.reduceAdd, Nat.reduceLeDiff, Nat.reduceLT, Nat.reduceSub, Int.reduceToNat, ↓reduceIte, reduceCtorEq, hget, hx, encP_mk, List.length_append, encPs_length]; first | exact rfl | ((repeat (refine And.intro ?_ ?_; focus (first | omega | assumption | with_reducible rfl))); intros; apply hk; clear hk K))) | apply qw8 | apply qw1 | refine qwc lv63 ?_ | apply qt1 | apply qw5 | apply qw2 | apply qw9 | apply qt2 | apply qt3 | apply qt4 | apply qt5 | apply qt6 | apply qw3 | apply qw4 | apply qj1 | apply qj2 | apply qj3 | apply qj4 | apply qj5 | apply qu1 | apply qu2 | (refine qj6 ?_ ?_ <;> intro hc <;> (try simp only [hc]) <;> (try simp only [decide_eq_true_eq, decide_eq_false_iff_not, Bool.not_eq_true', Bool.not_eq_false', Bool.not_eq_true, reduceCtorEq] at hc) <;> (try (exfalso; omega))) | (refine qt7 ?_ ?_; focus decide) | (refine qw7 ?_ ?_ ?_; (focus (decide +kernel)); (focus (decide +kernel))))
    all_goals
      refine s_again (k + 1) ?_ ?_ ?_ <;> (first | omega | (dsimp only; omega) | skip)
      have hS : txtL (xs.take (k + 1)) = txtL (xs.take k) ++ txtP (.mk kd t nm ps os) := by rw [htk, txtL_append, txtL_one]
      rw [txtP_mk] at hS
      clear hK htk hos
      by_cases ho : os = []
      · subst ho; first | (exfalso; simp at hc; done) | simp [fits, fitsT, fitsM, upd_def, PV.nmb, nmbL, MB.nmb, List.getD_cons_zero, List.getD_cons_succ, *]
      · have hl9 := List.length_pos_iff.2 ho
        first | (exfalso; omega) | simp [fits, fitsT, fitsM, upd_def, PV.nmb, nmbL, MB.nmb, List.getD_cons_zero, List.getD_cons_succ, *]
  · obtain rfl : k = xs.length := by omega
    ((first | refine fin_ret ?_ | refine fin_end ?_); simp only [go_sem, ↓upd_def, Nat.reduceEqDiff, Nat.reduceAdd, ↓reduceIte, reduceCtorEq])
    rw [List.take_length]
    exact hK
theorem txt_ic : PureOk Try.prog 63 (parQ (fun x => .str (txtL x))) := par_all txt_i
end Go.Proofs.Ytnbjogilidfkdaa

/- The plain law: valid parts of the same text are the same. -/
namespace Go.Proofs.Ytnbjogilidfkdaa
set_option maxRecDepth 100000
set_option linter.unusedVariables false
set_option linter.unusedSimpArgs false
open Go.RowKit
def tagT (w : Bs) : Bs := 123 :: 123 :: (w ++ [125, 125])
def wEnd : Bs := [101, 110, 100]
def wElse : Bs := [101, 108, 115, 101]
def wEach (n : Bs) : Bs := 101 :: 97 :: 99 :: 104 :: 32 :: n
def wIf (n : Bs) : Bs := 105 :: 102 :: 32 :: n
/-- What may stand behind parts. -/
def Rest (r : Bs) : Prop := r = [] ∨ (∃ z, r = tagT wEnd ++ z) ∨ ∃ z, r = tagT wElse ++ z
/-- A word of a tag. -/
def Wd (w : Bs) : Prop := (125 : UInt8) ∉ w
theorem tag_inj {w w' z z' : Bs} (h1 : Wd w) (h2 : Wd w') (h : tagT w ++ z = tagT w' ++ z') : w = w' ∧ z = z' := by
  have h : w ++ 125 :: (125 :: z) = w' ++ 125 :: (125 :: z') := by simpa [tagT] using h
  rcases List.append_eq_append_iff.1 h with ⟨us, e1, e2⟩ | ⟨bs, e1, e2⟩
  · cases us with
    | nil => simp at e1 e2; exact ⟨e1.symm, e2⟩
    | cons a us =>
      simp only [List.cons_append, List.cons.injEq] at e2
      exact absurd (by rw [e1, ← e2.1]; simp) h2
  · cases bs with
    | nil => simp at e1 e2; exact ⟨e1, e2.symm⟩
    | cons a us =>
      simp only [List.cons_append, List.cons.injEq] at e2
      exact absurd (by rw [e1, ← e2.1]; simp) h1
/-- Starts with "{{", or is empty. -/
def Opn (s : Bs) : Prop := s = [] ∨ ∃ z, s = 123 :: 123 :: z
theorem opn_rest {r : Bs} (h : Rest r) : Opn r := by
  rcases h with rfl | ⟨z, rfl⟩ | ⟨z, rfl⟩
  · exact .inl rfl
  · exact .inr ⟨_, rfl⟩
  · exact .inr ⟨_, rfl⟩
theorem dbl_mid {c : UInt8} : ∀ (a : Bs) (b : Bs), dbl c (a ++ c :: c :: b) = true
  | [], b => by simp [dbl]
  | x :: a, b => by
    have ih := dbl_mid (c := c) a b
    cases a with
    | nil => simp only [List.cons_append, List.nil_append] at *; rw [dbl, ih]; simp
    | cons y a => simp only [List.cons_append] at *; rw [dbl, ih]; simp
structure TxtOk (t : Bs) : Prop where
  ne : t ≠ []
  no : dbl 123 t = false
  first : t.getD 0 0 ≠ 123
  last : t.getD (t.length - 1) 0 ≠ 123
theorem last_snoc (t : Bs) (c : UInt8) : (t ++ [c]).getD ((t ++ [c]).length - 1) 0 = c := by
  simp [List.getD_eq_getElem?_getD]
theorem text_inj {t t' s s' : Bs} (h1 : TxtOk t) (h2 : TxtOk t') (hs : Opn s) (hs' : Opn s') (h : t ++ s = t' ++ s') : t = t' ∧ s = s' := by
  have key : ∀ {t t' s s' u : Bs}, TxtOk t' → Opn s → t' = t ++ u → s = u ++ s' → u = [] := by
    intro t t' s s' u h2 hs e1 e2
    rcases hs with rfl | ⟨z, rfl⟩
    · cases u with
      | nil => rfl
      | cons a u => simp at e2
    · cases u with
      | nil => rfl
      | cons a u =>
        exfalso
        cases u with
        | nil =>
          simp only [List.cons_append, List.nil_append, List.cons.injEq] at e2
          have := h2.last
          rw [e1, ← e2.1, last_snoc] at this
          exact this rfl
        | cons b u =>
          simp only [List.cons_append, List.cons.injEq] at e2
          have := h2.no
          rw [e1, ← e2.1, ← e2.2.1, dbl_mid] at this
          cases this
  rcases List.append_eq_append_iff.1 h with ⟨us, e1, e2⟩ | ⟨bs, e1, e2⟩
  · have := key h2 hs e1 e2
    subst this
    simp at e1 e2
    exact ⟨e1.symm, e2⟩
  · have := key h1 hs' e1 e2
    subst this
    simp at e1 e2
    exact ⟨e1, e2.symm⟩
theorem text_open {t s z : Bs} (h : TxtOk t) (hs : Opn z) (e : t ++ s = z) : False := by
  obtain ⟨h1, _, h2, _⟩ := h
  cases t with
  | nil => exact h1 rfl
  | cons a t =>
    rcases hs with rfl | ⟨z, rfl⟩
    · simp at e
    · simp only [List.cons_append, List.cons.injEq] at e
      exact h2 (by simp [e.1])
theorem txtB_ok {t : Bs} (h : txtB t = true) : TxtOk t := by
  unfold txtB edgeT at h
  simp only [Bool.and_eq_true, Bool.not_eq_true', decide_eq_false_iff_not, Bool.or_eq_false_iff] at h
  obtain ⟨⟨⟨⟨_, h1⟩, h2⟩, _⟩, h3, h4⟩ := h
  refine ⟨h1, h2, fun e => ?_, fun e => ?_⟩
  · rw [e] at h3; exact absurd h3 (by decide)
  · rw [e] at h4; exact absurd h4 (by decide)
theorem nameB_all {n : Bs} (h : nameB n = true) : n ≠ [] ∧ ∀ b ∈ n, b ≠ 125 ∧ b ≠ 32 := by
  unfold nameB at h
  simp only [Bool.and_eq_true, decide_eq_true_eq] at h
  refine ⟨fun e => by subst e; simp at h, fun b hb => ?_⟩
  have h2 := h.2
  have := List.all_eq_true.1 h2 b hb
  constructor
  · intro e; rw [e] at this; exact absurd this (by decide)
  · intro e; rw [e] at this; exact absurd this (by decide)
/-- A valid part, seen. -/
inductive Vw (d : Nat) : PartD → Prop
  | text {t : Bs} : TxtOk t → Vw d (.mk 1 t [] [] [])
  | hole {n : Bs} : nameB n = true → n ≠ wEnd → n ≠ wElse → Vw d (.mk 2 [] n [] [])
  | each {n : Bs} {ps : List PartD} : nameB n = true → gdL (d - 1) false ps = true → Vw d (.mk 4 [] n ps [])
  | cond {n : Bs} {ps os : List PartD} : nameB n = true → gdL (d - 1) false ps = true → gdL (d - 1) false os = true → Vw d (.mk 3 [] n ps os)
theorem view {d : Nat} : ∀ {x : PartD}, gdP d x = true → Vw d x
  | .mk k t n ps os, h => by
    rw [gdP_mk] at h
    split at h
    · rename_i e
      simp only [Bool.and_eq_true, decide_eq_true_eq] at h
      obtain ⟨⟨⟨h1, rfl⟩, rfl⟩, rfl⟩ := h
      subst e
      exact .text (txtB_ok h1)
    split at h
    · rename_i e
      simp only [Bool.and_eq_true, decide_eq_true_eq, Bool.not_eq_true'] at h
      obtain ⟨⟨⟨⟨h1, h2⟩, rfl⟩, rfl⟩, rfl⟩ := h
      subst e
      refine .hole h1 (fun e => ?_) (fun e => ?_) <;> · subst e; exact absurd h2 (by decide)
    split at h
    · rename_i e
      simp only [Bool.and_eq_true, decide_eq_true_eq, Bool.not_eq_true', Bool.and_eq_false_iff, decide_eq_false_iff_not, Bool.not_eq_false'] at h
      obtain ⟨⟨⟨⟨⟨h1, rfl⟩, h2⟩, _⟩, h3⟩, h4⟩ := h
      rcases e with rfl | rfl
      · exact .cond h1 h3 h4
      · have : os = [] := by rcases h2 with h2 | h2 <;> simp_all
        subst this
        exact .each h1 h3
    · cases h
theorem txt_text (t : Bs) : txtP (.mk 1 t [] [] []) = t := by rw [txtP_mk, if_pos rfl]
theorem txt_hole (n : Bs) : txtP (.mk 2 [] n [] []) = tagT n := by rw [txtP_mk, if_neg (by decide), if_pos rfl]; simp [tagT]
theorem txt_each (n : Bs) (ps : List PartD) : txtP (.mk 4 [] n ps []) = tagT (wEach n) ++ (txtL ps ++ (tagT wEnd ++ [])) := by
  rw [txtP_mk, if_neg (by decide), if_neg (by decide), if_pos rfl]; simp [tagT, wEach, wEnd]
theorem txt_cond (n : Bs) (ps os : List PartD) : txtP (.mk 3 [] n ps os) = tagT (wIf n) ++ (txtL ps ++ (if os = [] then tagT wEnd else tagT wElse ++ (txtL os ++ (tagT wEnd ++ [])))) := by
  rw [txtP_mk, if_neg (by decide), if_neg (by decide), if_neg (by decide), if_pos rfl]
  split <;> simp [tagT, wIf, wEnd, wElse]
theorem wd_name {n : Bs} (h : nameB n = true) : Wd n := fun hm => ((nameB_all h).2 _ hm).1 rfl
theorem wd_each {n : Bs} (h : nameB n = true) : Wd (wEach n) := by
  have := wd_name h
  unfold Wd wEach at *
  simp [this]
theorem wd_if {n : Bs} (h : nameB n = true) : Wd (wIf n) := by
  have := wd_name h
  unfold Wd wIf at *
  simp [this]
theorem wd_end : Wd wEnd := by unfold Wd wEnd; decide
theorem wd_else : Wd wElse := by unfold Wd wElse; decide
theorem no_sp {n : Bs} (h : nameB n = true) : (32 : UInt8) ∉ n := fun hm => ((nameB_all h).2 _ hm).2 rfl
theorem opn_parts {d : Nat} {b : Bool} {xs : List PartD} {r : Bs} (h : gdL d true xs = true) (hr : Rest r) : Opn (txtL xs ++ r) := by
  cases xs with
  | nil => rw [txtL_nil]; exact opn_rest hr
  | cons x xs =>
    rw [gdL] at h
    simp only [Bool.and_eq_true, Bool.true_and, Bool.not_eq_true', decide_eq_false_iff_not] at h
    have hv := view h.1.1
    rw [txtL_cons]
    cases hv with
    | text _ => exact absurd rfl h.1.2
    | hole _ => rw [txt_hole]; exact .inr ⟨_, rfl⟩
    | each _ => rw [txt_each]; exact .inr ⟨_, rfl⟩
    | cond _ => rw [txt_cond]; exact .inr ⟨_, rfl⟩
theorem name_each {n m : Bs} (h : nameB n = true) : n ≠ wEach m := by
  rintro rfl; exact no_sp h (by simp [wEach])
theorem name_if {n m : Bs} (h : nameB n = true) : n ≠ wIf m := by
  rintro rfl; exact no_sp h (by simp [wIf])
theorem rest_tag {r z w : Bs} (hw : Wd w) (h1 : w ≠ wEnd) (h2 : w ≠ wElse) (hr : Rest r) (h : r = tagT w ++ z) : False := by
  rcases hr with rfl | ⟨y, rfl⟩ | ⟨y, rfl⟩
  · simp [tagT] at h
  · exact h1 (tag_inj wd_end hw h).1.symm
  · exact h2 (tag_inj wd_else hw h).1.symm
theorem each_end (n : Bs) : wEach n ≠ wEnd := by simp [wEach, wEnd]
theorem each_else (n : Bs) : wEach n ≠ wElse := by simp [wEach, wElse]
theorem if_end (n : Bs) : wIf n ≠ wEnd := by simp [wIf, wEnd]
theorem if_else (n : Bs) : wIf n ≠ wElse := by simp [wIf, wElse]
theorem each_if (n m : Bs) : wEach n ≠ wIf m := by simp [wEach, wIf]
theorem end_else : wEnd ≠ wElse := by decide
/-- A part that is no text stands not at the end. -/
theorem rest_part {d : Nat} {x : PartD} {r s : Bs} (hv : Vw d x) (hr : Rest r) (h : r = txtP x ++ s) : False := by
  cases hv with
  | text ht => rw [txt_text] at h; exact text_open ht (opn_rest hr) h.symm
  | hole h1 h2 h3 => rw [txt_hole] at h; exact rest_tag (wd_name h1) h2 h3 hr h
  | each h1 => rw [txt_each, List.append_assoc] at h; exact rest_tag (wd_each h1) (each_end _) (each_else _) hr h
  | cond h1 => rw [txt_cond, List.append_assoc] at h; exact rest_tag (wd_if h1) (if_end _) (if_else _) hr h
theorem opn_part {d : Nat} {x : PartD} {s : Bs} (hv : Vw d x) (hk : x.kind ≠ 1) : Opn (txtP x ++ s) := by
  cases hv with
  | text _ => exact absurd rfl hk
  | hole _ => rw [txt_hole]; exact .inr ⟨_, rfl⟩
  | each _ => rw [txt_each]; exact .inr ⟨_, rfl⟩
  | cond _ => rw [txt_cond]; exact .inr ⟨_, rfl⟩
theorem txt_inj : ∀ (n : Nat) (xs ys : List PartD) (d d' : Nat) (b b' : Bool) (r r' : Bs), wtL xs < n → gdL d b xs = true → gdL d' b' ys = true → Rest r → Rest r' →
    txtL xs ++ r = txtL ys ++ r' → xs = ys ∧ r = r' := by
  intro n
  induction n with
  | zero => intro xs _ _ _ _ _ _ _ h; omega
  | succ n ih =>
  intro xs ys d d' b b' r r' hn hg hg' hr hr' h
  cases xs with
  | nil =>
    cases ys with
    | nil => rw [txtL_nil] at h; exact ⟨rfl, h⟩
    | cons y ys =>
      exfalso
      rw [gdL] at hg'
      simp only [Bool.and_eq_true] at hg'
      rw [txtL_nil, txtL_cons, List.append_assoc, List.nil_append] at h
      exact rest_part (view hg'.1.1) hr h
  | cons x xs =>
    rw [gdL] at hg
    simp only [Bool.and_eq_true] at hg
    have hv := view hg.1.1
    cases ys with
    | nil =>
      exfalso
      rw [txtL_nil, txtL_cons, List.append_assoc, List.nil_append] at h
      exact rest_part hv hr' h.symm
    | cons y ys =>
      rw [gdL] at hg'
      simp only [Bool.and_eq_true] at hg'
      have hv' := view hg'.1.1
      have hw : wtL (x :: xs) = 1 + wtP x + wtL xs := by rw [show x :: xs = [x] ++ xs from rfl, wtL_append, wtL_one]
      rw [txtL_cons, txtL_cons, List.append_assoc, List.append_assoc] at h
      have next : ∀ {r r'}, Rest r → Rest r' → txtL xs ++ r = txtL ys ++ r' → xs = ys ∧ r = r' := fun hr hr' e => ih xs ys _ _ _ _ _ _ (by omega) hg.2 hg'.2 hr hr' e
      have hq : y.kind ≠ 1 → Opn (txtP y ++ (txtL ys ++ r')) := opn_part hv'
      have hqx : x.kind ≠ 1 → Opn (txtP x ++ (txtL xs ++ r)) := opn_part hv
      cases hv with
      | @text t ht =>
        cases hv' with
        | @text t' ht' =>
          rw [txt_text, txt_text] at h
          have o1 := opn_parts (d := d) (b := true) hg.2 hr
          have o2 := opn_parts (d := d') (b := true) hg'.2 hr'
          obtain ⟨e1, e2⟩ := text_inj ht ht' o1 o2 h
          obtain ⟨e3, e4⟩ := next hr hr' e2
          exact ⟨by rw [e1, e3], e4⟩
        | hole _ => rw [txt_text] at h; exact (text_open ht (hq (by simp [PartD.kind])) h).elim
        | each _ => rw [txt_text] at h; exact (text_open ht (hq (by simp [PartD.kind])) h).elim
        | cond _ => rw [txt_text] at h; exact (text_open ht (hq (by simp [PartD.kind])) h).elim
      | @hole m hm m1 m2 =>
        cases hv' with
        | text ht => rw [txt_text] at h; exact (text_open ht (hqx (by simp [PartD.kind])) h.symm).elim
        | hole hm' _ _ =>
          rw [txt_hole, txt_hole] at h
          obtain ⟨e1, e2⟩ := tag_inj (wd_name hm) (wd_name hm') h
          obtain ⟨e3, e4⟩ := next hr hr' e2
          exact ⟨by rw [e1, e3], e4⟩
        | each hm' _ =>
          rw [txt_hole, txt_each] at h; simp only [List.append_assoc, List.nil_append] at h
          exact (name_each hm (tag_inj (wd_name hm) (wd_each hm') h).1).elim
        | cond hm' _ _ =>
          rw [txt_hole, txt_cond] at h; simp only [List.append_assoc, List.nil_append] at h
          exact (name_if hm (tag_inj (wd_name hm) (wd_if hm') h).1).elim
      | @each m ps hm hp =>
        rw [wtP_mk] at hw
        cases hv' with
        | text ht => rw [txt_text] at h; exact (text_open ht (hqx (by simp [PartD.kind])) h.symm).elim
        | hole hm' _ _ =>
          rw [txt_hole, txt_each] at h; simp only [List.append_assoc, List.nil_append] at h
          exact (name_each hm' (tag_inj (wd_each hm) (wd_name hm') h).1.symm).elim
        | @each m' ps' hm' hp' =>
          rw [txt_each, txt_each] at h; simp only [List.append_assoc, List.nil_append] at h
          obtain ⟨e1, e2⟩ := tag_inj (wd_each hm) (wd_each hm') h
          obtain ⟨e3, e4⟩ := ih ps ps' _ _ _ _ _ _ (by omega) hp hp' (.inr (.inl ⟨_, rfl⟩)) (.inr (.inl ⟨_, rfl⟩)) e2
          have e5 := (tag_inj wd_end wd_end e4).2
          obtain ⟨e6, e7⟩ := next hr hr' (by simpa using e5)
          have e8 : m = m' := by simpa [wEach] using e1
          exact ⟨by rw [e8, e3, e6], e7⟩
        | cond hm' _ _ =>
          rw [txt_each, txt_cond] at h; simp only [List.append_assoc, List.nil_append] at h
          exact (each_if _ _ (tag_inj (wd_each hm) (wd_if hm') h).1).elim
      | @cond m ps os hm hp ho =>
        rw [wtP_mk] at hw
        cases hv' with
        | text ht => rw [txt_text] at h; exact (text_open ht (hqx (by simp [PartD.kind])) h.symm).elim
        | hole hm' _ _ =>
          rw [txt_hole, txt_cond] at h; simp only [List.append_assoc, List.nil_append] at h
          exact (name_if hm' (tag_inj (wd_if hm) (wd_name hm') h).1.symm).elim
        | each hm' _ =>
          rw [txt_each, txt_cond] at h; simp only [List.append_assoc, List.nil_append] at h
          exact (each_if _ _ (tag_inj (wd_if hm) (wd_each hm') h).1.symm).elim
        | @cond m' ps' os' hm' hp' ho' =>
          rw [txt_cond, txt_cond] at h; simp only [List.append_assoc, List.nil_append] at h
          obtain ⟨e1, e2⟩ := tag_inj (wd_if hm) (wd_if hm') h
          have e8 : m = m' := by simpa [wIf] using e1
          by_cases h0 : os = []
          · by_cases h0' : os' = []
            · rw [if_pos h0, if_pos h0'] at e2
              (try simp only [List.append_assoc, List.nil_append] at e2)
              obtain ⟨e3, e4⟩ := ih ps ps' _ _ _ _ _ _ (by omega) hp hp' (.inr (.inl ⟨_, rfl⟩)) (.inr (.inl ⟨_, rfl⟩)) e2
              obtain ⟨e6, e7⟩ := next hr hr' (tag_inj wd_end wd_end e4).2
              exact ⟨by rw [e8, e3, e6, h0, h0'], e7⟩
            · rw [if_pos h0, if_neg h0'] at e2
              (try simp only [List.append_assoc, List.nil_append] at e2)
              obtain ⟨e3, e4⟩ := ih ps ps' _ _ _ _ _ _ (by omega) hp hp' (.inr (.inl ⟨_, rfl⟩)) (.inr (.inr ⟨_, rfl⟩)) e2
              exact (end_else (tag_inj wd_end wd_else e4).1).elim
          · by_cases h0' : os' = []
            · rw [if_neg h0, if_pos h0'] at e2
              (try simp only [List.append_assoc, List.nil_append] at e2)
              obtain ⟨e3, e4⟩ := ih ps ps' _ _ _ _ _ _ (by omega) hp hp' (.inr (.inr ⟨_, rfl⟩)) (.inr (.inl ⟨_, rfl⟩)) e2
              exact (end_else (tag_inj wd_else wd_end e4).1.symm).elim
            · rw [if_neg h0, if_neg h0'] at e2
              (try simp only [List.append_assoc, List.nil_append] at e2)
              obtain ⟨e3, e4⟩ := ih ps ps' _ _ _ _ _ _ (by omega) hp hp' (.inr (.inr ⟨_, rfl⟩)) (.inr (.inr ⟨_, rfl⟩)) e2
              obtain ⟨f1, f2⟩ := ih os os' _ _ _ _ _ _ (by omega) ho ho' (.inr (.inl ⟨_, rfl⟩)) (.inr (.inl ⟨_, rfl⟩)) (tag_inj wd_else wd_else e4).2
              have e5 := (tag_inj wd_end wd_end f2).2
              obtain ⟨e6, e7⟩ := next hr hr' (by simpa using e5)
              exact ⟨by rw [e8, e3, e6, f1], e7⟩
theorem txtL_inj {xs ys : List PartD} (h : partsB xs = true) (h' : partsB ys = true) (e : txtL xs = txtL ys) : xs = ys := by
  unfold partsB at *
  simp only [Bool.and_eq_true] at *
  exact (txt_inj _ xs ys 3 3 false false [] [] (Nat.lt_succ_self _) h.2 h'.2 (.inl rfl) (.inl rfl) (by rw [e])).1
end Go.Proofs.Ytnbjogilidfkdaa
