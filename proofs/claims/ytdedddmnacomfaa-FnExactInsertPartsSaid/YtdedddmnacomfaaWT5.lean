/- The laws' own copies of parts, as trees of rows; trees are marked. -/
import Derived.Test.YtdedddmnacomfaaWFU
import Derived.Test.YtdedddmnacomfaaWLP
import Derived.Test.YtdedddmnacomfaaWT2

namespace Go.Proofs.Ytdedddmnacomfaa
attribute [local irreducible] awp arun acalm FinP Fin AX.then AX.inBlock Again aG gsel amix amixN amixC aop aopc aopd cutK
attribute [local go_sem] aBSliceD aSlice aSliceC boundOf aMk aCall aCallC aLenL aLen aPick_t aPick_f aNil aAlloc aBox aBuild bldPV aBSlice bsPV aApp newsOf destOf drp aConvX aConv aConvInt aLoad cellsAt aStore cellsPV setAt aFld aField aIdx aIndex aUn aBin' aBin aMax aExtract pvOf PV.isCell nmbL PV.nmb List.map_cons List.map_nil List.all_cons List.all_nil Bool.and_true Bool.true_and if_true if_false List.getD_cons_zero List.getD_cons_succ List.getD_nil Option.isSome_some true_and and_true and_self eq_self true_or or_true List.drop_zero List.drop_succ_cons List.drop_nil List.take_zero List.take_succ_cons List.take_nil List.length_cons List.length_nil List.length_map Option.getD_some Option.getD_none List.nil_append List.cons_append List.append_nil Option.some.injEq exists_eq_left' List.getElem?_cons_zero List.getElem?_cons_succ Int.toNat_natCast Int.natCast_inj toNat_succ Nat.zero_add res res1 resC owns owns1 ownsC List.flatMap_cons List.flatMap_nil List.flatten_cons List.flatten_nil List.mem_cons List.not_mem_nil or_false false_or forall_eq forall_eq_or_imp isFro frz frz1 pureC tabA isBld List.cons.injEq PV.seq.injEq PV.int.injEq PV.str.injEq PV.bool.injEq PV.agg.injEq inR tab Γof aRes packR Option.map_some Option.map_none rel Prod.exists exists_and_left exists_eq_left and_assoc beq_self_eq_true Bool.not_true Bool.not_false decide_true decide_false List.set_cons_zero List.set_cons_succ rst_nil rst_cons
attribute [local go_sem ↓] evT upd_def aop aopc aopd
set_option maxRecDepth 100000
set_option linter.unusedVariables false
set_option linter.unusedSimpArgs false
open Go.RowKit
def lvT5_13 : Nat → List Nat
  | 0 => [0]
  | 1 => [0, 3]
  | 2 => [0, 3, 4]
  | 3 => [0, 3, 4, 11]
  | 4 => [0, 3, 4]
  | 5 => [0, 3, 4]
  | 6 => [2]
  | _ => []
def lvT5_17 : Nat → List Nat
  | 0 => [0, 1]
  | 1 => [0, 1, 5]
  | 2 => [0, 1, 5, 9]
  | 3 => [0, 1, 5]
  | 4 => [0, 1, 5]
  | 5 => [0, 1, 5]
  | 6 => [0, 1, 5]
  | 7 => [0, 1, 5]
  | 8 => [0, 1, 5]
  | 9 => [0, 1, 5]
  | 10 => [0, 1, 5]
  | 11 => [0, 1, 5]
  | 12 => [4]
  | _ => []
def lvT5_22 : Nat → List Nat
  | 0 => [0, 1]
  | 1 => [0, 1, 5]
  | 2 => [0, 1, 5, 9]
  | 3 => [0, 1, 5]
  | 4 => [0, 1, 5, 18]
  | 5 => [4]
  | 6 => [0, 1, 5]
  | 7 => [0, 1, 5, 28]
  | 8 => [4]
  | 9 => [0, 1, 5]
  | 10 => [0, 1, 5, 38]
  | 11 => [4]
  | 12 => [0, 1, 5]
  | 13 => [0, 1, 5]
  | 14 => [0, 1, 5, 49]
  | 15 => [4]
  | 16 => [0, 1, 5]
  | 17 => [0, 1, 5, 58]
  | 18 => [4]
  | 19 => [4]
  | _ => []
--LV=T5
mutual
/-- The cells of a part, and the rows that hang on them. -/
def TP : PartD → List PV → List Node → Prop
  | .mk k t n ps os, a, N => ∃ v1 r1 N1 v2 r2 N2, a = [.int .i64 k, .str t, .str n, .raw v1, .raw v2] ∧ TL ps r1 N1 ∧ TL os r2 N2 ∧ N = ⟨v1, 63, 5, r1⟩ :: N1 ++ ⟨v2, 63, 5, r2⟩ :: N2
def TL : List PartD → List (List PV) → List Node → Prop
  | [], rs, N => rs = [] ∧ N = []
  | x :: xs, rs, N => ∃ a N1 rs' N2, rs = a :: rs' ∧ TP x a N1 ∧ TL xs rs' N2 ∧ N = N1 ++ N2
end
theorem TP_mk {k : Int} {t n : Bs} {ps os : List PartD} {a : List PV} {N : List Node} : TP (.mk k t n ps os) a N ↔ ∃ v1 r1 N1 v2 r2 N2, a = [.int .i64 k, .str t, .str n, .raw v1, .raw v2] ∧ TL ps r1 N1 ∧ TL os r2 N2 ∧ N = ⟨v1, 63, 5, r1⟩ :: N1 ++ ⟨v2, 63, 5, r2⟩ :: N2 := by rw [TP]
theorem TL_nil {rs : List (List PV)} {N : List Node} : TL [] rs N ↔ rs = [] ∧ N = [] := by rw [TL]
theorem TL_cons {x : PartD} {xs : List PartD} {rs : List (List PV)} {N : List Node} : TL (x :: xs) rs N ↔ ∃ a N1 rs' N2, rs = a :: rs' ∧ TP x a N1 ∧ TL xs rs' N2 ∧ N = N1 ++ N2 := by rw [TL]
theorem TL_len : ∀ {xs : List PartD} {rs : List (List PV)} {N : List Node}, TL xs rs N → rs.length = xs.length
  | [], rs, N, h => by rw [TL_nil] at h; rw [h.1]; rfl
  | x :: xs, rs, N, h => by
    rw [TL_cons] at h
    obtain ⟨a, N1, rs', N2, rfl, _, h2, _⟩ := h
    rw [List.length_cons, List.length_cons, TL_len h2]
theorem TL_app : ∀ {xs ys : List PartD} {rs qs : List (List PV)} {N M : List Node}, TL xs rs N → TL ys qs M → TL (xs ++ ys) (rs ++ qs) (N ++ M)
  | [], ys, rs, qs, N, M, h, h' => by
    rw [TL_nil] at h
    obtain ⟨rfl, rfl⟩ := h
    exact h'
  | x :: xs, ys, rs, qs, N, M, h, h' => by
    rw [TL_cons] at h
    obtain ⟨a, N1, rs', N2, rfl, h1, h2, rfl⟩ := h
    rw [List.cons_append, List.cons_append, TL_cons]
    exact ⟨a, N1, _, _, rfl, h1, TL_app h2 h', by rw [List.append_assoc]⟩
theorem TL_one {x : PartD} {a : List PV} {N : List Node} (h : TP x a N) : TL [x] [a] N := by
  rw [TL_cons]
  exact ⟨a, N, [], [], rfl, h, TL_nil.2 ⟨rfl, rfl⟩, by rw [List.append_nil]⟩
theorem TL_snoc {xs : List PartD} {k : Nat} {x : PartD} (hx : xs[k]? = some x) {rs : List (List PV)} {N M : List Node} {a : List PV} (h : TL (xs.take k) rs N) (ha : TP x a M) : TL (xs.take (k + 1)) (rs ++ [a]) (N ++ M) := by
  rw [take_snoc' hx]
  exact TL_app h (TL_one ha)
theorem TP_plain {x : PartD} {a : List PV} {N : List Node} (h : TP x a N) : a.all plainR = true ∧ a.length = 5 := by
  cases x with | mk k t n ps os =>
  rw [TP_mk] at h
  obtain ⟨v1, r1, N1, v2, r2, N2, rfl, _⟩ := h
  exact ⟨by simp [plainR, plainU], rfl⟩
theorem TL_plain : ∀ {xs : List PartD} {rs : List (List PV)} {N : List Node}, TL xs rs N → rs.all (·.all plainR) = true
  | [], rs, N, h => by rw [TL_nil] at h; rw [h.1]; rfl
  | x :: xs, rs, N, h => by
    rw [TL_cons] at h
    obtain ⟨a, N1, rs', N2, rfl, h1, h2, _⟩ := h
    rw [List.all_cons, TL_plain h2, (TP_plain h1).1]; rfl
/-- What such rows stand for. -/
theorem rep_node {w : World} {S : Nat → Prop} {nd : Node} {es : List (List PV)} (h : NodeOk w nd) (hS : ∀ b, nd.v.ownBlock = some b → S b) (hl : es.length = nd.es.length)
    (he : ∀ b, nd.v.ownBlock = some b → S b → RepE nd.es ⟨w, fun _ => False, fun _ => none⟩ nd.s b 0 → RepE es ⟨w, S, fun _ => none⟩ nd.s b 0) : Rep (.seq es) ⟨w, S, fun _ => none⟩ nd.v := by
  obtain ⟨vs, ⟨h0, h1⟩, h2, h3, h4⟩ := h
  unfold Rep
  rcases h1 with ⟨e, h0'⟩ | ⟨g, cap, cur, e, _, hh, hn, hcap, hcs, htk⟩
  · have : es = [] := List.eq_nil_of_length_eq_zero (by rw [hl]; exact h0')
    subst this
    exact ⟨none, 0, e, Nat.le_refl _, by simp [maxLen], .inl rfl⟩
  · have hob : nd.v.ownBlock = some g := by rw [e]; rfl
    refine ⟨some ⟨g, 0, none⟩, cap, by rw [hl]; exact e, by rw [hl]; exact hn, hcap, ?_⟩
    by_cases he0 : es = []
    · exact .inl he0
    · refine .inr ⟨g, 0, nd.s, rfl, hS g hob, he g hob (hS g hob) ?_⟩
      rw [RepE.flat]
      refine ⟨h3.1, RepA.of_vals h2 (fun j u hj => ?_) h3.2⟩
      show w.cell? ⟨g, 0 + j, none⟩ = some u
      rw [Nat.zero_add, cell_of_row w g j cur nd.e (0, 0) hh]
      rw [← htk, List.getElem?_take] at hj
      split at hj
      · simpa using hj
      · cases hj
theorem encPs_cons (x : PartD) (xs : List PartD) : encPs (x :: xs) = encP x :: encPs xs := by simp [encPs]
mutual
theorem rep_TP {w : World} {S : Nat → Prop} : ∀ (x : PartD) (a : List PV) (N : List Node) (b o : Nat), TP x a N → (∀ nd ∈ N, NodeOk w nd ∧ ∀ b, nd.v.ownBlock = some b → S b) → RepA a ⟨w, fun _ => False, fun _ => none⟩ b o → RepA (encP x) ⟨w, S, fun _ => none⟩ b o
  | .mk k t n ps os, a, N, b, o, h, hN, hr => by
    rw [TP_mk] at h
    obtain ⟨v1, r1, N1, v2, r2, N2, rfl, h1, h2, rfl⟩ := h
    have q1 := @rep_TL w S ps r1 N1
    have q2 := @rep_TL w S os r2 N2
    have k1 : Rep (.seq (encPs ps)) ⟨w, S, fun _ => none⟩ v1 := rep_node (nd := ⟨v1, 63, 5, r1⟩) (hN _ (by simp)).1 (hN _ (by simp)).2 (by rw [encPs_length, TL_len h1]) fun b _ _ hr => q1 b 0 h1 (fun nd hnd => hN nd (by simp [hnd])) hr
    have k2 : Rep (.seq (encPs os)) ⟨w, S, fun _ => none⟩ v2 := rep_node (nd := ⟨v2, 63, 5, r2⟩) (hN _ (by simp)).1 (hN _ (by simp)).2 (by rw [encPs_length, TL_len h2]) fun b _ _ hr => q2 b 0 h2 (fun nd hnd => hN nd (by simp [hnd])) hr
    rw [encP_mk]
    simp only [RepA.cons_iff] at hr ⊢
    obtain ⟨⟨c1, x1, d1, e1⟩, ⟨c2, x2, d2, e2⟩, ⟨c3, x3, d3, e3⟩, ⟨c4, x4, d4, e4⟩, ⟨c5, x5, d5, e5⟩, _⟩ := hr
    unfold Rep at e4 e5
    subst e4 e5
    exact ⟨⟨c1, x1, d1, rep_plainU rfl e1⟩, ⟨c2, x2, d2, rep_plainU rfl e2⟩, ⟨c3, x3, d3, rep_plainU rfl e3⟩, ⟨rfl, _, d4, k1⟩, ⟨rfl, _, d5, k2⟩, RepA.nil⟩
theorem rep_TL {w : World} {S : Nat → Prop} : ∀ (xs : List PartD) (rs : List (List PV)) (N : List Node) (b o : Nat), TL xs rs N → (∀ nd ∈ N, NodeOk w nd ∧ ∀ b, nd.v.ownBlock = some b → S b) → RepE rs ⟨w, fun _ => False, fun _ => none⟩ 5 b o → RepE (encPs xs) ⟨w, S, fun _ => none⟩ 5 b o
  | [], rs, N, b, o, h, hN, hr => by rw [encPs_nil]; exact RepE.nil
  | x :: xs, rs, N, b, o, h, hN, hr => by
    rw [TL_cons] at h
    obtain ⟨a, N1, rs', N2, rfl, h1, h2, rfl⟩ := h
    rw [RepE.cons_iff] at hr
    rw [encPs_cons, RepE.cons_iff]
    exact ⟨by cases x; rw [encP_mk]; rfl, rep_TP x a N1 b o h1 (fun nd hnd => hN nd (by simp [hnd])) hr.2.1, rep_TL xs rs' N2 b (o + 5) h2 (fun nd hnd => hN nd (by simp [hnd])) hr.2.2⟩
end
/-- A tree of parts. -/
def QP (es : List (List PV)) (v : Value) (N : List Node) : Prop := ∃ xs rs N', es = encPs xs ∧ TL xs rs N' ∧ N = ⟨v, 63, 5, rs⟩ :: N'
theorem rep_root {xs : List PartD} {rs : List (List PV)} {N : List Node} {v : Value} {w : World} {S : Nat → Prop} (h : TL xs rs N) (hh : HeapR (⟨v, 63, 5, rs⟩ :: N) w S) : Rep (.seq (encPs xs)) ⟨w, S, fun _ => none⟩ v :=
  rep_node (nd := ⟨v, 63, 5, rs⟩) (hh.1 _ List.mem_cons_self) (fun b hb => by rw [hh.2.2]; exact ⟨_, List.mem_cons_self, hb⟩) (by rw [encPs_length, TL_len h])
    fun b _ _ hr => rep_TL xs rs N b 0 h (fun nd hnd => ⟨hh.1 nd (List.mem_cons_of_mem _ hnd), fun b hb => by rw [hh.2.2]; exact ⟨nd, List.mem_cons_of_mem _ hnd, hb⟩⟩) hr
def tjL (n : Nat) : AC := jinC 63 5 (α := List PartD) (fun x => [.seq (encPs x)]) (fun x => wtL x < n ∧ okL x ∧ wtL x ≤ 1048576) (fun x es N => TL x es N)
def tjP (n : Nat) : AC := hpC (α := PartD) (fun x => [.agg (encP x)]) (fun x => wtP x < n ∧ okP x ∧ wtP x ≤ 1048576) (fun x r N => ∃ a, r = .agg a ∧ a.all PV.isCell = true ∧ TP x a N)
theorem tjP_of (n : Nat) (h : ACok Try.prog 13 (tjL n)) : ACok Try.prog 48 (tjP n) := by
  refine hpC_ok 1 (tabA_cons h (tabA_nil (Γof_ok tab_nil))) tab_nil mixed [.cell 2 63] Try.func48 rfl rfl (by kernel_rfl) (by kernel_rfl) (fun _ => rfl) (by kernel_rfl) (fun x => by simp [nmbL, PV.nmb, encP_nmb]) ?_
  rintro ⟨kd, t, nm, ps, os⟩ A K ⟨hn, hok, h1⟩ hK
  have hx2 := encP_mk kd t nm ps os
  have hw := wtP_mk kd t nm ps os
  rw [okP_mk] at hok
  simp only [hx2, hw] at *
  obtain ⟨o1, o2, o3, o4, o5, o6⟩ := hok
  clear hx2 hw
  unfold entry
  simp only [mkM]
  repeat' (first | ((first | apply qa1 | apply qa2 | apply qa3 | apply qh1 | apply qh2 | apply qg1 rfl | apply qcd); (try intro K hk); focus (simp only [go_sem, Nat.reduceEqDiff, Nat.reduceAdd, Nat.reduceLeDiff, Nat.reduceLT, Nat.reduceSub, Int.reduceToNat, ↓reduceIte, reduceCtorEq]; first | exact rfl | ((repeat (refine And.intro ?_ ?_; focus (first | omega | assumption | with_reducible rfl))); intros; apply hk; clear hk K))) | apply qw8 | apply qw1 | apply qw6 | apply qt1 | apply qw5 | apply qw2 | apply qw9 | apply qt2 | apply qt3 | apply qt4 | apply qt5 | apply qt6 | apply qw3 | apply qw4 | apply qj1 | apply qj2 | apply qj3 | apply qj4 | apply qj5 | apply qu1 | apply qu2 | (refine qj6 ?_ ?_ <;> intro hc <;> (try simp only [hc]) <;> (try simp only [decide_eq_true_eq, decide_eq_false_iff_not, Bool.not_eq_true', Bool.not_eq_false', Bool.not_eq_true, reduceCtorEq] at hc) <;> (try (exfalso; omega))) | (refine qt7 ?_ ?_; focus decide) | (refine qw7 ?_ ?_ ?_; (focus (decide +kernel)); (focus (decide +kernel))))
  (refine qa1 fun K hk => ?_); simp only [go_sem, ↓upd_def, ↓evT, Nat.reduceEqDiff, Nat.reduceAdd, Nat.reduceLeDiff, Nat.reduceLT, Nat.reduceSub, Int.reduceToNat, ↓reduceIte, reduceCtorEq, ↓aop, ↓aopc, ↓aopd]; repeat (refine And.intro ?_ ?_; focus (first | omega | assumption | with_reducible rfl | (simp only [go_sem, ↓upd_def, ↓evT, Nat.reduceEqDiff, Nat.reduceAdd, Nat.reduceLeDiff, Nat.reduceLT, Nat.reduceSub, Int.reduceToNat, ↓reduceIte, reduceCtorEq, ↓aop, ↓aopc, ↓aopd]; done)))
  unfold tjL jinC
  refine ⟨ps, A, rfl, rfl, ⟨by omega, o5, by omega⟩, ?_⟩
  rintro v1 r1 N1 hv1 hT1
  apply hk; clear hk K
  repeat' (first | ((first | apply qa1 | apply qa2 | apply qa3 | apply qh1 | apply qh2 | apply qg1 rfl | apply qcd); (try intro K hk); focus (simp only [go_sem, Nat.reduceEqDiff, Nat.reduceAdd, Nat.reduceLeDiff, Nat.reduceLT, Nat.reduceSub, Int.reduceToNat, ↓reduceIte, reduceCtorEq, hv1]; first | exact rfl | ((repeat (refine And.intro ?_ ?_; focus (first | omega | assumption | with_reducible rfl))); intros; apply hk; clear hk K))) | apply qw8 | apply qw1 | apply qw6 | apply qt1 | apply qw5 | apply qw2 | apply qw9 | apply qt2 | apply qt3 | apply qt4 | apply qt5 | apply qt6 | apply qw3 | apply qw4 | apply qj1 | apply qj2 | apply qj3 | apply qj4 | apply qj5 | apply qu1 | apply qu2 | (refine qj6 ?_ ?_ <;> intro hc <;> (try simp only [hc]) <;> (try simp only [decide_eq_true_eq, decide_eq_false_iff_not, Bool.not_eq_true', Bool.not_eq_false', Bool.not_eq_true, reduceCtorEq] at hc) <;> (try (exfalso; omega))) | (refine qt7 ?_ ?_; focus decide) | (refine qw7 ?_ ?_ ?_; (focus (decide +kernel)); (focus (decide +kernel))))
  (refine qa1 fun K hk => ?_); simp only [go_sem, ↓upd_def, ↓evT, Nat.reduceEqDiff, Nat.reduceAdd, Nat.reduceLeDiff, Nat.reduceLT, Nat.reduceSub, Int.reduceToNat, ↓reduceIte, reduceCtorEq, ↓aop, ↓aopc, ↓aopd, hv1]; repeat (refine And.intro ?_ ?_; focus (first | omega | assumption | with_reducible rfl | (simp only [go_sem, ↓upd_def, ↓evT, Nat.reduceEqDiff, Nat.reduceAdd, Nat.reduceLeDiff, Nat.reduceLT, Nat.reduceSub, Int.reduceToNat, ↓reduceIte, reduceCtorEq, ↓aop, ↓aopc, ↓aopd, hv1]; done)))
  unfold tjL jinC
  refine ⟨os, A ++ ⟨v1, 63, 5, r1⟩ :: N1, rfl, rfl, ⟨by omega, o6, by omega⟩, ?_⟩
  rintro v2 r2 N2 hv2 hT2
  apply hk; clear hk K
  repeat' (first | ((first | apply qa1 | apply qa2 | apply qa3 | apply qh1 | apply qh2 | apply qg1 rfl | apply qcd); (try intro K hk); focus (simp only [go_sem, Nat.reduceEqDiff, Nat.reduceAdd, Nat.reduceLeDiff, Nat.reduceLT, Nat.reduceSub, Int.reduceToNat, ↓reduceIte, reduceCtorEq, hv1, hv2]; first | exact rfl | ((repeat (refine And.intro ?_ ?_; focus (first | omega | assumption | with_reducible rfl))); intros; apply hk; clear hk K))) | apply qw8 | apply qw1 | apply qw6 | apply qt1 | apply qw5 | apply qw2 | apply qw9 | apply qt2 | apply qt3 | apply qt4 | apply qt5 | apply qt6 | apply qw3 | apply qw4 | apply qj1 | apply qj2 | apply qj3 | apply qj4 | apply qj5 | apply qu1 | apply qu2 | (refine qj6 ?_ ?_ <;> intro hc <;> (try simp only [hc]) <;> (try simp only [decide_eq_true_eq, decide_eq_false_iff_not, Bool.not_eq_true', Bool.not_eq_false', Bool.not_eq_true, reduceCtorEq] at hc) <;> (try (exfalso; omega))) | (refine qt7 ?_ ?_; focus decide) | (refine qw7 ?_ ?_ ?_; (focus (decide +kernel)); (focus (decide +kernel))))
  ((first | refine fin_H ?_ | refine fin_He ?_ | refine fin_J ?_ | refine fin_Je ?_ | refine fin_Y ?_ | refine fin_K ?_ | refine fin_T ?_ | refine fin_M ?_); simp only [go_sem, not_false_eq_true, ne_eq, ↓upd_def, Nat.reduceEqDiff, Nat.reduceAdd, ↓reduceIte, reduceCtorEq])
  exact ⟨Nat.le_refl _, ⟨v1, 63, 5, r1⟩ :: N1 ++ ⟨v2, 63, 5, r2⟩ :: N2, by simp, hK _ _ ⟨_, rfl, by simp [PV.isCell, hv1, hv2], TP_mk.2 ⟨v1, r1, N1, v2, r2, N2, rfl, hT1, hT2, rfl⟩⟩⟩
set_option maxHeartbeats 4000000 in
theorem tjL_of (n : Nat) (h : ACok Try.prog 48 (tjP n)) : ACok Try.prog 13 (tjL (n + 1)) := by
  refine jinC_ok 1 (tabA_cons h (tabA_nil (Γof_ok tab_nil))) tab_nil mixed [.tmp 2] Try.func13 rfl rfl (by kernel_rfl) (by kernel_rfl) (fun _ => rfl) (by kernel_rfl) (fun x => by simp [nmbL, PV.nmb]) ?_
  rintro xs A K ⟨hn, hok, h1⟩ hK
  have hlw := len_le_wtL xs
  unfold entry
  simp only [mkM]
  repeat' (first | ((first | apply qwd | apply qa1 | apply qa2 | apply qa3 | apply qh1 | apply qh2 | apply qg1 rfl | apply qcd); (try intro K hk); focus (simp only [lvT5_13, mkT, go_sem, Nat.reduceEqDiff, Nat.reduceAdd, Nat.reduceLeDiff, Nat.reduceLT, Nat.reduceSub, Int.reduceToNat, ↓reduceIte, reduceCtorEq]; first | exact rfl | ((repeat (refine And.intro ?_ ?_; focus (first | omega | assumption | with_reducible rfl))); intros; apply hk; clear hk K))) | apply qw8 | apply qw1 | refine qwc lvT5_13 ?_ | apply qt1 | apply qw5 | apply qw2 | apply qw9 | apply qt2 | apply qt3 | apply qt4 | apply qt5 | apply qt6 | apply qw3 | apply qw4 | apply qj1 | apply qj2 | apply qj3 | apply qj4 | apply qj5 | apply qu1 | apply qu2 | (refine qj6 ?_ ?_ <;> intro hc <;> (try simp only [hc]) <;> (try simp only [decide_eq_true_eq, decide_eq_false_iff_not, Bool.not_eq_true', Bool.not_eq_false', Bool.not_eq_true, reduceCtorEq] at hc) <;> (try (exfalso; omega))) | (refine qt7 ?_ ?_; focus decide) | (refine qw7 ?_ ?_ ?_; (focus (decide +kernel)); (focus (decide +kernel))))
  refine s_loop (ι := Nat × List (List PV) × List Node) (fun i => [(0, .seq (encPs xs)), (3, .own 1), (4, .int .i64 i.1)]) (fun i => [(0, .gen heapP [encL (A ++ i.2.2)]), (1, .row 63 5 (i.2.1 ++ List.replicate (xs.length - i.1) zP))]) 2 (fun i => i.1 ≤ xs.length ∧ TL (xs.take i.1) i.2.1 i.2.2) (fun i => xs.length - i.1) (0, [], []) (by omega) ⟨Nat.zero_le _, TL_nil.2 ⟨rfl, rfl⟩⟩ ?_ ?_
  · simp [fits, fitsT, fitsM, upd_def, PV.nmb, nmbL, MB.nmb, List.getD_cons_zero, List.getD_cons_succ, zP]
  rintro ⟨k, rs, N⟩ ⟨hk, hT⟩
  dsimp only at hk hT
  simp only [mkS, mkT, mkM]
  have hL1 : rs.length = k := by rw [TL_len hT, List.length_take]; omega
  by_cases hkl : k < xs.length
  · obtain ⟨⟨kd, t, nm, ps, os⟩, hx⟩ := get_some (xs := xs) (k := k) hkl
    have ws := wtL_split hx
    have hok' := okL_get hok hx
    have hget : (encPs xs)[k]? = some [.int .i64 kd, .str t, .str nm, .seq (encPs ps), .seq (encPs os)] := by rw [encPs_get, hx, Option.map_some, encP_mk]
    have hL2 : (rs ++ List.replicate (xs.length - k) zP).length = xs.length := by simp; omega
    have hgz : (rs ++ List.replicate (xs.length - k) zP)[k]? = some zP := by
      rw [List.getElem?_append_right (by omega), List.getElem?_replicate, if_pos (by omega)]
    have hse : ∀ a, (rs ++ List.replicate (xs.length - k) zP).set k a = (rs ++ [a]) ++ List.replicate (xs.length - (k + 1)) zP := by
      intro a
      rw [List.set_append_right _ _ (by omega), hL1, Nat.sub_self, show xs.length - k = (xs.length - (k + 1)) + 1 by omega, List.replicate_succ, List.set_cons_zero, List.append_assoc]
      rfl
    have hzl : zP.length = 5 := rfl
    have hzd : List.drop 5 zP = [] := rfl
    repeat' (first | ((first | apply qwd | apply qa1 | apply qa2 | apply qa3 | apply qh1 | apply qh2 | apply qg1 rfl | apply qcd); (try intro K hk); focus (simp only [lvT5_13, mkT, go_sem, Nat.reduceEqDiff, Nat.reduceAdd, Nat.reduceLeDiff, Nat.reduceLT, Nat.reduceSub, Int.reduceToNat, ↓reduceIte, reduceCtorEq, hget, hL2, hgz, hse, hzl, hzd]; first | exact rfl | ((repeat (refine And.intro ?_ ?_; focus (first | omega | assumption | with_reducible rfl))); intros; apply hk; clear hk K))) | apply qw8 | apply qw1 | refine qwc lvT5_13 ?_ | apply qt1 | apply qw5 | apply qw2 | apply qw9 | apply qt2 | apply qt3 | apply qt4 | apply qt5 | apply qt6 | apply qw3 | apply qw4 | apply qj1 | apply qj2 | apply qj3 | apply qj4 | apply qj5 | apply qu1 | apply qu2 | (refine qj6 ?_ ?_ <;> intro hc <;> (try simp only [hc]) <;> (try simp only [decide_eq_true_eq, decide_eq_false_iff_not, Bool.not_eq_true', Bool.not_eq_false', Bool.not_eq_true, reduceCtorEq] at hc) <;> (try (exfalso; omega))) | (refine qt7 ?_ ?_; focus decide) | (refine qw7 ?_ ?_ ?_; (focus (decide +kernel)); (focus (decide +kernel))))
    (refine qa1 fun K hk => ?_); simp only [go_sem, ↓upd_def, ↓evT, Nat.reduceEqDiff, Nat.reduceAdd, Nat.reduceLeDiff, Nat.reduceLT, Nat.reduceSub, Int.reduceToNat, ↓reduceIte, reduceCtorEq, ↓aop, ↓aopc, ↓aopd, hget, hL2, hgz, hse, hzl, hzd]; repeat (refine And.intro ?_ ?_; focus (first | omega | assumption | with_reducible rfl | (simp only [go_sem, ↓upd_def, ↓evT, Nat.reduceEqDiff, Nat.reduceAdd, Nat.reduceLeDiff, Nat.reduceLT, Nat.reduceSub, Int.reduceToNat, ↓reduceIte, reduceCtorEq, ↓aop, ↓aopc, ↓aopd, hget, hL2, hgz, hse, hzl, hzd]; done)))
    unfold tjP hpC
    refine ⟨.mk kd t nm ps os, A ++ N, by dsimp only; rw [encP_mk], rfl, ⟨by omega, hok', by omega⟩, ?_⟩
    rintro r M ⟨a, rfl, hac, hTP⟩
    apply hk; clear hk K
    have hTP' := hTP
    rw [TP_mk] at hTP'
    obtain ⟨v1, r1, N1, v2, r2, N2, rfl, _⟩ := hTP'
    simp only [List.all_cons, PV.isCell, Bool.and_eq_true, List.all_nil, true_and, and_true] at hac
    obtain ⟨hv1, hv2⟩ := hac
    repeat' (first | ((first | apply qwd | apply qa1 | apply qa2 | apply qa3 | apply qh1 | apply qh2 | apply qg1 rfl | apply qcd); (try intro K hk); focus (simp only [lvT5_13, mkT, go_sem, Nat.reduceEqDiff, Nat.reduceAdd, Nat.reduceLeDiff, Nat.reduceLT, Nat.reduceSub, Int.reduceToNat, ↓reduceIte, reduceCtorEq, hget, hL2, hgz, hse, hzl, hzd, hv1, hv2]; first | exact rfl | ((repeat (refine And.intro ?_ ?_; focus (first | omega | assumption | with_reducible rfl))); intros; apply hk; clear hk K))) | apply qw8 | apply qw1 | refine qwc lvT5_13 ?_ | apply qt1 | apply qw5 | apply qw2 | apply qw9 | apply qt2 | apply qt3 | apply qt4 | apply qt5 | apply qt6 | apply qw3 | apply qw4 | apply qj1 | apply qj2 | apply qj3 | apply qj4 | apply qj5 | apply qu1 | apply qu2 | (refine qj6 ?_ ?_ <;> intro hc <;> (try simp only [hc]) <;> (try simp only [decide_eq_true_eq, decide_eq_false_iff_not, Bool.not_eq_true', Bool.not_eq_false', Bool.not_eq_true, reduceCtorEq] at hc) <;> (try (exfalso; omega))) | (refine qt7 ?_ ?_; focus decide) | (refine qw7 ?_ ?_ ?_; (focus (decide +kernel)); (focus (decide +kernel))))
    refine s_again ((k + 1, rs ++ [[.int .i64 kd, .str t, .str nm, .raw v1, .raw v2]], N ++ M)) ?_ ?_ ?_ <;> (first | omega | (dsimp only; omega) | skip)
    · exact ⟨by dsimp only; omega, TL_snoc hx hT hTP⟩
    · simp [fits, fitsT, fitsM, upd_def, PV.nmb, nmbL, MB.nmb, List.getD_cons_zero, List.getD_cons_succ]
  · obtain rfl : k = xs.length := by omega
    repeat' (first | ((first | apply qwd | apply qa1 | apply qa2 | apply qa3 | apply qh1 | apply qh2 | apply qg1 rfl | apply qcd); (try intro K hk); focus (simp only [lvT5_13, mkT, go_sem, Nat.reduceEqDiff, Nat.reduceAdd, Nat.reduceLeDiff, Nat.reduceLT, Nat.reduceSub, Int.reduceToNat, ↓reduceIte, reduceCtorEq]; first | exact rfl | ((repeat (refine And.intro ?_ ?_; focus (first | omega | assumption | with_reducible rfl))); intros; apply hk; clear hk K))) | apply qw8 | apply qw1 | refine qwc lvT5_13 ?_ | apply qt1 | apply qw5 | apply qw2 | apply qw9 | apply qt2 | apply qt3 | apply qt4 | apply qt5 | apply qt6 | apply qw3 | apply qw4 | apply qj1 | apply qj2 | apply qj3 | apply qj4 | apply qj5 | apply qu1 | apply qu2 | (refine qj6 ?_ ?_ <;> intro hc <;> (try simp only [hc]) <;> (try simp only [decide_eq_true_eq, decide_eq_false_iff_not, Bool.not_eq_true', Bool.not_eq_false', Bool.not_eq_true, reduceCtorEq] at hc) <;> (try (exfalso; omega))) | (refine qt7 ?_ ?_; focus decide) | (refine qw7 ?_ ?_ ?_; (focus (decide +kernel)); (focus (decide +kernel))))
    ((first | refine fin_H ?_ | refine fin_He ?_ | refine fin_J ?_ | refine fin_Je ?_ | refine fin_Y ?_ | refine fin_K ?_ | refine fin_T ?_ | refine fin_M ?_); simp only [go_sem, not_false_eq_true, ne_eq, ↓upd_def, Nat.reduceEqDiff, Nat.reduceAdd, ↓reduceIte, reduceCtorEq])
    rw [List.take_length] at hT
    exact ⟨1, rfl, rs, by simp, N, rfl, TL_plain hT, hK _ _ hT⟩
theorem tj_all : ∀ n, ACok Try.prog 13 (tjL n) ∧ ACok Try.prog 48 (tjP n) := by
  have h0 : ACok Try.prog 13 (tjL 0) := ⟨⟨_, Try.func13, by kernel_rfl, by kernel_rfl⟩, fun c mem n av vs K hI hn hr hC => by
    obtain ⟨x, A, _, _, hp, _⟩ := hC
    omega⟩
  intro n
  induction n with
  | zero => exact ⟨h0, tjP_of 0 h0⟩
  | succ n ih => exact ⟨tjL_of n ih.2, tjP_of _ (tjL_of n ih.2)⟩
def tjC : AC := jinC 63 5 (α := List PartD) (fun x => [.seq (encPs x)]) (fun x => okL x ∧ wtL x ≤ 1048576) (fun x es N => TL x es N)
theorem tj_ok : ACok Try.prog 13 tjC := ⟨(tj_all 0).1.fn, fun c mem n av vs K hI hn hr hC => by
  obtain ⟨x, A, h1, h2, h3, h4⟩ := hC
  exact (tj_all (wtL x + 1)).1.run c mem n av vs K hI hn hr ⟨x, A, h1, h2, ⟨Nat.lt_succ_self _, h3⟩, h4⟩⟩
/-- Copies, seen from outside. -/
@[go_sem] def tjT : AC := newT QP (α := List PartD) (fun x => [.seq (encPs x)]) (fun x => okL x ∧ wtL x ≤ 1048576) (fun x => encPs x)
theorem tjT_ok : ACok Try.prog 13 tjT := newT_ok tj_ok (fun x => by simp [nmbL, PV.nmb]) (fun x v es N h => ⟨x, es, N, rfl, h, rfl⟩) (fun x v es N w S h hh => rep_root h hh)
mutual
def mnP : PartD → Nat
  | .mk _ _ _ ps os => 3 + mnL ps + mnL os
def mnL : List PartD → Nat
  | [] => 0
  | x :: xs => mnP x + mnL xs
end
mutual
def mrP : PartD → Int → PartD
  | .mk _ _ _ ps os, k => .mk k (markB (k + 1)) (markB (k + 2)) (mrL ps (k + 3)) (mrL os (k + 3 + mnL ps))
def mrL : List PartD → Int → List PartD
  | [], _ => []
  | x :: xs, k => mrP x k :: mrL xs (k + mnP x)
end
theorem mnP_mk (k : Int) (t n : Bs) (ps os : List PartD) : mnP (.mk k t n ps os) = 3 + mnL ps + mnL os := by rw [mnP]
theorem mnL_nil : mnL [] = 0 := by rw [mnL]
theorem mnL_cons (x : PartD) (xs : List PartD) : mnL (x :: xs) = mnP x + mnL xs := by rw [mnL]
theorem mrP_mk (k : Int) (t n : Bs) (ps os : List PartD) (m : Int) : mrP (.mk k t n ps os) m = .mk m (markB (m + 1)) (markB (m + 2)) (mrL ps (m + 3)) (mrL os (m + 3 + mnL ps)) := by rw [mrP]
theorem mrL_nil (k : Int) : mrL [] k = [] := by rw [mrL]
theorem mrL_cons (x : PartD) (xs : List PartD) (k : Int) : mrL (x :: xs) k = mrP x k :: mrL xs (k + mnP x) := by rw [mrL]
theorem mnL_append : ∀ xs ys : List PartD, mnL (xs ++ ys) = mnL xs + mnL ys
  | [], ys => by rw [List.nil_append, mnL_nil, Nat.zero_add]
  | x :: xs, ys => by rw [List.cons_append, mnL_cons, mnL_cons, mnL_append xs ys, Nat.add_assoc]
theorem mnL_snoc {xs : List PartD} {k : Nat} {x : PartD} (h : xs[k]? = some x) : mnL (xs.take (k + 1)) = mnL (xs.take k) + mnP x := by
  rw [take_snoc' h, mnL_append, mnL_cons, mnL_nil, Nat.add_zero]
theorem mnL_le (xs : List PartD) (k : Nat) : mnL (xs.take k) ≤ mnL xs := by
  have := mnL_append (xs.take k) (xs.drop k)
  rw [List.take_append_drop] at this
  omega
mutual
theorem mnP_wt : ∀ x : PartD, mnP x ≤ 3 + 3 * wtP x
  | .mk k t n ps os => by
    have h1 := mnL_wt ps
    have h2 := mnL_wt os
    rw [mnP_mk, wtP_mk]
    omega
theorem mnL_wt : ∀ xs : List PartD, mnL xs ≤ 3 * wtL xs
  | [] => by rw [mnL_nil]; omega
  | x :: xs => by
    have h1 := mnP_wt x
    have h2 := mnL_wt xs
    rw [mnL_cons, wtL]
    omega
end
theorem mrL_length : ∀ (xs : List PartD) (k : Int), (mrL xs k).length = xs.length
  | [], k => by rw [mrL_nil]
  | x :: xs, k => by rw [mrL_cons, List.length_cons, List.length_cons, mrL_length xs]
theorem mrL_append : ∀ (xs ys : List PartD) (k : Int), mrL (xs ++ ys) k = mrL xs k ++ mrL ys (k + mnL xs)
  | [], ys, k => by rw [List.nil_append, mrL_nil, mnL_nil, List.nil_append]; congr 1; omega
  | x :: xs, ys, k => by
    rw [List.cons_append, mrL_cons, mrL_cons, mrL_append xs ys, mnL_cons, List.cons_append]
    congr 3; omega
theorem mrL_snoc {xs : List PartD} {k : Nat} {x : PartD} (h : xs[k]? = some x) (m : Int) : mrL (xs.take (k + 1)) m = mrL (xs.take k) m ++ [mrP x (m + mnL (xs.take k))] := by
  rw [take_snoc' h, mrL_append, mrL_cons, mrL_nil]
theorem mrL_get {xs : List PartD} {k : Nat} {x : PartD} (h : xs[k]? = some x) (m : Int) : (mrL xs m)[k]? = some (mrP x (m + mnL (xs.take k))) := by
  have h1 := mrL_append (xs.take (k + 1)) (xs.drop (k + 1)) m
  rw [List.take_append_drop, mrL_snoc h] at h1
  have hk := (List.getElem?_eq_some_iff.1 h).1
  rw [h1, List.append_assoc, List.getElem?_append_right (by rw [mrL_length, List.length_take]; omega), mrL_length, List.length_take, show k - min k xs.length = 0 by omega]
  rfl
theorem drop_cons5 {α : Type} {l : List α} {k : Nat} {x : α} (h : l[k]? = some x) : l.drop k = x :: l.drop (k + 1) := by
  obtain ⟨hk, rfl⟩ := List.getElem?_eq_some_iff.1 h
  exact List.drop_eq_getElem_cons hk
def mkPC (n : Nat) : AC := sptK 63 5 (α := List PartD × List (List PV) × List Node × Int) (fun x => [.int .i64 x.2.2.2]) (fun x => x.2.1) (fun x => x.2.2.1) (fun x => wtL x.1 < n ∧ wtL x.1 ≤ 1048576 ∧ TL x.1 x.2.1 x.2.2.1 ∧ 0 ≤ x.2.2.2 ∧ x.2.2.2 + mnL x.1 ≤ 16777216) (fun x => .int .i64 (x.2.2.2 + mnL x.1)) (fun x es N => TL (mrL x.1 x.2.2.2) es N)
set_option maxHeartbeats 8000000 in
theorem mkP_ok : ∀ n, ACok Try.prog 17 (mkPC n) := by
  intro n
  induction n with
  | zero => exact ⟨⟨_, Try.func17, by kernel_rfl, by kernel_rfl⟩, fun c mem n av vs K hI hn hr hC => by
      obtain ⟨x, v, L, R, _, _, hp, _⟩ := hC
      omega⟩
  | succ n ih =>
  refine sptK_ok 2 (tabA_cons ih (tabA_nil (Γof_ok (tab_cons mark_ok tab_nil)))) (tab_cons mark_ok tab_nil) mixed [.tmp 4] Try.func17 rfl rfl (by kernel_rfl) (by kernel_rfl) (fun _ => rfl) (by kernel_rfl) (fun x => by first | rfl | simp [nmbL, PV.nmb]) ?_
  rintro ⟨xs, rs0, N0, m⟩ L R K ⟨hn, hb, hT0, hm, hmb⟩ hK
  dsimp only at *
  clear ih
  have hlw := len_le_wtL xs
  have hl0 := TL_len hT0
  unfold entry
  simp only [mkM]
  repeat' (first | ((first | apply qwd | apply qa1 | apply qa2 | apply qa3 | apply qh1 | apply qh2 | apply qg1 rfl | apply qcd); (try intro K hk); focus (simp only [lvT5_17, mkT, go_sem, Nat.reduceEqDiff, Nat.reduceAdd, Nat.reduceLeDiff, Nat.reduceLT, Nat.reduceSub, Int.reduceToNat, ↓reduceIte, reduceCtorEq, hl0]; first | exact rfl | ((repeat (refine And.intro ?_ ?_; focus (first | omega | assumption | with_reducible rfl))); intros; apply hk; clear hk K))) | apply qw8 | apply qw1 | refine qwc lvT5_17 ?_ | apply qt1 | apply qw5 | apply qw2 | apply qw9 | apply qt2 | apply qt3 | apply qt4 | apply qt5 | apply qt6 | apply qw3 | apply qw4 | apply qj1 | apply qj2 | apply qj3 | apply qj4 | apply qj5 | apply qu1 | apply qu2 | (refine qj6 ?_ ?_ <;> intro hc <;> (try simp only [hc]) <;> (try simp only [decide_eq_true_eq, decide_eq_false_iff_not, Bool.not_eq_true', Bool.not_eq_false', Bool.not_eq_true, reduceCtorEq] at hc) <;> (try (exfalso; omega))) | (refine qt7 ?_ ?_; focus decide) | (refine qw7 ?_ ?_ ?_; (focus (decide +kernel)); (focus (decide +kernel))))
  refine s_loop (ι := Nat × (List (List PV) × List Node) × (List (List PV) × List Node)) (fun i => [(0, .own 1), (1, .int .i64 (m + mnL (xs.take i.1))), (5, .int .i64 i.1)]) (fun i => [(0, .gen heapP [encL (L ++ (i.2.1.2 ++ (i.2.2.2 ++ R)))]), (1, .row 63 5 (i.2.1.1 ++ i.2.2.1))]) 2 (fun i => i.1 ≤ xs.length ∧ TL (mrL (xs.take i.1) m) i.2.1.1 i.2.1.2 ∧ TL (xs.drop i.1) i.2.2.1 i.2.2.2) (fun i => xs.length - i.1) (0, ([], []), (rs0, N0)) (by omega) ⟨Nat.zero_le _, by rw [List.take_zero, mrL_nil]; exact TL_nil.2 ⟨rfl, rfl⟩, hT0⟩ ?_ ?_
  · simp [fits, fitsT, fitsM, upd_def, PV.nmb, nmbL, MB.nmb, List.getD_cons_zero, List.getD_cons_succ, mnL_nil]
  rintro ⟨k, ⟨ra, Na⟩, ⟨rb, Nb⟩⟩ ⟨hk, hTa, hTb⟩
  dsimp only at hk hTa hTb
  have hla : ra.length = k := by rw [TL_len hTa, mrL_length, List.length_take]; omega
  have hlb := TL_len hTb
  rw [List.length_drop] at hlb
  have hlL : (ra ++ rb).length = xs.length := by rw [List.length_append]; omega
  simp only [mkS, mkT, mkM]
  have hmk := mnL_le xs k
  by_cases hkl : k < xs.length
  · obtain ⟨⟨kd, t, nm, ps, os⟩, hx⟩ := get_some (xs := xs) (k := k) hkl
    have ws := wtL_split hx
    rw [wtP_mk] at ws
    have hms := mnL_snoc hx
    have hmk2 := mnL_le xs (k + 1)
    have hrs := mrL_snoc hx m
    rw [mnP_mk] at hms
    rw [mrP_mk] at hrs
    rw [drop_cons5 hx, TL_cons] at hTb
    obtain ⟨a, N1, rb', N2, rfl, hTP, hTb, rfl⟩ := hTb
    rw [TP_mk] at hTP
    obtain ⟨v1, r1, M1, v2, r2, M2, rfl, hT1, hT2, rfl⟩ := hTP
    have hga : ∀ a : List PV, (ra ++ a :: rb')[k]? = some a := fun a => by rw [List.getElem?_append_right (by omega), hla, Nat.sub_self]; rfl
    have hse : ∀ a a' : List PV, (ra ++ a :: rb').set k a' = ra ++ a' :: rb' := fun a a' => by rw [List.set_append_right _ _ (by omega), hla, Nat.sub_self]; rfl
    have hll : ∀ a : List PV, (ra ++ a :: rb').length = xs.length := fun a => by rw [List.length_append, List.length_cons]; rw [List.length_append, List.length_cons] at hlL; omega
    have hA : L ++ (Na ++ ((⟨v1, 63, 5, r1⟩ :: M1 ++ ⟨v2, 63, 5, r2⟩ :: M2) ++ N2 ++ R)) = (L ++ Na) ++ ⟨v1, 63, 5, r1⟩ :: (M1 ++ (⟨v2, 63, 5, r2⟩ :: (M2 ++ (N2 ++ R)))) := by simp
    have hB : ∀ q M, (L ++ Na) ++ ⟨v1, 63, 5, q⟩ :: (M ++ (⟨v2, 63, 5, r2⟩ :: (M2 ++ (N2 ++ R)))) = ((L ++ Na) ++ ⟨v1, 63, 5, q⟩ :: M) ++ ⟨v2, 63, 5, r2⟩ :: (M2 ++ (N2 ++ R)) := by intro q M; simp
    rw [hA]
    generalize hcm : m + (mnL (xs.take k) : Int) = cm at *
    have n1 : cm + 1 + 1 = cm + 2 := by omega
    have n2 : cm + 2 + 1 = cm + 3 := by omega
    repeat' (first | ((first | apply qwd | apply qa1 | apply qa2 | apply qa3 | apply qh1 | apply qh2 | apply qg1 rfl | apply qcd); (try intro K hk); focus (simp only [lvT5_17, mkT, go_sem, Nat.reduceEqDiff, Nat.reduceAdd, Nat.reduceLeDiff, Nat.reduceLT, Nat.reduceSub, Int.reduceToNat, ↓reduceIte, reduceCtorEq, hga, hse, hll, n1, n2]; first | exact rfl | ((repeat (refine And.intro ?_ ?_; focus (first | omega | assumption | with_reducible rfl))); intros; apply hk; clear hk K))) | apply qw8 | apply qw1 | refine qwc lvT5_17 ?_ | apply qt1 | apply qw5 | apply qw2 | apply qw9 | apply qt2 | apply qt3 | apply qt4 | apply qt5 | apply qt6 | apply qw3 | apply qw4 | apply qj1 | apply qj2 | apply qj3 | apply qj4 | apply qj5 | apply qu1 | apply qu2 | (refine qj6 ?_ ?_ <;> intro hc <;> (try simp only [hc]) <;> (try simp only [decide_eq_true_eq, decide_eq_false_iff_not, Bool.not_eq_true', Bool.not_eq_false', Bool.not_eq_true, reduceCtorEq] at hc) <;> (try (exfalso; omega))) | (refine qt7 ?_ ?_; focus decide) | (refine qw7 ?_ ?_ ?_; (focus (decide +kernel)); (focus (decide +kernel))))
    (refine qa1 fun K hk => ?_); simp only [go_sem, ↓upd_def, ↓evT, Nat.reduceEqDiff, Nat.reduceAdd, Nat.reduceLeDiff, Nat.reduceLT, Nat.reduceSub, Int.reduceToNat, ↓reduceIte, reduceCtorEq, ↓aop, ↓aopc, ↓aopd, hga, hse, hll, n1, n2]; repeat (refine And.intro ?_ ?_; focus (first | omega | assumption | with_reducible rfl | (simp only [go_sem, ↓upd_def, ↓evT, Nat.reduceEqDiff, Nat.reduceAdd, Nat.reduceLeDiff, Nat.reduceLT, Nat.reduceSub, Int.reduceToNat, ↓reduceIte, reduceCtorEq, ↓aop, ↓aopc, ↓aopd, hga, hse, hll, n1, n2]; done)))
    unfold mkPC sptK
    refine ⟨(ps, r1, M1, cm + 3), v1, L ++ Na, ⟨v2, 63, 5, r2⟩ :: (M2 ++ (N2 ++ R)), by first | rfl | (simp; done) | (simp; omega), rfl, ⟨by dsimp only; omega, by dsimp only; omega, hT1, by dsimp only; omega, by dsimp only; omega⟩, ?_⟩
    rintro q1 O1 hO1
    apply hk; clear hk K
    dsimp only at *
    rw [hB q1 O1]
    repeat' (first | ((first | apply qwd | apply qa1 | apply qa2 | apply qa3 | apply qh1 | apply qh2 | apply qg1 rfl | apply qcd); (try intro K hk); focus (simp only [lvT5_17, mkT, go_sem, Nat.reduceEqDiff, Nat.reduceAdd, Nat.reduceLeDiff, Nat.reduceLT, Nat.reduceSub, Int.reduceToNat, ↓reduceIte, reduceCtorEq, hga, hse, hll, n1, n2]; first | exact rfl | ((repeat (refine And.intro ?_ ?_; focus (first | omega | assumption | with_reducible rfl))); intros; apply hk; clear hk K))) | apply qw8 | apply qw1 | refine qwc lvT5_17 ?_ | apply qt1 | apply qw5 | apply qw2 | apply qw9 | apply qt2 | apply qt3 | apply qt4 | apply qt5 | apply qt6 | apply qw3 | apply qw4 | apply qj1 | apply qj2 | apply qj3 | apply qj4 | apply qj5 | apply qu1 | apply qu2 | (refine qj6 ?_ ?_ <;> intro hc <;> (try simp only [hc]) <;> (try simp only [decide_eq_true_eq, decide_eq_false_iff_not, Bool.not_eq_true', Bool.not_eq_false', Bool.not_eq_true, reduceCtorEq] at hc) <;> (try (exfalso; omega))) | (refine qt7 ?_ ?_; focus decide) | (refine qw7 ?_ ?_ ?_; (focus (decide +kernel)); (focus (decide +kernel))))
    (refine qa1 fun K hk => ?_); simp only [go_sem, ↓upd_def, ↓evT, Nat.reduceEqDiff, Nat.reduceAdd, Nat.reduceLeDiff, Nat.reduceLT, Nat.reduceSub, Int.reduceToNat, ↓reduceIte, reduceCtorEq, ↓aop, ↓aopc, ↓aopd, hga, hse, hll, n1, n2]; repeat (refine And.intro ?_ ?_; focus (first | omega | assumption | with_reducible rfl | (simp only [go_sem, ↓upd_def, ↓evT, Nat.reduceEqDiff, Nat.reduceAdd, Nat.reduceLeDiff, Nat.reduceLT, Nat.reduceSub, Int.reduceToNat, ↓reduceIte, reduceCtorEq, ↓aop, ↓aopc, ↓aopd, hga, hse, hll, n1, n2]; done)))
    unfold mkPC sptK
    refine ⟨(os, r2, M2, cm + 3 + mnL ps), v2, (L ++ Na) ++ ⟨v1, 63, 5, q1⟩ :: O1, N2 ++ R, rfl, rfl, ⟨by dsimp only; omega, by dsimp only; omega, hT2, by dsimp only; omega, by dsimp only; omega⟩, ?_⟩
    rintro q2 O2 hO2
    apply hk; clear hk K
    dsimp only at *
    repeat' (first | ((first | apply qwd | apply qa1 | apply qa2 | apply qa3 | apply qh1 | apply qh2 | apply qg1 rfl | apply qcd); (try intro K hk); focus (simp only [lvT5_17, mkT, go_sem, Nat.reduceEqDiff, Nat.reduceAdd, Nat.reduceLeDiff, Nat.reduceLT, Nat.reduceSub, Int.reduceToNat, ↓reduceIte, reduceCtorEq, hga, hse, hll, n1, n2]; first | exact rfl | ((repeat (refine And.intro ?_ ?_; focus (first | omega | assumption | with_reducible rfl))); intros; apply hk; clear hk K))) | apply qw8 | apply qw1 | refine qwc lvT5_17 ?_ | apply qt1 | apply qw5 | apply qw2 | apply qw9 | apply qt2 | apply qt3 | apply qt4 | apply qt5 | apply qt6 | apply qw3 | apply qw4 | apply qj1 | apply qj2 | apply qj3 | apply qj4 | apply qj5 | apply qu1 | apply qu2 | (refine qj6 ?_ ?_ <;> intro hc <;> (try simp only [hc]) <;> (try simp only [decide_eq_true_eq, decide_eq_false_iff_not, Bool.not_eq_true', Bool.not_eq_false', Bool.not_eq_true, reduceCtorEq] at hc) <;> (try (exfalso; omega))) | (refine qt7 ?_ ?_; focus decide) | (refine qw7 ?_ ?_ ?_; (focus (decide +kernel)); (focus (decide +kernel))))
    refine s_again ((k + 1, (ra ++ [[.int .i64 cm, .str (markB (cm + 1)), .str (markB (cm + 2)), .raw v1, .raw v2]], Na ++ (⟨v1, 63, 5, q1⟩ :: O1 ++ ⟨v2, 63, 5, q2⟩ :: O2)), (rb', N2))) ?_ ?_ ?_ <;> (first | omega | (dsimp only; omega) | skip)
    · refine ⟨by dsimp only; omega, ?_, hTb⟩
      dsimp only
      rw [hrs]
      exact TL_app hTa (TL_one (TP_mk.2 ⟨v1, q1, O1, v2, q2, O2, rfl, hO1, hO2, rfl⟩))
    · simp [fits, fitsT, fitsM, upd_def, PV.nmb, nmbL, MB.nmb, List.getD_cons_zero, List.getD_cons_succ, hms]
      omega
  · obtain rfl : k = xs.length := by omega
    rw [List.drop_length, TL_nil] at hTb
    obtain ⟨rfl, rfl⟩ := hTb
    repeat' (first | ((first | apply qwd | apply qa1 | apply qa2 | apply qa3 | apply qh1 | apply qh2 | apply qg1 rfl | apply qcd); (try intro K hk); focus (simp only [lvT5_17, mkT, go_sem, Nat.reduceEqDiff, Nat.reduceAdd, Nat.reduceLeDiff, Nat.reduceLT, Nat.reduceSub, Int.reduceToNat, ↓reduceIte, reduceCtorEq, hlL]; first | exact rfl | ((repeat (refine And.intro ?_ ?_; focus (first | omega | assumption | with_reducible rfl))); intros; apply hk; clear hk K))) | apply qw8 | apply qw1 | refine qwc lvT5_17 ?_ | apply qt1 | apply qw5 | apply qw2 | apply qw9 | apply qt2 | apply qt3 | apply qt4 | apply qt5 | apply qt6 | apply qw3 | apply qw4 | apply qj1 | apply qj2 | apply qj3 | apply qj4 | apply qj5 | apply qu1 | apply qu2 | (refine qj6 ?_ ?_ <;> intro hc <;> (try simp only [hc]) <;> (try simp only [decide_eq_true_eq, decide_eq_false_iff_not, Bool.not_eq_true', Bool.not_eq_false', Bool.not_eq_true, reduceCtorEq] at hc) <;> (try (exfalso; omega))) | (refine qt7 ?_ ?_; focus decide) | (refine qw7 ?_ ?_ ?_; (focus (decide +kernel)); (focus (decide +kernel))))
    ((first | refine fin_H ?_ | refine fin_He ?_ | refine fin_J ?_ | refine fin_Je ?_ | refine fin_Y ?_ | refine fin_K ?_ | refine fin_T ?_ | refine fin_M ?_); simp only [go_sem, not_false_eq_true, ne_eq, ↓upd_def, Nat.reduceEqDiff, Nat.reduceAdd, ↓reduceIte, reduceCtorEq])
    rw [List.take_length] at *
    exact ⟨ra, rfl, TL_plain hTa, Na, rfl, hK _ _ hTa⟩
@[go_sem] def mkPQ : AC := sptK 63 5 (α := List PartD × List (List PV) × List Node × Int) (fun x => [.int .i64 x.2.2.2]) (fun x => x.2.1) (fun x => x.2.2.1) (fun x => wtL x.1 ≤ 1048576 ∧ TL x.1 x.2.1 x.2.2.1 ∧ 0 ≤ x.2.2.2 ∧ x.2.2.2 + mnL x.1 ≤ 16777216) (fun x => .int .i64 (x.2.2.2 + mnL x.1)) (fun x es N => TL (mrL x.1 x.2.2.2) es N)
theorem mkPQ_ok : ACok Try.prog 17 mkPQ := ⟨(mkP_ok 0).fn, fun c mem n av vs K hI hn hr hC => by
  obtain ⟨x, v, L, R, h1, h2, h3, h4⟩ := hC
  exact (mkP_ok (wtL x.1 + 1)).run c mem n av vs K hI hn hr ⟨x, v, L, R, h1, h2, ⟨Nat.lt_succ_self _, h3⟩, h4⟩⟩
/-- Marks, seen from outside. -/
@[go_sem] def mkPT : AC := mrkK QP (α := List PartD × Int) (fun x => [.int .i64 x.2]) (fun x => encPs x.1) (fun x => wtL x.1 ≤ 1048576 ∧ 0 ≤ x.2 ∧ x.2 + mnL x.1 ≤ 16777216) (fun x => .int .i64 (x.2 + mnL x.1)) (fun x => encPs (mrL x.1 x.2))
theorem mkPT_ok : ACok Try.prog 17 mkPT := mrkK_ok mkPQ_ok (fun x => rfl) (fun x => rfl) (by
  rintro ⟨xs, k⟩ v N ⟨h1, h2, h3⟩ ⟨ys, rs, N', he, hT, rfl⟩
  obtain rfl := encPs_inj _ _ he
  exact ⟨(xs, rs, N', k), rfl, rfl, ⟨h1, hT, h2, h3⟩, rfl, fun es M hM => ⟨⟨_, es, M, rfl, hM, rfl⟩, fun w S hh => rep_root hM hh⟩⟩)
theorem len_le_mn : ∀ xs : List PartD, xs.length ≤ mnL xs
  | [] => by simp
  | x :: xs => by
    have := len_le_mn xs
    have h1 : 3 ≤ mnP x := by cases x; rw [mnP_mk]; omega
    rw [List.length_cons, mnL_cons]; omega
mutual
theorem mnP_mr : ∀ (x : PartD) (k : Int), mnP (mrP x k) = mnP x
  | .mk k t n ps os, m => by rw [mrP_mk, mnP_mk, mnP_mk, mnL_mr ps, mnL_mr os]
theorem mnL_mr : ∀ (xs : List PartD) (k : Int), mnL (mrL xs k) = mnL xs
  | [], k => by rw [mrL_nil]
  | x :: xs, k => by rw [mrL_cons, mnL_cons, mnL_cons, mnP_mr x, mnL_mr xs]
end
mutual
theorem mrP_mr : ∀ (x : PartD) (k : Int), mrP (mrP x k) k = mrP x k
  | .mk k t n ps os, m => by rw [mrP_mk, mrP_mk, mnL_mr, mrL_mr ps, mrL_mr os]
theorem mrL_mr : ∀ (xs : List PartD) (k : Int), mrL (mrL xs k) k = mrL xs k
  | [], k => by rw [mrL_nil, mrL_nil]
  | x :: xs, k => by rw [mrL_cons, mrL_cons, mnP_mr, mrP_mr x, mrL_mr xs]
end
@[go_sem] def hlPC (n : Nat) : PC := rel (α := List PartD × Int) (fun x => [.seq (encPs x.1), .int .i64 x.2]) (fun x => mnL x.1 < n ∧ mrL x.1 x.2 = x.1 ∧ 0 ≤ x.2 ∧ x.2 + mnL x.1 ≤ 16777216) (fun x => .int .i64 (x.2 + mnL x.1))
theorem heldP_parts {xs : List PartD} {m : Int} {k : Nat} (h : mrL xs m = xs) (hk : k < xs.length) : ∃ ps os, xs[k]? = some (.mk (m + mnL (xs.take k)) (markB (m + mnL (xs.take k) + 1)) (markB (m + mnL (xs.take k) + 2)) ps os) ∧ mrL ps (m + mnL (xs.take k) + 3) = ps ∧ mrL os (m + mnL (xs.take k) + 3 + mnL ps) = os := by
  obtain ⟨⟨kd, t, nm, ps, os⟩, hx⟩ := get_some (xs := xs) (k := k) hk
  have h1 := mrL_get hx m
  rw [h, hx, mrP_mk] at h1
  have h2 := Option.some.inj h1
  rw [PartD.mk.injEq] at h2
  obtain ⟨rfl, rfl, rfl, h3, h4⟩ := h2
  exact ⟨ps, os, hx, h3.symm, h4.symm⟩
set_option maxHeartbeats 8000000 in
theorem hlP_ok : ∀ n, PureOk Try.prog 22 (hlPC n) := by
  intro n
  induction n with
  | zero => exact never_rel Try.func22 (by kernel_rfl) (by kernel_rfl) (fun x h => absurd h.1 (Nat.not_lt_zero _))
  | succ n ih =>
  refine pure_rel 2 (tab_cons ih (tab_cons mark_ok tab_nil)) mixed [.tmp 4] Try.func22 rfl rfl (by kernel_rfl) (by kernel_rfl) (fun _ => rfl) (by kernel_rfl) ?_
  rintro ⟨xs, m⟩ K ⟨hn, hmr, hm, hmb⟩ hK
  dsimp only at *
  clear ih
  have hlw := len_le_mn xs
  unfold entry
  repeat' (first | ((first | apply qwd | apply qa1 | apply qa2 | apply qa3 | apply qh1 | apply qh2 | apply qg1 rfl | apply qcd); (try intro K hk); focus (simp only [lvT5_22, mkT, go_sem, Nat.reduceEqDiff, Nat.reduceAdd, Nat.reduceLeDiff, Nat.reduceLT, Nat.reduceSub, Int.reduceToNat, ↓reduceIte, reduceCtorEq, encPs_length]; first | exact rfl | ((repeat (refine And.intro ?_ ?_; focus (first | omega | assumption | with_reducible rfl))); intros; apply hk; clear hk K))) | apply qw8 | apply qw1 | refine qwc lvT5_22 ?_ | apply qt1 | apply qw5 | apply qw2 | apply qw9 | apply qt2 | apply qt3 | apply qt4 | apply qt5 | apply qt6 | apply qw3 | apply qw4 | apply qj1 | apply qj2 | apply qj3 | apply qj4 | apply qj5 | apply qu1 | apply qu2 | (refine qj6 ?_ ?_ <;> intro hc <;> (try simp only [hc]) <;> (try simp only [decide_eq_true_eq, decide_eq_false_iff_not, Bool.not_eq_true', Bool.not_eq_false', Bool.not_eq_true, reduceCtorEq] at hc) <;> (try (exfalso; omega))) | (refine qt7 ?_ ?_; focus decide) | (refine qw7 ?_ ?_ ?_; (focus (decide +kernel)); (focus (decide +kernel))))
  refine s_loop (ι := Nat) (fun k => [(0, .seq (encPs xs)), (1, .int .i64 (m + mnL (xs.take k))), (5, .int .i64 k)]) (fun _ => []) 0 (fun k => k ≤ xs.length) (fun k => xs.length - k) 0 (by omega) (Nat.zero_le _) ?_ ?_
  · simp [fits, fitsT, fitsM, upd_def, PV.nmb, nmbL, MB.nmb, List.getD_cons_zero, List.getD_cons_succ, mnL_nil]
  intro k hk
  simp only [mkS, mkT, mkM]
  have hmk := mnL_le xs k
  by_cases hkl : k < xs.length
  · obtain ⟨ps, os, hx, hp1, hp2⟩ := heldP_parts hmr hkl
    have hms := mnL_snoc hx
    have hmk2 := mnL_le xs (k + 1)
    rw [mnP_mk] at hms
    have hg : (encPs xs)[k]? = some [.int .i64 (m + mnL (xs.take k)), .str (markB (m + mnL (xs.take k) + 1)), .str (markB (m + mnL (xs.take k) + 2)), .seq (encPs ps), .seq (encPs os)] := by
      rw [encPs_get, hx, Option.map_some, encP_mk]
    generalize hcm : m + (mnL (xs.take k) : Int) = cm at *
    have hd1 : decide (cm + 3 + (mnL ps : Int) < 0) = false := decide_eq_false (by omega)
    have hd2 : decide (cm + 3 + (mnL ps : Int) + (mnL os : Int) < 0) = false := decide_eq_false (by omega)
    have n1 : cm + 1 + 1 = cm + 2 := by omega
    have n2 : cm + 2 + 1 = cm + 3 := by omega
    repeat' (first | ((first | apply qwd | apply qa1 | apply qa2 | apply qa3 | apply qh1 | apply qh2 | apply qg1 rfl | apply qcd); (try intro K hk); focus (simp only [lvT5_22, mkT, go_sem, Nat.reduceEqDiff, Nat.reduceAdd, Nat.reduceLeDiff, Nat.reduceLT, Nat.reduceSub, Int.reduceToNat, ↓reduceIte, reduceCtorEq, encPs_length, hg, n1, n2, hd1, hd2, bne_self_eq_false, decide_true, Bool.not_true]; first | exact rfl | ((repeat (refine And.intro ?_ ?_; focus (first | omega | assumption | with_reducible rfl))); intros; apply hk; clear hk K))) | apply qw8 | apply qw1 | refine qwc lvT5_22 ?_ | apply qt1 | apply qw5 | apply qw2 | apply qw9 | apply qt2 | apply qt3 | apply qt4 | apply qt5 | apply qt6 | apply qw3 | apply qw4 | apply qj1 | apply qj2 | apply qj3 | apply qj4 | apply qj5 | apply qu1 | apply qu2 | (refine qj6 ?_ ?_ <;> intro hc <;> (try simp only [hc]) <;> (try simp only [decide_eq_true_eq, decide_eq_false_iff_not, Bool.not_eq_true', Bool.not_eq_false', Bool.not_eq_true, reduceCtorEq] at hc) <;> (try (exfalso; omega))) | (refine qt7 ?_ ?_; focus decide) | (refine qw7 ?_ ?_ ?_; (focus (decide +kernel)); (focus (decide +kernel))))
    refine s_again (k + 1) ?_ ?_ ?_ <;> (first | omega | (dsimp only; omega) | skip)
    simp [fits, fitsT, fitsM, upd_def, PV.nmb, nmbL, MB.nmb, List.getD_cons_zero, List.getD_cons_succ, hms]
    omega
  · obtain rfl : k = xs.length := by omega
    repeat' (first | ((first | apply qwd | apply qa1 | apply qa2 | apply qa3 | apply qh1 | apply qh2 | apply qg1 rfl | apply qcd); (try intro K hk); focus (simp only [lvT5_22, mkT, go_sem, Nat.reduceEqDiff, Nat.reduceAdd, Nat.reduceLeDiff, Nat.reduceLT, Nat.reduceSub, Int.reduceToNat, ↓reduceIte, reduceCtorEq, encPs_length]; first | exact rfl | ((repeat (refine And.intro ?_ ?_; focus (first | omega | assumption | with_reducible rfl))); intros; apply hk; clear hk K))) | apply qw8 | apply qw1 | refine qwc lvT5_22 ?_ | apply qt1 | apply qw5 | apply qw2 | apply qw9 | apply qt2 | apply qt3 | apply qt4 | apply qt5 | apply qt6 | apply qw3 | apply qw4 | apply qj1 | apply qj2 | apply qj3 | apply qj4 | apply qj5 | apply qu1 | apply qu2 | (refine qj6 ?_ ?_ <;> intro hc <;> (try simp only [hc]) <;> (try simp only [decide_eq_true_eq, decide_eq_false_iff_not, Bool.not_eq_true', Bool.not_eq_false', Bool.not_eq_true, reduceCtorEq] at hc) <;> (try (exfalso; omega))) | (refine qt7 ?_ ?_; focus decide) | (refine qw7 ?_ ?_ ?_; (focus (decide +kernel)); (focus (decide +kernel))))
    ((first | refine fin_ret ?_ | refine fin_end ?_); simp only [go_sem, ↓upd_def, Nat.reduceEqDiff, Nat.reduceAdd, ↓reduceIte, reduceCtorEq])
    rw [List.take_length]
    exact hK
@[go_sem] def hlPQ : PC := rel (α := List PartD × Int) (fun x => [.seq (encPs x.1), .int .i64 x.2]) (fun x => mrL x.1 x.2 = x.1 ∧ 0 ≤ x.2 ∧ x.2 + mnL x.1 ≤ 16777216) (fun x => .int .i64 (x.2 + mnL x.1))
theorem hlPQ_ok : PureOk Try.prog 22 hlPQ := rel_all (fun x : List PartD × Int => mnL x.1) hlP_ok
end Go.Proofs.Ytdedddmnacomfaa
