/- Contracts: insertInto, simpler; the reference's l23Insert, l21Simple. -/
import Derived.Test.YtdedddmnacomfaaWX9
import Derived.Test.YtdedddmnacomfaaWK3

namespace Go.Proofs.Ytdedddmnacomfaa
attribute [local irreducible] awp arun acalm FinP Fin AX.then AX.inBlock Again aG gsel amix amixN amixC aop aopc aopd cutK
attribute [local go_sem] aBSliceD aSlice aSliceC boundOf aMk aCall aCallC aLenL aLen aPick_t aPick_f aNil aAlloc aBox aBuild bldPV aBSlice bsPV aApp newsOf destOf drp aConvX aConv aConvInt aLoad cellsAt aStore cellsPV setAt aFld aField aIdx aIndex aUn aBin' aBin aMax aExtract pvOf PV.isCell nmbL PV.nmb List.map_cons List.map_nil List.all_cons List.all_nil Bool.and_true Bool.true_and if_true if_false List.getD_cons_zero List.getD_cons_succ List.getD_nil Option.isSome_some true_and and_true and_self eq_self true_or or_true List.drop_zero List.drop_succ_cons List.drop_nil List.take_zero List.take_succ_cons List.take_nil List.length_cons List.length_nil List.length_map Option.getD_some Option.getD_none List.nil_append List.cons_append List.append_nil Option.some.injEq exists_eq_left' List.getElem?_cons_zero List.getElem?_cons_succ Int.toNat_natCast Int.natCast_inj toNat_succ Nat.zero_add res res1 resC owns owns1 ownsC List.flatMap_cons List.flatMap_nil List.flatten_cons List.flatten_nil List.mem_cons List.not_mem_nil or_false false_or forall_eq forall_eq_or_imp isFro frz frz1 pureC tabA isBld List.cons.injEq PV.seq.injEq PV.int.injEq PV.str.injEq PV.bool.injEq PV.agg.injEq inR tab Γof aRes packR Option.map_some Option.map_none rel Prod.exists exists_and_left exists_eq_left and_assoc beq_self_eq_true Bool.not_true Bool.not_false decide_true decide_false List.set_cons_zero List.set_cons_succ rst_nil rst_cons
attribute [local go_sem ↓] evT upd_def aop aopc aopd
set_option maxRecDepth 100000
set_option linter.unusedVariables false
set_option linter.unusedSimpArgs false
open Go.RowKit
def lvX17_53 : Nat → List Nat
  | 0 => [0]
  | 1 => [0, 3]
  | 2 => [0, 3, 4]
  | 3 => [0, 3, 4, 9]
  | 4 => [0, 3, 4]
  | 5 => [0, 3, 4]
  | 6 => [2]
  | _ => []
def lvX17_57 : Nat → List Nat
  | 0 => [0, 1, 2]
  | 1 => [0, 1, 2, 7]
  | 2 => [0, 1, 2, 7, 8]
  | 3 => [0, 1, 2, 7, 8, 14]
  | 4 => [0, 1, 2, 7, 8]
  | 5 => [0, 1, 2, 7, 8, 9]
  | 6 => [0, 1, 2, 7, 8, 9, 29]
  | 7 => [0, 1, 2, 7, 8]
  | 8 => [0, 1, 2, 7, 8, 9]
  | 9 => [0, 1, 2, 7, 8, 9]
  | 10 => [0, 1, 2, 7, 8]
  | 11 => [6]
  | _ => []
def lvX17_59 : Nat → List Nat
  | 0 => [0, 1, 2]
  | 1 => [0, 1, 2, 7]
  | 2 => [1, 2, 7, 11, 12, 13]
  | 3 => [1, 2, 7, 11, 12, 13, 14]
  | 4 => [1, 2, 7, 9, 11, 12, 13]
  | 5 => [1, 2, 7, 9, 11, 12, 13, 25]
  | 6 => [1, 2, 7, 11, 12, 13]
  | 7 => [1, 2, 7, 9, 11, 12, 13]
  | 8 => [1, 2, 7, 9, 11, 12, 13]
  | 9 => [1, 2, 7, 11, 12, 13]
  | 10 => [1, 2, 7, 11, 12, 13]
  | 11 => [6]
  | _ => []
--LV=X17
theorem ps_a5 (xs : List PartD) : (∀ e ∈ encPs xs, e.length = 5) = True := eq_true (encPs_all xs)
theorem ps_pt (out : List PartD) (k : Int) (t s : Bs) (x y : List PartD) : encPs out ++ [[.int .i64 k, .str t, .str s, .seq (encPs x), .seq (encPs y)]] = encPs (out ++ [.mk k t s x y]) := by
  rw [encPs_append, encPs_one, encP_mk]
theorem ps_ap (a b : List PartD) : encPs a ++ encPs b = encPs (a ++ b) := (encPs_append a b).symm
@[go_sem] def insC (n : Nat) : PC := rel (α := List PartD × Bs × List PartD) (fun x => [.seq (encPs x.1), .str x.2.1, .seq (encPs x.2.2)]) (fun x => wtL x.1 < n ∧ wtL x.1 * (wtL x.2.2 + 1) ≤ 1099511627776 ∧ wtL x.1 ≤ 1099511627776 ∧ x.2.1.length ≤ 9223372036854775807) (fun x => .seq (encPs (isL x.2.1 x.2.2 x.1)))
set_option maxHeartbeats 8000000 in
theorem in_i : ∀ n, PureOk Try.prog 59 (insC n) := by
  intro n
  induction n with
  | zero => exact never_rel Try.func59 (by kernel_rfl) (by kernel_rfl) (fun x h => absurd h.1 (Nat.not_lt_zero _))
  | succ n ih =>
  refine pure_rel 3 (tab_cons ih tab_nil) mixed [.tmp 6] Try.func59 rfl rfl (by kernel_rfl) (by kernel_rfl) (fun _ => rfl) (by kernel_rfl) ?_
  rintro ⟨xs, m, o⟩ K ⟨hn, hb, hb1, hm⟩ hK
  dsimp only at *
  clear ih
  have hlw := len_le_wtL xs
  unfold entry
  repeat' (first | ((first | apply qwd | apply qa1 | apply qa2 | apply qa3 | apply qh1 | apply qh2 | apply qg1 rfl | apply qcd); (try intro K hk); focus (simp only [lvX17_59, mkT, go_sem, Nat.reduceEqDiff, Nat.reduceAdd, Nat.reduceLeDiff, Nat.reduceLT, Nat.reduceSub, Int.reduceToNat, ↓reduceIte, reduceCtorEq, encPs_length]; first | exact rfl | ((repeat (refine And.intro ?_ ?_; focus (first | omega | assumption | with_reducible rfl))); intros; apply hk; clear hk K))) | apply qw8 | apply qw1 | refine qwc lvX17_59 ?_ | apply qt1 | apply qw5 | apply qw2 | apply qw9 | apply qt2 | apply qt3 | apply qt4 | apply qt5 | apply qt6 | apply qw3 | apply qw4 | apply qj1 | apply qj2 | apply qj3 | apply qj4 | apply qj5 | apply qu1 | apply qu2 | (refine qj6 ?_ ?_ <;> intro hc <;> (try simp only [hc]) <;> (try simp only [decide_eq_true_eq, decide_eq_false_iff_not, Bool.not_eq_true', Bool.not_eq_false', Bool.not_eq_true, reduceCtorEq] at hc) <;> (try (exfalso; omega))) | (refine qt7 ?_ ?_; focus decide) | (refine qw7 ?_ ?_ ?_; (focus (decide +kernel)); (focus (decide +kernel))))
  refine s_loop (ι := Nat) (fun k => [(1, .str m), (2, .seq (encPs o)), (7, .own 0), (11, .seq (encPs xs)), (12, .int .i64 xs.length), (13, .int .i64 k)]) (fun k => [(0, .row 63 5 (encPs (isL m o (xs.take k))))]) 1 (fun k => k ≤ xs.length) (fun k => xs.length - k) 0 (by omega) (Nat.zero_le _) ?_ ?_
  · simp [fits, fitsT, fitsM, upd_def, PV.nmb, nmbL, MB.nmb, List.getD_cons_zero, List.getD_cons_succ, isL_nil, encPs_nil]
  intro k hk
  simp only [mkS, mkT, mkM]
  by_cases hkl : k < xs.length
  · obtain ⟨⟨kd, t, nm, ps, os⟩, hx⟩ := get_some (xs := xs) (k := k) (by omega)
    have htk := take_snoc' hx
    have ws := wtL_split hx
    rw [wtP_mk] at ws
    have hget := encPs_get xs
    have hs := isL_snoc (m := m) (o := o) hx
    rw [isP_mk] at hs
    have hw1 := isL_wt m o (xs.take (k + 1))
    have hw2 : wtL (xs.take (k + 1)) ≤ wtL xs := by have := wtL_append (xs.take (k + 1)) (xs.drop (k + 1)); rw [List.take_append_drop] at this; omega
    have hw3 := Nat.mul_le_mul_right (wtL o + 1) hw2
    have hw0 := len_le_wtL (isL m o (xs.take (k + 1)))
    have hp1 : wtL ps * (wtL o + 1) ≤ wtL xs * (wtL o + 1) := Nat.mul_le_mul_right _ (by omega)
    have hp2 : wtL os * (wtL o + 1) ≤ wtL xs * (wtL o + 1) := Nat.mul_le_mul_right _ (by omega)
    have ha1 := ps_a5 o
    have ha2 := ps_a5 (isL m o (xs.take k))
    have hfin : (isL m o (xs.take (k + 1))).length ≤ 1099511627776 := by omega
    have hol := len_le_wtL o
    clear hw0 hw1 hw2 hw3
    by_cases hq : kd = 2 ∧ nm = m
    · rw [if_pos hq] at hs
      rw [hs, List.length_append] at hfin
      obtain ⟨hq1, hq2⟩ := hq
      repeat' (first | ((first | apply qwd | apply qa1 | apply qa2 | apply qa3 | apply qh1 | apply qh2 | apply qg1 rfl | apply qcd); (try intro K hk); focus (simp only [lvX17_59, mkT, go_sem, Nat.reduceEqDiff, Nat.reduceAdd, Nat.reduceLeDiff, Nat.reduceLT, Nat.reduceSub, Int.reduceToNat, ↓reduceIte, reduceCtorEq, encPs_length, hget, hx, encP_mk, ha1, ha2, ps_pt, ps_ap, hq1, hq2, decide_true]; first | exact rfl | ((repeat (refine And.intro ?_ ?_; focus (first | omega | assumption | with_reducible rfl))); intros; apply hk; clear hk K))) | apply qw8 | apply qw1 | refine qwc lvX17_59 ?_ | apply qt1 | apply qw5 | apply qw2 | apply qw9 | apply qt2 | apply qt3 | apply qt4 | apply qt5 | apply qt6 | apply qw3 | apply qw4 | apply qj1 | apply qj2 | apply qj3 | apply qj4 | apply qj5 | apply qu1 | apply qu2 | (refine qj6 ?_ ?_ <;> intro hc <;> (try simp only [hc]) <;> (try simp only [decide_eq_true_eq, decide_eq_false_iff_not, Bool.not_eq_true', Bool.not_eq_false', Bool.not_eq_true, reduceCtorEq] at hc) <;> (try (exfalso; omega))) | (refine qt7 ?_ ?_; focus decide) | (refine qw7 ?_ ?_ ?_; (focus (decide +kernel)); (focus (decide +kernel))))
      refine s_againR (k + 1) (fun i => if i = 0 then 2 else i) ?_ ?_ ?_ ?_ ?_ ?_ <;> (first | omega | (dsimp only; omega) | (intro i hi; (try dsimp only); (repeat' split) <;> omega) | (intro i j hi hj h; (try dsimp only at h); (repeat' split at h) <;> omega) | skip)
      all_goals (simp [fitsTR, fitsMR, PV.ren, renL, MB.ren, upd_def, PV.nmb, nmbL, MB.nmb, List.getD_cons_zero, List.getD_cons_succ, frz, drp, hs, encPs_append]; done)
    · rw [if_neg hq] at hs
      rw [hs, List.length_append, List.length_cons, List.length_nil] at hfin
      repeat' (first | ((first | apply qwd | apply qa1 | apply qa2 | apply qa3 | apply qh1 | apply qh2 | apply qg1 rfl | apply qcd); (try intro K hk); focus (simp only [lvX17_59, mkT, go_sem, Nat.reduceEqDiff, Nat.reduceAdd, Nat.reduceLeDiff, Nat.reduceLT, Nat.reduceSub, Int.reduceToNat, ↓reduceIte, reduceCtorEq, encPs_length, hget, hx, encP_mk, ha1, ha2, ps_pt, ps_ap]; first | exact rfl | ((repeat (refine And.intro ?_ ?_; focus (first | omega | assumption | with_reducible rfl))); intros; apply hk; clear hk K))) | apply qw8 | apply qw1 | refine qwc lvX17_59 ?_ | apply qt1 | apply qw5 | apply qw2 | apply qw9 | apply qt2 | apply qt3 | apply qt4 | apply qt5 | apply qt6 | apply qw3 | apply qw4 | apply qj1 | apply qj2 | apply qj3 | apply qj4 | apply qj5 | apply qu1 | apply qu2 | (refine qj6 ?_ ?_ <;> intro hc <;> (try simp only [hc]) <;> (try simp only [decide_eq_true_eq, decide_eq_false_iff_not, Bool.not_eq_true', Bool.not_eq_false', Bool.not_eq_true, reduceCtorEq] at hc) <;> (try (exfalso; omega))) | (refine qt7 ?_ ?_; focus decide) | (refine qw7 ?_ ?_ ?_; (focus (decide +kernel)); (focus (decide +kernel))))
      all_goals first
        | exact absurd ⟨‹kd = 2›, ‹nm = m›⟩ hq
        | (refine s_againR (k + 1) (fun i => if i = 0 then 3 else i) ?_ ?_ ?_ ?_ ?_ ?_ <;> (first | omega | (dsimp only; omega) | (intro i hi; (try dsimp only); (repeat' split) <;> omega) | (intro i j hi hj h; (try dsimp only at h); (repeat' split at h) <;> omega) | skip)
           all_goals (simp [fitsTR, fitsMR, PV.ren, renL, MB.ren, upd_def, PV.nmb, nmbL, MB.nmb, List.getD_cons_zero, List.getD_cons_succ, frz, drp, hs, encPs_append, encPs_one, encP_mk]; done))
        | skip
  · obtain rfl : k = xs.length := by omega
    repeat' (first | ((first | apply qwd | apply qa1 | apply qa2 | apply qa3 | apply qh1 | apply qh2 | apply qg1 rfl | apply qcd); (try intro K hk); focus (simp only [lvX17_59, mkT, go_sem, Nat.reduceEqDiff, Nat.reduceAdd, Nat.reduceLeDiff, Nat.reduceLT, Nat.reduceSub, Int.reduceToNat, ↓reduceIte, reduceCtorEq, encPs_length]; first | exact rfl | ((repeat (refine And.intro ?_ ?_; focus (first | omega | assumption | with_reducible rfl))); intros; apply hk; clear hk K))) | apply qw8 | apply qw1 | refine qwc lvX17_59 ?_ | apply qt1 | apply qw5 | apply qw2 | apply qw9 | apply qt2 | apply qt3 | apply qt4 | apply qt5 | apply qt6 | apply qw3 | apply qw4 | apply qj1 | apply qj2 | apply qj3 | apply qj4 | apply qj5 | apply qu1 | apply qu2 | (refine qj6 ?_ ?_ <;> intro hc <;> (try simp only [hc]) <;> (try simp only [decide_eq_true_eq, decide_eq_false_iff_not, Bool.not_eq_true', Bool.not_eq_false', Bool.not_eq_true, reduceCtorEq] at hc) <;> (try (exfalso; omega))) | (refine qt7 ?_ ?_; focus decide) | (refine qw7 ?_ ?_ ?_; (focus (decide +kernel)); (focus (decide +kernel))))
    ((first | refine fin_ret ?_ | refine fin_end ?_); simp only [go_sem, ↓upd_def, Nat.reduceEqDiff, Nat.reduceAdd, ↓reduceIte, reduceCtorEq])
    rw [List.take_length]
    exact hK
@[go_sem] def insQ : PC := rel (α := List PartD × Bs × List PartD) (fun x => [.seq (encPs x.1), .str x.2.1, .seq (encPs x.2.2)]) (fun x => wtL x.1 * (wtL x.2.2 + 1) ≤ 1099511627776 ∧ wtL x.1 ≤ 1099511627776 ∧ x.2.1.length ≤ 9223372036854775807) (fun x => .seq (encPs (isL x.2.1 x.2.2 x.1)))
theorem in_ic : PureOk Try.prog 59 insQ := rel_all (fun x : List PartD × Bs × List PartD => wtL x.1) in_i
@[go_sem] def owC (n : Nat) : PC := rel (α := List PartD) (fun x => [.seq (encPs x)]) (fun x => wtL x < n ∧ wtL x ≤ 1099511627776) (fun x => .seq (encPs x))
@[go_sem] def owP (n : Nat) : PC := rel (α := PartD) (fun x => [.agg (encP x)]) (fun x => wtP x < n ∧ wtP x ≤ 1099511627776) (fun x => .agg (encP x))
@[go_sem] def owQ : PC := rel (α := List PartD) (fun x => [.seq (encPs x)]) (fun x => wtL x ≤ 1099511627776) (fun x => .seq (encPs x))
theorem owP_of (n : Nat) (h : PureOk Try.prog 53 (owC n)) : PureOk Try.prog 88 (owP n) := by
  refine pure_rel 1 (tab_cons h tab_nil) mixed [.cell 2 63] Try.func88 rfl rfl (by kernel_rfl) (by kernel_rfl) (fun _ => rfl) (by kernel_rfl) ?_
  rintro ⟨kd, t, nm, ps, os⟩ K ⟨hn, h1⟩ hK
  have hx2 := encP_mk kd t nm ps os
  have hw := wtP_mk kd t nm ps os
  simp only [hx2, hw] at *
  clear hx2 hw
  unfold entry
  repeat' (first | ((first | apply qa1 | apply qa2 | apply qa3 | apply qh1 | apply qh2 | apply qg1 rfl | apply qcd); (try intro K hk); focus (simp only [go_sem, Nat.reduceEqDiff, Nat.reduceAdd, Nat.reduceLeDiff, Nat.reduceLT, Nat.reduceSub, Int.reduceToNat, ↓reduceIte, reduceCtorEq, encPs_iff]; first | exact rfl | ((repeat (refine And.intro ?_ ?_; focus (first | omega | assumption | with_reducible rfl))); intros; apply hk; clear hk K))) | apply qw8 | apply qw1 | apply qw6 | apply qt1 | apply qw5 | apply qw2 | apply qw9 | apply qt2 | apply qt3 | apply qt4 | apply qt5 | apply qt6 | apply qw3 | apply qw4 | apply qj1 | apply qj2 | apply qj3 | apply qj4 | apply qj5 | apply qu1 | apply qu2 | (refine qj6 ?_ ?_ <;> intro hc <;> (try simp only [hc]) <;> (try simp only [decide_eq_true_eq, decide_eq_false_iff_not, Bool.not_eq_true', Bool.not_eq_false', Bool.not_eq_true, reduceCtorEq] at hc) <;> (try (exfalso; omega))) | (refine qt7 ?_ ?_; focus decide) | (refine qw7 ?_ ?_ ?_; (focus (decide +kernel)); (focus (decide +kernel))))
  ((first | refine fin_ret ?_ | refine fin_end ?_); simp only [go_sem, ↓upd_def, Nat.reduceEqDiff, Nat.reduceAdd, ↓reduceIte, reduceCtorEq])
  first
    | exact hK
    | exact ⟨Nat.le_refl _, hK⟩
@[go_sem] def owP5 (n : Nat) : PC := rel (α := Int × Bs × Bs × List PartD × List PartD) (fun x => [.agg [.int .i64 x.1, .str x.2.1, .str x.2.2.1, .seq (encPs x.2.2.2.1), .seq (encPs x.2.2.2.2)]]) (fun x => x.2.1.length + x.2.2.1.length + wtL x.2.2.2.1 + wtL x.2.2.2.2 < n ∧ x.2.1.length + x.2.2.1.length + wtL x.2.2.2.1 + wtL x.2.2.2.2 ≤ 1099511627776) (fun x => .agg [.int .i64 x.1, .str x.2.1, .str x.2.2.1, .seq (encPs x.2.2.2.1), .seq (encPs x.2.2.2.2)])
theorem rel_via' {P : Program} {f : FuncId} {α β : Type} {enc : α → List PV} {pre : α → Prop} {out : α → PV} {enc' : β → List PV} {pre' : β → Prop} {out' : β → PV} (h : PureOk P f (rel enc pre out)) (g : β → α) (h1 : ∀ x, enc' x = enc (g x)) (h2 : ∀ x, pre' x → pre (g x)) (h3 : ∀ x, out' x = out (g x)) : PureOk P f (rel enc' pre' out') :=
  ⟨h.fn, fun args K ⟨x, e1, e2, e3⟩ => ⟨_, e3, fun K' hk => ⟨x, e1, e2, hk⟩⟩, fun c args vs K hf hr ⟨x, e1, e2, e3⟩ => h.run c args vs K hf hr ⟨g x, by rw [← h1]; exact e1, h2 x e2, by rw [← h3]; exact e3⟩⟩
theorem owP5_of {n : Nat} {f : FuncId} (h : PureOk Try.prog f (owP n)) : PureOk Try.prog f (owP5 n) :=
  rel_via' h (fun x => .mk x.1 x.2.1 x.2.2.1 x.2.2.2.1 x.2.2.2.2) (fun x => by rw [encP_mk]) (fun x h => by rw [wtP_mk]; exact h) (fun x => by rw [encP_mk])
set_option maxHeartbeats 4000000 in
theorem owC_of (n : Nat) (h : PureOk Try.prog 88 (owP5 n)) : PureOk Try.prog 53 (owC (n + 1)) := by
  refine pure_rel 1 (tab_cons h tab_nil) mixed [.tmp 2] Try.func53 rfl rfl (by kernel_rfl) (by kernel_rfl) (fun _ => rfl) (by kernel_rfl) ?_
  rintro xs K ⟨hn, h1⟩ hK
  have hlw := len_le_wtL xs
  unfold entry
  repeat' (first | ((first | apply qwd | apply qa1 | apply qa2 | apply qa3 | apply qh1 | apply qh2 | apply qg1 rfl | apply qcd); (try intro K hk); focus (simp only [lvX17_53, mkT, go_sem, Nat.reduceEqDiff, Nat.reduceAdd, Nat.reduceLeDiff, Nat.reduceLT, Nat.reduceSub, Int.reduceToNat, ↓reduceIte, reduceCtorEq, encPs_length]; first | exact rfl | ((repeat (refine And.intro ?_ ?_; focus (first | omega | assumption | with_reducible rfl))); intros; apply hk; clear hk K))) | apply qw8 | apply qw1 | refine qwc lvX17_53 ?_ | apply qt1 | apply qw5 | apply qw2 | apply qw9 | apply qt2 | apply qt3 | apply qt4 | apply qt5 | apply qt6 | apply qw3 | apply qw4 | apply qj1 | apply qj2 | apply qj3 | apply qj4 | apply qj5 | apply qu1 | apply qu2 | (refine qj6 ?_ ?_ <;> intro hc <;> (try simp only [hc]) <;> (try simp only [decide_eq_true_eq, decide_eq_false_iff_not, Bool.not_eq_true', Bool.not_eq_false', Bool.not_eq_true, reduceCtorEq] at hc) <;> (try (exfalso; omega))) | (refine qt7 ?_ ?_; focus decide) | (refine qw7 ?_ ?_ ?_; (focus (decide +kernel)); (focus (decide +kernel))))
  refine s_loop (ι := Nat) (fun k => [(0, .seq (encPs xs)), (3, .own 0), (4, .int .i64 k)]) (fun k => [(0, .row 63 5 (encPs (xs.take k)))]) 1 (fun k => k ≤ xs.length) (fun k => xs.length - k) 0 (by omega) (Nat.zero_le _) ?_ ?_
  · simp [fits, fitsT, fitsM, upd_def, PV.nmb, nmbL, MB.nmb, List.getD_cons_zero, List.getD_cons_succ, encPs_nil]
  intro k hk
  simp only [mkS, mkT, mkM]
  by_cases hkl : k < xs.length
  · obtain ⟨⟨kd, t, nm, ps, os⟩, hx⟩ := get_some (xs := xs) (k := k) (by omega)
    have htk := take_snoc' hx
    have ws := wtL_split hx
    rw [wtP_mk] at ws
    have hget := encPs_get xs
    have hta := ps_a5 (xs.take k)
    have hlt : (xs.take k).length = k := by rw [List.length_take]; omega
    repeat' (first | ((first | apply qwd | apply qa1 | apply qa2 | apply qa3 | apply qh1 | apply qh2 | apply qg1 rfl | apply qcd); (try intro K hk); focus (simp only [lvX17_53, mkT, go_sem, Nat.reduceEqDiff, Nat.reduceAdd, Nat.reduceLeDiff, Nat.reduceLT, Nat.reduceSub, Int.reduceToNat, ↓reduceIte, reduceCtorEq, encPs_length, hget, hx, Option.map_some, hta, hlt, encP_mk, ps_pt]; first | exact rfl | ((repeat (refine And.intro ?_ ?_; focus (first | omega | assumption | with_reducible rfl))); intros; apply hk; clear hk K))) | apply qw8 | apply qw1 | refine qwc lvX17_53 ?_ | apply qt1 | apply qw5 | apply qw2 | apply qw9 | apply qt2 | apply qt3 | apply qt4 | apply qt5 | apply qt6 | apply qw3 | apply qw4 | apply qj1 | apply qj2 | apply qj3 | apply qj4 | apply qj5 | apply qu1 | apply qu2 | (refine qj6 ?_ ?_ <;> intro hc <;> (try simp only [hc]) <;> (try simp only [decide_eq_true_eq, decide_eq_false_iff_not, Bool.not_eq_true', Bool.not_eq_false', Bool.not_eq_true, reduceCtorEq] at hc) <;> (try (exfalso; omega))) | (refine qt7 ?_ ?_; focus decide) | (refine qw7 ?_ ?_ ?_; (focus (decide +kernel)); (focus (decide +kernel))))
    all_goals first
      | (refine s_againR (k + 1) (fun i => if i = 0 then 2 else i) ?_ ?_ ?_ ?_ ?_ ?_ <;> (first | omega | (dsimp only; omega) | (intro i hi; (try dsimp only); (repeat' split) <;> omega) | (intro i j hi hj h; (try dsimp only at h); (repeat' split at h) <;> omega) | skip)
         all_goals (simp [fitsTR, fitsMR, PV.ren, renL, MB.ren, upd_def, PV.nmb, nmbL, MB.nmb, List.getD_cons_zero, List.getD_cons_succ, frz, drp, htk, encPs_append, encPs_one, encP_mk]; done))
      | skip
  · obtain rfl : k = xs.length := by omega
    repeat' (first | ((first | apply qwd | apply qa1 | apply qa2 | apply qa3 | apply qh1 | apply qh2 | apply qg1 rfl | apply qcd); (try intro K hk); focus (simp only [lvX17_53, mkT, go_sem, Nat.reduceEqDiff, Nat.reduceAdd, Nat.reduceLeDiff, Nat.reduceLT, Nat.reduceSub, Int.reduceToNat, ↓reduceIte, reduceCtorEq, encPs_length]; first | exact rfl | ((repeat (refine And.intro ?_ ?_; focus (first | omega | assumption | with_reducible rfl))); intros; apply hk; clear hk K))) | apply qw8 | apply qw1 | refine qwc lvX17_53 ?_ | apply qt1 | apply qw5 | apply qw2 | apply qw9 | apply qt2 | apply qt3 | apply qt4 | apply qt5 | apply qt6 | apply qw3 | apply qw4 | apply qj1 | apply qj2 | apply qj3 | apply qj4 | apply qj5 | apply qu1 | apply qu2 | (refine qj6 ?_ ?_ <;> intro hc <;> (try simp only [hc]) <;> (try simp only [decide_eq_true_eq, decide_eq_false_iff_not, Bool.not_eq_true', Bool.not_eq_false', Bool.not_eq_true, reduceCtorEq] at hc) <;> (try (exfalso; omega))) | (refine qt7 ?_ ?_; focus decide) | (refine qw7 ?_ ?_ ?_; (focus (decide +kernel)); (focus (decide +kernel))))
    ((first | refine fin_ret ?_ | refine fin_end ?_); simp only [go_sem, ↓upd_def, Nat.reduceEqDiff, Nat.reduceAdd, ↓reduceIte, reduceCtorEq])
    rw [List.take_length]
    exact hK
theorem ow_all : ∀ n, PureOk Try.prog 53 (owC n) := by
  intro n
  induction n with
  | zero => exact never_rel Try.func53 (by kernel_rfl) (by kernel_rfl) (fun x h => absurd h.1 (Nat.not_lt_zero _))
  | succ n ih => exact owC_of n (owP5_of (owP_of n ih))
theorem ow_c : PureOk Try.prog 53 owQ := rel_all (fun x : List PartD => wtL x) ow_all
set_option maxHeartbeats 8000000 in
theorem ins_s : ∀ n, PureOk Try.prog 57 (insC n) := by
  intro n
  induction n with
  | zero => exact never_rel Try.func57 (by kernel_rfl) (by kernel_rfl) (fun x h => absurd h.1 (Nat.not_lt_zero _))
  | succ n ih =>
  refine pure_rel 3 (tab_cons ow_c (tab_cons ih tab_nil)) mixed [.tmp 6] Try.func57 rfl rfl (by kernel_rfl) (by kernel_rfl) (fun _ => rfl) (by kernel_rfl) ?_
  rintro ⟨xs, m, o⟩ K ⟨hn, hb, hb1, hm⟩ hK
  dsimp only at *
  clear ih
  have hlw := len_le_wtL xs
  unfold entry
  repeat' (first | ((first | apply qwd | apply qa1 | apply qa2 | apply qa3 | apply qh1 | apply qh2 | apply qg1 rfl | apply qcd); (try intro K hk); focus (simp only [lvX17_57, mkT, go_sem, Nat.reduceEqDiff, Nat.reduceAdd, Nat.reduceLeDiff, Nat.reduceLT, Nat.reduceSub, Int.reduceToNat, ↓reduceIte, reduceCtorEq, encPs_length]; first | exact rfl | ((repeat (refine And.intro ?_ ?_; focus (first | omega | assumption | with_reducible rfl))); intros; apply hk; clear hk K))) | apply qw8 | apply qw1 | refine qwc lvX17_57 ?_ | apply qt1 | apply qw5 | apply qw2 | apply qw9 | apply qt2 | apply qt3 | apply qt4 | apply qt5 | apply qt6 | apply qw3 | apply qw4 | apply qj1 | apply qj2 | apply qj3 | apply qj4 | apply qj5 | apply qu1 | apply qu2 | (refine qj6 ?_ ?_ <;> intro hc <;> (try simp only [hc]) <;> (try simp only [decide_eq_true_eq, decide_eq_false_iff_not, Bool.not_eq_true', Bool.not_eq_false', Bool.not_eq_true, reduceCtorEq] at hc) <;> (try (exfalso; omega))) | (refine qt7 ?_ ?_; focus decide) | (refine qw7 ?_ ?_ ?_; (focus (decide +kernel)); (focus (decide +kernel))))
  refine s_loop (ι := Nat) (fun k => [(0, .seq (encPs xs)), (1, .str m), (2, .seq (encPs o)), (7, .own 0), (8, .int .i64 k)]) (fun k => [(0, .row 63 5 (encPs (isL m o (xs.take k))))]) 1 (fun k => k ≤ xs.length) (fun k => xs.length - k) 0 (by omega) (Nat.zero_le _) ?_ ?_
  · simp [fits, fitsT, fitsM, upd_def, PV.nmb, nmbL, MB.nmb, List.getD_cons_zero, List.getD_cons_succ, isL_nil, encPs_nil]
  intro k hk
  simp only [mkS, mkT, mkM]
  by_cases hkl : k < xs.length
  · obtain ⟨⟨kd, t, nm, ps, os⟩, hx⟩ := get_some (xs := xs) (k := k) (by omega)
    have htk := take_snoc' hx
    have ws := wtL_split hx
    rw [wtP_mk] at ws
    have hget := encPs_get xs
    have hs := isL_snoc (m := m) (o := o) hx
    rw [isP_mk] at hs
    have hw1 := isL_wt m o (xs.take (k + 1))
    have hw2 : wtL (xs.take (k + 1)) ≤ wtL xs := by have := wtL_append (xs.take (k + 1)) (xs.drop (k + 1)); rw [List.take_append_drop] at this; omega
    have hw3 := Nat.mul_le_mul_right (wtL o + 1) hw2
    have hw0 := len_le_wtL (isL m o (xs.take (k + 1)))
    have hp1 : wtL ps * (wtL o + 1) ≤ wtL xs * (wtL o + 1) := Nat.mul_le_mul_right _ (by omega)
    have hp2 : wtL os * (wtL o + 1) ≤ wtL xs * (wtL o + 1) := Nat.mul_le_mul_right _ (by omega)
    have ha1 := ps_a5 o
    have ha2 := ps_a5 (isL m o (xs.take k))
    have hfin : (isL m o (xs.take (k + 1))).length ≤ 1099511627776 := by omega
    have hol := len_le_wtL o
    have hwo : wtL o ≤ 1099511627776 := by have := Nat.le_mul_of_pos_left (wtL o + 1) (show 0 < wtL xs by omega); omega
    clear hw0 hw1 hw2 hw3
    by_cases hq : kd = 2 ∧ nm = m
    · rw [if_pos hq] at hs
      rw [hs, List.length_append] at hfin
      obtain ⟨hq1, hq2⟩ := hq
      repeat' (first | ((first | apply qwd | apply qa1 | apply qa2 | apply qa3 | apply qh1 | apply qh2 | apply qg1 rfl | apply qcd); (try intro K hk); focus (simp only [lvX17_57, mkT, go_sem, Nat.reduceEqDiff, Nat.reduceAdd, Nat.reduceLeDiff, Nat.reduceLT, Nat.reduceSub, Int.reduceToNat, ↓reduceIte, reduceCtorEq, encPs_length, hget, hx, encP_mk, ha1, ha2, ps_pt, ps_ap, hq1, hq2, decide_true]; first | exact rfl | ((repeat (refine And.intro ?_ ?_; focus (first | omega | assumption | with_reducible rfl))); intros; apply hk; clear hk K))) | apply qw8 | apply qw1 | refine qwc lvX17_57 ?_ | apply qt1 | apply qw5 | apply qw2 | apply qw9 | apply qt2 | apply qt3 | apply qt4 | apply qt5 | apply qt6 | apply qw3 | apply qw4 | apply qj1 | apply qj2 | apply qj3 | apply qj4 | apply qj5 | apply qu1 | apply qu2 | (refine qj6 ?_ ?_ <;> intro hc <;> (try simp only [hc]) <;> (try simp only [decide_eq_true_eq, decide_eq_false_iff_not, Bool.not_eq_true', Bool.not_eq_false', Bool.not_eq_true, reduceCtorEq] at hc) <;> (try (exfalso; omega))) | (refine qt7 ?_ ?_; focus decide) | (refine qw7 ?_ ?_ ?_; (focus (decide +kernel)); (focus (decide +kernel))))
      refine s_againR (k + 1) (fun i => if i = 0 then 2 else i) ?_ ?_ ?_ ?_ ?_ ?_ <;> (first | omega | (dsimp only; omega) | (intro i hi; (try dsimp only); (repeat' split) <;> omega) | (intro i j hi hj h; (try dsimp only at h); (repeat' split at h) <;> omega) | skip)
      all_goals (simp [fitsTR, fitsMR, PV.ren, renL, MB.ren, upd_def, PV.nmb, nmbL, MB.nmb, List.getD_cons_zero, List.getD_cons_succ, frz, drp, hs, encPs_append]; done)
    · rw [if_neg hq] at hs
      rw [hs, List.length_append, List.length_cons, List.length_nil] at hfin
      repeat' (first | ((first | apply qwd | apply qa1 | apply qa2 | apply qa3 | apply qh1 | apply qh2 | apply qg1 rfl | apply qcd); (try intro K hk); focus (simp only [lvX17_57, mkT, go_sem, Nat.reduceEqDiff, Nat.reduceAdd, Nat.reduceLeDiff, Nat.reduceLT, Nat.reduceSub, Int.reduceToNat, ↓reduceIte, reduceCtorEq, encPs_length, hget, hx, encP_mk, ha1, ha2, ps_pt, ps_ap]; first | exact rfl | ((repeat (refine And.intro ?_ ?_; focus (first | omega | assumption | with_reducible rfl))); intros; apply hk; clear hk K))) | apply qw8 | apply qw1 | refine qwc lvX17_57 ?_ | apply qt1 | apply qw5 | apply qw2 | apply qw9 | apply qt2 | apply qt3 | apply qt4 | apply qt5 | apply qt6 | apply qw3 | apply qw4 | apply qj1 | apply qj2 | apply qj3 | apply qj4 | apply qj5 | apply qu1 | apply qu2 | (refine qj6 ?_ ?_ <;> intro hc <;> (try simp only [hc]) <;> (try simp only [decide_eq_true_eq, decide_eq_false_iff_not, Bool.not_eq_true', Bool.not_eq_false', Bool.not_eq_true, reduceCtorEq] at hc) <;> (try (exfalso; omega))) | (refine qt7 ?_ ?_; focus decide) | (refine qw7 ?_ ?_ ?_; (focus (decide +kernel)); (focus (decide +kernel))))
      all_goals first
        | exact absurd ⟨‹kd = 2›, ‹nm = m›⟩ hq
        | (refine s_againR (k + 1) (fun i => if i = 0 then 3 else i) ?_ ?_ ?_ ?_ ?_ ?_ <;> (first | omega | (dsimp only; omega) | (intro i hi; (try dsimp only); (repeat' split) <;> omega) | (intro i j hi hj h; (try dsimp only at h); (repeat' split at h) <;> omega) | skip)
           all_goals (simp [fitsTR, fitsMR, PV.ren, renL, MB.ren, upd_def, PV.nmb, nmbL, MB.nmb, List.getD_cons_zero, List.getD_cons_succ, frz, drp, hs, encPs_append, encPs_one, encP_mk]; done))
        | skip
  · obtain rfl : k = xs.length := by omega
    repeat' (first | ((first | apply qwd | apply qa1 | apply qa2 | apply qa3 | apply qh1 | apply qh2 | apply qg1 rfl | apply qcd); (try intro K hk); focus (simp only [lvX17_57, mkT, go_sem, Nat.reduceEqDiff, Nat.reduceAdd, Nat.reduceLeDiff, Nat.reduceLT, Nat.reduceSub, Int.reduceToNat, ↓reduceIte, reduceCtorEq, encPs_length]; first | exact rfl | ((repeat (refine And.intro ?_ ?_; focus (first | omega | assumption | with_reducible rfl))); intros; apply hk; clear hk K))) | apply qw8 | apply qw1 | refine qwc lvX17_57 ?_ | apply qt1 | apply qw5 | apply qw2 | apply qw9 | apply qt2 | apply qt3 | apply qt4 | apply qt5 | apply qt6 | apply qw3 | apply qw4 | apply qj1 | apply qj2 | apply qj3 | apply qj4 | apply qj5 | apply qu1 | apply qu2 | (refine qj6 ?_ ?_ <;> intro hc <;> (try simp only [hc]) <;> (try simp only [decide_eq_true_eq, decide_eq_false_iff_not, Bool.not_eq_true', Bool.not_eq_false', Bool.not_eq_true, reduceCtorEq] at hc) <;> (try (exfalso; omega))) | (refine qt7 ?_ ?_; focus decide) | (refine qw7 ?_ ?_ ?_; (focus (decide +kernel)); (focus (decide +kernel))))
    ((first | refine fin_ret ?_ | refine fin_end ?_); simp only [go_sem, ↓upd_def, Nat.reduceEqDiff, Nat.reduceAdd, ↓reduceIte, reduceCtorEq])
    rw [List.take_length]
    exact hK
theorem ins_sc : PureOk Try.prog 57 insQ := rel_all (fun x : List PartD × Bs × List PartD => wtL x.1) ins_s
end Go.Proofs.Ytdedddmnacomfaa

/- Contracts: simpler, l21Simple. -/
namespace Go.Proofs.Ytdedddmnacomfaa
attribute [local irreducible] awp arun acalm FinP Fin AX.then AX.inBlock Again aG gsel amix amixN amixC aop aopc aopd cutK
attribute [local go_sem] aBSliceD aSlice aSliceC boundOf aMk aCall aCallC aLenL aLen aPick_t aPick_f aNil aAlloc aBox aBuild bldPV aBSlice bsPV aApp newsOf destOf drp aConvX aConv aConvInt aLoad cellsAt aStore cellsPV setAt aFld aField aIdx aIndex aUn aBin' aBin aMax aExtract pvOf PV.isCell nmbL PV.nmb List.map_cons List.map_nil List.all_cons List.all_nil Bool.and_true Bool.true_and if_true if_false List.getD_cons_zero List.getD_cons_succ List.getD_nil Option.isSome_some true_and and_true and_self eq_self true_or or_true List.drop_zero List.drop_succ_cons List.drop_nil List.take_zero List.take_succ_cons List.take_nil List.length_cons List.length_nil List.length_map Option.getD_some Option.getD_none List.nil_append List.cons_append List.append_nil Option.some.injEq exists_eq_left' List.getElem?_cons_zero List.getElem?_cons_succ Int.toNat_natCast Int.natCast_inj toNat_succ Nat.zero_add res res1 resC owns owns1 ownsC List.flatMap_cons List.flatMap_nil List.flatten_cons List.flatten_nil List.mem_cons List.not_mem_nil or_false false_or forall_eq forall_eq_or_imp isFro frz frz1 pureC tabA isBld List.cons.injEq PV.seq.injEq PV.int.injEq PV.str.injEq PV.bool.injEq PV.agg.injEq inR tab Γof aRes packR Option.map_some Option.map_none rel Prod.exists exists_and_left exists_eq_left and_assoc beq_self_eq_true Bool.not_true Bool.not_false decide_true decide_false List.set_cons_zero List.set_cons_succ rst_nil rst_cons
attribute [local go_sem ↓] evT upd_def aop aopc aopd
set_option maxRecDepth 100000
set_option linter.unusedVariables false
set_option linter.unusedSimpArgs false
open Go.RowKit
def lvX18_54 : Nat → List Nat
  | 0 => [0]
  | 1 => [0, 3]
  | 2 => [0, 3, 4]
  | 3 => [0, 3, 4, 11]
  | 4 => [0, 3, 4]
  | 5 => [0, 3, 4, 5]
  | 6 => [0, 3, 4, 5]
  | 7 => [0, 3, 4, 5]
  | 8 => [0, 3, 4, 5, 45]
  | 9 => [0, 3, 4, 5, 6]
  | 10 => [0, 3, 4, 5, 6, 76]
  | 11 => [0, 3, 4]
  | 12 => [0, 3, 4]
  | 13 => [2]
  | _ => []
--LV=X18
theorem ps_set (xs : List PartD) (k : Nat) (y : PartD) : encPs (xs.set k y) = (encPs xs).set k (encP y) := by
  have hm : ∀ l : List PartD, encPs l = l.map encP := fun l => by
    induction l with
    | nil => rw [encPs_nil]; rfl
    | cons a l ih => rw [show a :: l = [a] ++ l from rfl, encPs_append, encPs_one, ih]; rfl
  rw [hm, hm, List.map_set]
@[go_sem] def srC (n : Nat) : PC := rel (α := List PartD) (fun x => [.seq (encPs x)]) (fun x => wtL x < n ∧ wtL x ≤ 1099511627776) (fun x => .seq (encPs (srG [] x)))
set_option maxHeartbeats 8000000 in
theorem sr_s : ∀ n, PureOk Try.prog 54 (srC n) := by
  intro n
  induction n with
  | zero => exact never_rel Try.func54 (by kernel_rfl) (by kernel_rfl) (fun x h => absurd h.1 (Nat.not_lt_zero _))
  | succ n ih =>
  refine pure_rel 1 (tab_cons ih tab_nil) mixed [.tmp 2] Try.func54 rfl rfl (by kernel_rfl) (by kernel_rfl) (fun _ => rfl) (by kernel_rfl) ?_
  rintro xs K ⟨hn, hb⟩ hK
  clear ih
  have hlw := len_le_wtL xs
  unfold entry
  repeat' (first | ((first | apply qwd | apply qa1 | apply qa2 | apply qa3 | apply qh1 | apply qh2 | apply qg1 rfl | apply qcd); (try intro K hk); focus (simp only [lvX18_54, mkT, go_sem, Nat.reduceEqDiff, Nat.reduceAdd, Nat.reduceLeDiff, Nat.reduceLT, Nat.reduceSub, Int.reduceToNat, ↓reduceIte, reduceCtorEq, encPs_length]; first | exact rfl | ((repeat (refine And.intro ?_ ?_; focus (first | omega | assumption | with_reducible rfl))); intros; apply hk; clear hk K))) | apply qw8 | apply qw1 | refine qwc lvX18_54 ?_ | apply qt1 | apply qw5 | apply qw2 | apply qw9 | apply qt2 | apply qt3 | apply qt4 | apply qt5 | apply qt6 | apply qw3 | apply qw4 | apply qj1 | apply qj2 | apply qj3 | apply qj4 | apply qj5 | apply qu1 | apply qu2 | (refine qj6 ?_ ?_ <;> intro hc <;> (try simp only [hc]) <;> (try simp only [decide_eq_true_eq, decide_eq_false_iff_not, Bool.not_eq_true', Bool.not_eq_false', Bool.not_eq_true, reduceCtorEq] at hc) <;> (try (exfalso; omega))) | (refine qt7 ?_ ?_; focus decide) | (refine qw7 ?_ ?_ ?_; (focus (decide +kernel)); (focus (decide +kernel))))
  refine s_loop (ι := Nat × List PartD) (fun i => [(0, .seq (encPs xs)), (3, .own 0), (4, .int .i64 i.1)]) (fun i => [(0, .row 63 5 (encPs i.2))]) 1 (fun i => i.1 ≤ xs.length ∧ srG [] (xs.take i.1) = i.2) (fun i => xs.length - i.1) (0, []) (by omega) ⟨Nat.zero_le _, srG_nil _⟩ ?_ ?_
  · simp [fits, fitsT, fitsM, upd_def, PV.nmb, nmbL, MB.nmb, List.getD_cons_zero, List.getD_cons_succ, encPs_nil]
  rintro ⟨k, o⟩ ⟨hk, ho⟩
  dsimp only at *
  simp only [mkS, mkT, mkM]
  by_cases hkl : k < xs.length
  · obtain ⟨⟨kd, t, nm, ps, os⟩, hx⟩ := get_some (xs := xs) (k := k) (by omega)
    have htk := take_snoc' hx
    have ws := wtL_split hx
    rw [wtP_mk] at ws
    have hget := encPs_get xs
    have hs := srG_snoc (out := []) hx
    rw [ho, srP_mk] at hs
    have hwo : wtL o ≤ wtL xs := by
      have := wt_srG (xs.take k) []
      rw [ho, wtL_nil] at this
      have := wtL_append (xs.take k) (xs.drop k); rw [List.take_append_drop] at this; omega
    have hol := len_le_wtL o
    have hta := ps_a5 o
    have hgo := encPs_get o
    have hw1 := wt_srG ps []
    have hw2 := wt_srG os []
    rw [wtL_nil] at hw1 hw2
    generalize hA : srG [] ps = a at *
    generalize hB : srG [] os = b at *
    have hla := len_le_wtL a
    have hlb := len_le_wtL b
    have hem : (kd = 3 ∨ kd = 4) → a.length = 0 → b.length = 0 → putR o (.mk kd t nm a b) = o := fun h1 h2 h3 => putR_skip ((emptyK_mk _ _ _ _ _).2 ⟨h1, List.length_eq_zero_iff.1 h2, List.length_eq_zero_iff.1 h3⟩)
    have hne : ¬ ((kd = 3 ∨ kd = 4) ∧ a.length = 0 ∧ b.length = 0) → emptyK (.mk kd t nm a b) = false := fun h => by
      rw [Bool.eq_false_iff]
      intro h9
      obtain ⟨h1, rfl, rfl⟩ := (emptyK_mk _ _ _ _ _).1 h9
      exact h ⟨h1, rfl, rfl⟩
    by_cases ho0 : o = []
    · have hz : o.length = 0 := by rw [ho0]; rfl
      repeat' (first | ((first | apply qwd | apply qa1 | apply qa2 | apply qa3 | apply qh1 | apply qh2 | apply qg1 rfl | apply qcd); (try intro K hk); focus (simp only [lvX18_54, mkT, go_sem, Nat.reduceEqDiff, Nat.reduceAdd, Nat.reduceLeDiff, Nat.reduceLT, Nat.reduceSub, Int.reduceToNat, ↓reduceIte, reduceCtorEq, encPs_length, hget, hx, encP_mk, hA, hB, hta]; first | exact rfl | ((repeat (refine And.intro ?_ ?_; focus (first | omega | assumption | with_reducible rfl))); intros; apply hk; clear hk K))) | apply qw8 | apply qw1 | refine qwc lvX18_54 ?_ | apply qt1 | apply qw5 | apply qw2 | apply qw9 | apply qt2 | apply qt3 | apply qt4 | apply qt5 | apply qt6 | apply qw3 | apply qw4 | apply qj1 | apply qj2 | apply qj3 | apply qj4 | apply qj5 | apply qu1 | apply qu2 | (refine qj6 ?_ ?_ <;> intro hc <;> (try simp only [hc]) <;> (try simp only [decide_eq_true_eq, decide_eq_false_iff_not, Bool.not_eq_true', Bool.not_eq_false', Bool.not_eq_true, reduceCtorEq] at hc) <;> (try (exfalso; omega))) | (refine qt7 ?_ ?_; focus decide) | (refine qw7 ?_ ?_ ?_; (focus (decide +kernel)); (focus (decide +kernel))))
      all_goals first
        | (rw [hem (by omega) (by omega) (by omega)] at hs
           refine s_again ((k + 1, o)) ?_ ?_ ?_ <;> (first | omega | (dsimp only; omega) | skip)
           · exact ⟨by dsimp only; omega, hs⟩
           · simp [fits, fitsT, fitsM, upd_def, PV.nmb, nmbL, MB.nmb, List.getD_cons_zero, List.getD_cons_succ])
        | (rw [putR_new (hne (by omega)) (.inr (by rw [ho0]; rfl))] at hs
           refine s_againR ((k + 1, o ++ [.mk kd t nm a b])) (fun i => if i = 0 then 3 else i) ?_ ?_ ?_ ?_ ?_ ?_ <;> (first | omega | (dsimp only; omega) | (intro i hi; (try dsimp only); (repeat' split) <;> omega) | (intro i j hi hj h; (try dsimp only at h); (repeat' split at h) <;> omega) | skip)
           · exact ⟨by dsimp only; omega, hs⟩
           all_goals (simp [fitsTR, fitsMR, PV.ren, renL, MB.ren, upd_def, PV.nmb, nmbL, MB.nmb, List.getD_cons_zero, List.getD_cons_succ, frz, drp, encPs_append, encPs_one, encP_mk]; done))
        | skip
    · have hlp : 0 < o.length := List.length_pos_iff.2 ho0
      obtain ⟨⟨k2, t2, n2, a2, b2⟩, hy⟩ := get_some (xs := o) (k := o.length - 1) (by omega)
      have hpr : ((o.length : Int) - 1).toNat = o.length - 1 := by omega
      have wy := wtL_split hy
      rw [wtP_mk] at wy
      have hend := endT_at hy
      have hset : (encPs o).set (o.length - 1) [.int .i64 k2, .str (t2 ++ t), .str n2, .seq (encPs a2), .seq (encPs b2)] = encPs (o.set (o.length - 1) (.mk k2 (t2 ++ t) n2 a2 b2)) := by rw [ps_set, encP_mk]
      repeat' (first | (first | ((first | apply qwd | apply qa1 | apply qa2 | apply qa3 | apply qh1 | apply qh2 | apply qg1 rfl | apply qcd); (try intro K hk); focus (simp only [lvX18_54, mkT, go_sem, Nat.reduceEqDiff, Nat.reduceAdd, Nat.reduceLeDiff, Nat.reduceLT, Nat.reduceSub, Int.reduceToNat, ↓reduceIte, reduceCtorEq, encPs_length, hget, hx, encP_mk, hA, hB, hta, hset, hpr, hgo, hy, Option.map_some, List.length_append]; first | exact rfl | ((repeat (refine And.intro ?_ ?_; focus (first | omega | assumption | with_reducible rfl))); intros; apply hk; clear hk K))) | apply qw8 | apply qw1 | refine qwc lvX18_54 ?_ | apply qt1 | apply qw5 | apply qw2 | apply qw9 | apply qt2 | apply qt3 | apply qt4 | apply qt5 | apply qt6 | apply qw3 | apply qw4 | apply qj1 | apply qj2 | apply qj3 | apply qj4 | apply qj5 | apply qu1 | apply qu2 | (refine qj6 ?_ ?_ <;> intro hc <;> (try simp only [hc]) <;> (try simp only [decide_eq_true_eq, decide_eq_false_iff_not, Bool.not_eq_true', Bool.not_eq_false', Bool.not_eq_true, reduceCtorEq] at hc) <;> (try (exfalso; omega))) | (refine qt7 ?_ ?_; focus decide) | (refine qw7 ?_ ?_ ?_; (focus (decide +kernel)); (focus (decide +kernel)))) | (refine s_draw 12 ?_ ?_; focus (decide +kernel)))
      all_goals first
        | (rw [hem (by omega) (by omega) (by omega)] at hs
           refine s_again ((k + 1, o)) ?_ ?_ ?_ <;> (first | omega | (dsimp only; omega) | skip)
           · exact ⟨by dsimp only; omega, hs⟩
           · simp [fits, fitsT, fitsM, upd_def, PV.nmb, nmbL, MB.nmb, List.getD_cons_zero, List.getD_cons_succ])
        | (rw [putR_new (hne (by omega)) (by first | exact .inl ‹¬ kd = 1› | exact .inr (by rw [hend, if_neg ‹¬ k2 = 1›]))] at hs
           refine s_againR ((k + 1, o ++ [.mk kd t nm a b])) (fun i => if i = 0 then 3 else i) ?_ ?_ ?_ ?_ ?_ ?_ <;> (first | omega | (dsimp only; omega) | (intro i hi; (try dsimp only); (repeat' split) <;> omega) | (intro i j hi hj h; (try dsimp only at h); (repeat' split at h) <;> omega) | skip)
           · exact ⟨by dsimp only; omega, hs⟩
           all_goals (simp [fitsTR, fitsMR, PV.ren, renL, MB.ren, upd_def, PV.nmb, nmbL, MB.nmb, List.getD_cons_zero, List.getD_cons_succ, frz, drp, encPs_append, encPs_one, encP_mk]; done))
        | (obtain rfl : kd = 1 := ‹_›
           rw [putR_hit hy ‹k2 = 1›, if_pos (by rw [List.length_append]; omega)] at hs
           refine s_again ((k + 1, o.set (o.length - 1) (.mk k2 (t2 ++ t) n2 a2 b2))) ?_ ?_ ?_ <;> (first | omega | (dsimp only; omega) | skip)
           · exact ⟨by dsimp only; omega, hs⟩
           · simp [fits, fitsT, fitsM, upd_def, PV.nmb, nmbL, MB.nmb, List.getD_cons_zero, List.getD_cons_succ])
        | (obtain rfl : kd = 1 := ‹_›
           rw [putR_hit hy ‹k2 = 1›, if_neg (by rw [List.length_append]; omega)] at hs
           refine s_againR ((k + 1, o ++ [.mk 1 t nm a b])) (fun i => if i = 0 then 3 else i) ?_ ?_ ?_ ?_ ?_ ?_ <;> (first | omega | (dsimp only; omega) | (intro i hi; (try dsimp only); (repeat' split) <;> omega) | (intro i j hi hj h; (try dsimp only at h); (repeat' split at h) <;> omega) | skip)
           · exact ⟨by dsimp only; omega, hs⟩
           all_goals (simp [fitsTR, fitsMR, PV.ren, renL, MB.ren, upd_def, PV.nmb, nmbL, MB.nmb, List.getD_cons_zero, List.getD_cons_succ, frz, drp, encPs_append, encPs_one, encP_mk]; done))
        | skip
  · obtain rfl : k = xs.length := by omega
    repeat' (first | ((first | apply qwd | apply qa1 | apply qa2 | apply qa3 | apply qh1 | apply qh2 | apply qg1 rfl | apply qcd); (try intro K hk); focus (simp only [lvX18_54, mkT, go_sem, Nat.reduceEqDiff, Nat.reduceAdd, Nat.reduceLeDiff, Nat.reduceLT, Nat.reduceSub, Int.reduceToNat, ↓reduceIte, reduceCtorEq, encPs_length]; first | exact rfl | ((repeat (refine And.intro ?_ ?_; focus (first | omega | assumption | with_reducible rfl))); intros; apply hk; clear hk K))) | apply qw8 | apply qw1 | refine qwc lvX18_54 ?_ | apply qt1 | apply qw5 | apply qw2 | apply qw9 | apply qt2 | apply qt3 | apply qt4 | apply qt5 | apply qt6 | apply qw3 | apply qw4 | apply qj1 | apply qj2 | apply qj3 | apply qj4 | apply qj5 | apply qu1 | apply qu2 | (refine qj6 ?_ ?_ <;> intro hc <;> (try simp only [hc]) <;> (try simp only [decide_eq_true_eq, decide_eq_false_iff_not, Bool.not_eq_true', Bool.not_eq_false', Bool.not_eq_true, reduceCtorEq] at hc) <;> (try (exfalso; omega))) | (refine qt7 ?_ ?_; focus decide) | (refine qw7 ?_ ?_ ?_; (focus (decide +kernel)); (focus (decide +kernel))))
    ((first | refine fin_ret ?_ | refine fin_end ?_); simp only [go_sem, ↓upd_def, Nat.reduceEqDiff, Nat.reduceAdd, ↓reduceIte, reduceCtorEq])
    rw [List.take_length] at ho
    refine K_eq hK ?_
    rw [ho]
end Go.Proofs.Ytdedddmnacomfaa

/- Contracts: SimplerParts, InsertParts. -/
namespace Go.Proofs.Ytdedddmnacomfaa
attribute [local irreducible] awp arun acalm FinP Fin AX.then AX.inBlock Again aG gsel amix amixN amixC aop aopc aopd cutK
attribute [local go_sem] aBSliceD aSlice aSliceC boundOf aMk aCall aCallC aLenL aLen aPick_t aPick_f aNil aAlloc aBox aBuild bldPV aBSlice bsPV aApp newsOf destOf drp aConvX aConv aConvInt aLoad cellsAt aStore cellsPV setAt aFld aField aIdx aIndex aUn aBin' aBin aMax aExtract pvOf PV.isCell nmbL PV.nmb List.map_cons List.map_nil List.all_cons List.all_nil Bool.and_true Bool.true_and if_true if_false List.getD_cons_zero List.getD_cons_succ List.getD_nil Option.isSome_some true_and and_true and_self eq_self true_or or_true List.drop_zero List.drop_succ_cons List.drop_nil List.take_zero List.take_succ_cons List.take_nil List.length_cons List.length_nil List.length_map Option.getD_some Option.getD_none List.nil_append List.cons_append List.append_nil Option.some.injEq exists_eq_left' List.getElem?_cons_zero List.getElem?_cons_succ Int.toNat_natCast Int.natCast_inj toNat_succ Nat.zero_add res res1 resC owns owns1 ownsC List.flatMap_cons List.flatMap_nil List.flatten_cons List.flatten_nil List.mem_cons List.not_mem_nil or_false false_or forall_eq forall_eq_or_imp isFro frz frz1 pureC tabA isBld List.cons.injEq PV.seq.injEq PV.int.injEq PV.str.injEq PV.bool.injEq PV.agg.injEq inR tab Γof aRes packR Option.map_some Option.map_none rel Prod.exists exists_and_left exists_eq_left and_assoc beq_self_eq_true Bool.not_true Bool.not_false decide_true decide_false List.set_cons_zero List.set_cons_succ rst_nil rst_cons
attribute [local go_sem ↓] evT upd_def aop aopc aopd
set_option maxRecDepth 100000
set_option linter.unusedVariables false
set_option linter.unusedSimpArgs false
open Go.RowKit
@[go_sem] def smpQ : PC := rel (α := List PartD) (fun x => [.seq (encPs x)]) (fun x => wtL x ≤ 1073741824) (fun x => .tup [.seq (encPs ((simM x).getD [])), .bool (simM x).isSome])
@[go_sem] def srQ1 : PC := rel (α := List PartD) (fun x => [.seq (encPs x)]) (fun x => wtL x ≤ 1099511627776) (fun x => .seq (encPs (srG [] x)))
theorem sr_sc : PureOk Try.prog 54 srQ1 := rel_all (fun x : List PartD => wtL x) sr_s
theorem sp_s : PureOk Try.prog 20 smpQ := by
  refine pure_rel 1 (tab_cons pv_s (tab_cons sr_sc (tab_cons ow_c tab_nil))) mixed [.tmp 2, .tmp 3] Try.func20 rfl rfl (by kernel_rfl) (by kernel_rfl) (fun _ => rfl) (by kernel_rfl) ?_
  rintro xs K hb hK
  have hlw := len_le_wtL xs
  have hw := wt_srG xs []
  rw [wtL_nil] at hw
  have hls := len_le_wtL (srG [] xs)
  unfold entry
  repeat' (first | ((first | apply qa1 | apply qa2 | apply qa3 | apply qh1 | apply qh2 | apply qg1 rfl | apply qcd); (try intro K hk); focus (simp only [go_sem, Nat.reduceEqDiff, Nat.reduceAdd, Nat.reduceLeDiff, Nat.reduceLT, Nat.reduceSub, Int.reduceToNat, ↓reduceIte, reduceCtorEq]; first | exact rfl | ((repeat (refine And.intro ?_ ?_; focus (first | omega | assumption | with_reducible rfl))); intros; apply hk; clear hk K))) | apply qw8 | apply qw1 | apply qw6 | apply qt1 | apply qw5 | apply qw2 | apply qw9 | apply qt2 | apply qt3 | apply qt4 | apply qt5 | apply qt6 | apply qw3 | apply qw4 | apply qj1 | apply qj2 | apply qj3 | apply qj4 | apply qj5 | apply qu1 | apply qu2 | (refine qj6 ?_ ?_ <;> intro hc <;> (try simp only [hc]) <;> (try simp only [decide_eq_true_eq, decide_eq_false_iff_not, Bool.not_eq_true', Bool.not_eq_false', Bool.not_eq_true, reduceCtorEq] at hc) <;> (try (exfalso; omega))) | (refine qt7 ?_ ?_; focus decide) | (refine qw7 ?_ ?_ ?_; (focus (decide +kernel)); (focus (decide +kernel))))
  · ((first | refine fin_ret ?_ | refine fin_end ?_); simp only [go_sem, ↓upd_def, Nat.reduceEqDiff, Nat.reduceAdd, ↓reduceIte, reduceCtorEq])
    refine K_eq hK ?_
    unfold simM
    rw [if_neg (by rw [‹partsB xs = false›]; decide)]; simp [encPs_nil]
  · ((first | refine fin_ret ?_ | refine fin_end ?_); simp only [go_sem, ↓upd_def, Nat.reduceEqDiff, Nat.reduceAdd, ↓reduceIte, reduceCtorEq])
    refine K_eq hK ?_
    rw [← sim_ref xs ‹partsB xs = true›, if_neg (by rw [‹partsB (srG [] xs) = false›]; decide)]; simp [encPs_nil]
  · ((first | refine fin_ret ?_ | refine fin_end ?_); simp only [go_sem, ↓upd_def, Nat.reduceEqDiff, Nat.reduceAdd, ↓reduceIte, reduceCtorEq])
    refine K_eq hK ?_
    rw [← sim_ref xs ‹partsB xs = true›, if_pos ‹partsB (srG [] xs) = true›]; simp
end Go.Proofs.Ytdedddmnacomfaa
