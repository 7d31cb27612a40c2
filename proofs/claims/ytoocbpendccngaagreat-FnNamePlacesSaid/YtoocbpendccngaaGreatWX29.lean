/- Contracts: sortedNames, NamesUsed. -/
import Derived.Test.YtoocbpendccngaaGreatWCS
import Derived.Test.YtoocbpendccngaaGreatWX28

namespace Go.Proofs.YtoocbpendccngaaGreat
attribute [local irreducible] awp arun acalm FinP Fin AX.then AX.inBlock Again aG gsel amix amixN amixC aop aopc aopd cutK
attribute [local go_sem] aBSliceD aSlice aSliceC boundOf aMk aCall aCallC aLenL aLen aPick_t aPick_f aNil aAlloc aBox aBuild bldPV aBSlice bsPV aApp newsOf destOf drp aConvX aConv aConvInt aLoad cellsAt aStore cellsPV setAt aFld aField aIdx aIndex aUn aBin' aBin aMax aExtract pvOf PV.isCell nmbL PV.nmb List.map_cons List.map_nil List.all_cons List.all_nil Bool.and_true Bool.true_and if_true if_false List.getD_cons_zero List.getD_cons_succ List.getD_nil Option.isSome_some true_and and_true and_self eq_self true_or or_true List.drop_zero List.drop_succ_cons List.drop_nil List.take_zero List.take_succ_cons List.take_nil List.length_cons List.length_nil List.length_map Option.getD_some Option.getD_none List.nil_append List.cons_append List.append_nil Option.some.injEq exists_eq_left' List.getElem?_cons_zero List.getElem?_cons_succ Int.toNat_natCast Int.natCast_inj toNat_succ Nat.zero_add res res1 resC owns owns1 ownsC List.flatMap_cons List.flatMap_nil List.flatten_cons List.flatten_nil List.mem_cons List.not_mem_nil or_false false_or forall_eq forall_eq_or_imp isFro frz frz1 pureC tabA isBld List.cons.injEq PV.seq.injEq PV.int.injEq PV.str.injEq PV.bool.injEq PV.agg.injEq inR tab Γof aRes packR Option.map_some Option.map_none rel Prod.exists exists_and_left exists_eq_left and_assoc beq_self_eq_true Bool.not_true Bool.not_false decide_true decide_false List.set_cons_zero List.set_cons_succ rst_nil rst_cons
attribute [local go_sem ↓] evT upd_def aop aopc aopd
set_option maxRecDepth 100000
set_option linter.unusedVariables false
set_option linter.unusedSimpArgs false
open Go.RowKit
def lvX29_12 : Nat → List Nat
  | 0 => [0, 1]
  | 1 => [0, 1, 23]
  | 2 => [4]
  | 3 => [4]
  | _ => []
--LV=X29
theorem exl29 {α : Type} {p : α → Prop} {a : α} : (∃ x, a = x ∧ p x) ↔ p a := ⟨fun ⟨_, rfl, h⟩ => h, fun h => ⟨a, rfl, h⟩⟩
@[go_sem] def nmQ : AC := locY 9 1 (α := List Bs × List PartD × Int) (fun x => [.seq (encPs x.2.1), .int .i64 x.2.2, .own 0]) (fun x => .row 9 1 (strs x.1)) (fun x => wtL x.2.1 ≤ 1073741824 ∧ x.1.length + wtL x.2.1 ≤ 2147483648) (fun x es => es = strs (x.1 ++ nmL x.2.2 x.2.1))
theorem nmQ_i : ACok Tryz.prog 40 nmQ := ⟨(nm_i 0).fn, fun c mem n av vs K hI hn hr hC => by
  obtain ⟨x, i, h1, h2, h3, h4⟩ := hC
  exact (nm_i (wtL x.2.1 + 1)).run c mem n av vs K hI hn hr ⟨x, i, h1, ⟨Nat.lt_succ_self _, h2⟩, h3, h4⟩⟩
@[go_sem] def nmNil : AC := fun args mem n K => match args with
  | [.seq es, .int k q, .nil] => k = .i64 ∧ ∃ xs, es = encPs xs ∧ wtL xs ≤ 1073741824 ∧ K (.own (n + 1)) (upd (upd (upd mem n (some (.row 9 1 []))) n none) (n + 1) (some (.row 9 1 (strs (nmL q xs))))) (n + 1 + 1)
  | _ => False
theorem nmNil_ok : ACok Tryz.prog 40 nmNil := by
  refine ⟨(nm_i 0).fn, fun c mem n args vs K hI hn hr h => ?_⟩
  unfold nmNil at h
  split at h
  · rename_i es k q
    obtain ⟨rfl, xs, rfl, hw, hK⟩ := h
    rw [RepL.cons_iff] at hr
    obtain ⟨v1, r1, rfl, q1, hr⟩ := hr
    rw [RepL.cons_iff] at hr
    obtain ⟨v2, r2, rfl, q2, hr⟩ := hr
    rw [RepL.cons_iff] at hr
    obtain ⟨v3, r3, rfl, q3, hr⟩ := hr
    rw [RepL.nil_iff] at hr
    subst hr
    unfold Rep at q3
    subst q3
    obtain ⟨c1, w1, st, hrep⟩ := Step.nilRow 9 1 hI hn
    have hr1 : RepL [.seq (encPs xs), .int .i64 q, .own n] c1 [v1, v2, .slice none 0 0] :=
      RepL.cons_iff.2 ⟨_, _, rfl, Rep.mono _ st.le q1, RepL.cons_iff.2 ⟨_, _, rfl, Rep.mono _ st.le q2, RepL.cons_iff.2 ⟨_, _, rfl, hrep, RepL.nil_iff.2 rfl⟩⟩⟩
    have hrun := nmQ_i.run c1 _ (n + 1) _ _ K st.inv st.free hr1 (by
      refine ⟨([], xs, q), n, rfl, ⟨hw, by dsimp only [List.length_nil]; omega⟩, upd_same _ _ _, ?_⟩
      rintro es rfl
      exact hK)
    rw [w1] at hrun
    refine hrun.mono ?_
    rintro e w' ⟨v', r, c', mem', n', rfl, hw', hK', st', hrep'⟩
    exact ⟨v', r, c', mem', n', rfl, hw', hK', st.trans st', hrep'⟩
  · exact h.elim
@[go_sem] def soC0 : AC := locX 9 1 (α := List Bs) (fun _ => []) (fun x => .row 9 1 (strs x)) (fun x => x.length ≤ 1099511627776) (fun x es => es = strs (usedL x))
theorem so_ok0 : ACok Tryz.prog 39 soC0 := by
  refine locX_ok 1 (tabA_cons srt_ok (tabA_cons cmp_ok (tabA_nil (Γof_ok tab_nil)))) tab_nil mixed [.tmp 2] Tryz.func39 rfl rfl (by kernel_rfl) (by kernel_rfl) (fun _ => rfl) (by kernel_rfl) (fun x => by simp [nmbL, PV.nmb]) (fun x => by simp [go_sem, MB.nmb, nmbL, PV.nmb]) ?_
  rintro l K hl hK
  unfold entry
  simp only [mkM] at *
  repeat' (first | ((first | apply qa1 | apply qa2 | apply qa3 | apply qh1 | apply qh2 | apply qg1 rfl | apply qcd); (try intro K hk); focus (simp only [go_sem, Nat.reduceEqDiff, Nat.reduceAdd, Nat.reduceLeDiff, Nat.reduceLT, Nat.reduceSub, Int.reduceToNat, ↓reduceIte, reduceCtorEq, exl29, strs_iff]; first | exact rfl | ((repeat (refine And.intro ?_ ?_; focus (first | omega | assumption | with_reducible rfl))); intros; apply hk; clear hk K))) | apply qw8 | apply qw1 | apply qw6 | apply qt1 | apply qw5 | apply qw2 | apply qw9 | apply qt2 | apply qt3 | apply qt4 | apply qt5 | apply qt6 | apply qw3 | apply qw4 | apply qj1 | apply qj2 | apply qj3 | apply qj4 | apply qj5 | apply qu1 | apply qu2 | (refine qj6 ?_ ?_ <;> intro hc <;> (try simp only [hc]) <;> (try simp only [decide_eq_true_eq, decide_eq_false_iff_not, Bool.not_eq_true', Bool.not_eq_false', Bool.not_eq_true, reduceCtorEq] at hc) <;> (try (exfalso; omega))) | (refine qt7 ?_ ?_; focus decide) | (refine qw7 ?_ ?_ ?_; (focus (decide +kernel)); (focus (decide +kernel))))
  (refine qa1 fun K hk => ?_); simp only [go_sem, ↓upd_def, ↓evT, Nat.reduceEqDiff, Nat.reduceAdd, Nat.reduceLeDiff, Nat.reduceLT, Nat.reduceSub, Int.reduceToNat, ↓reduceIte, reduceCtorEq, ↓aop, ↓aopc, ↓aopd, exl29, strs_iff]; repeat (refine And.intro ?_ ?_; focus (first | omega | assumption | with_reducible rfl | (simp only [go_sem, ↓upd_def, ↓evT, Nat.reduceEqDiff, Nat.reduceAdd, Nat.reduceLeDiff, Nat.reduceLT, Nat.reduceSub, Int.reduceToNat, ↓reduceIte, reduceCtorEq, ↓aop, ↓aopc, ↓aopd, exl29, strs_iff]; done)))
  refine ⟨l, rfl, hl, ?_⟩
  apply hk; clear hk K
  repeat' (first | ((first | apply qa1 | apply qa2 | apply qa3 | apply qh1 | apply qh2 | apply qg1 rfl | apply qcd); (try intro K hk); focus (simp only [go_sem, Nat.reduceEqDiff, Nat.reduceAdd, Nat.reduceLeDiff, Nat.reduceLT, Nat.reduceSub, Int.reduceToNat, ↓reduceIte, reduceCtorEq, exl29, strs_iff]; first | exact rfl | ((repeat (refine And.intro ?_ ?_; focus (first | omega | assumption | with_reducible rfl))); intros; apply hk; clear hk K))) | apply qw8 | apply qw1 | apply qw6 | apply qt1 | apply qw5 | apply qw2 | apply qw9 | apply qt2 | apply qt3 | apply qt4 | apply qt5 | apply qt6 | apply qw3 | apply qw4 | apply qj1 | apply qj2 | apply qj3 | apply qj4 | apply qj5 | apply qu1 | apply qu2 | (refine qj6 ?_ ?_ <;> intro hc <;> (try simp only [hc]) <;> (try simp only [decide_eq_true_eq, decide_eq_false_iff_not, Bool.not_eq_true', Bool.not_eq_false', Bool.not_eq_true, reduceCtorEq] at hc) <;> (try (exfalso; omega))) | (refine qt7 ?_ ?_; focus decide) | (refine qw7 ?_ ?_ ?_; (focus (decide +kernel)); (focus (decide +kernel))))
  ((first | refine fin_V ?_ | refine fin_Ve ?_ | refine fin_O ?_ | refine fin_Oe ?_ | refine fin_X ?_ | refine fin_Xe ?_ | refine fin_B ?_ | refine fin_Be ?_); simp only [go_sem, PV.own.injEq, MB.row.injEq, MB.nmb, not_false_eq_true, ne_eq, ↓upd_def, Nat.reduceEqDiff, Nat.reduceAdd, ↓reduceIte, reduceCtorEq])
  exact hK _ rfl
@[go_sem] def soC : AC := fun args mem n K => match args with
  | [.own i] => (match mem i with
    | some (.row e s es) => e = 9 ∧ s = 1 ∧ ∃ l : List Bs, es = strs l ∧ l.length ≤ 1099511627776 ∧ K (.own n) (upd (upd mem i none) n (some (.row 9 1 (strs (usedL l))))) (n + 1)
    | _ => False)
  | _ => False
theorem so_ok : ACok Tryz.prog 39 soC := so_ok0.via fun args mem n K h => by
  unfold soC at h
  split at h
  · rename_i i
    split at h
    · rename_i e s es hm
      obtain ⟨rfl, rfl, l, rfl, hl, hK⟩ := h
      exact ⟨l, i, rfl, hl, hm, fun es he => by subst he; exact hK⟩
    · exact h.elim
  · exact h.elim
theorem nu_i : PureOk Tryz.prog 12 nuC := by
  refine pure_relA 2 (tabA_cons nmNil_ok (tabA_cons so_ok (tabA_nil (Γof_ok (tab_cons pv_i tab_nil))))) (tab_cons pv_i tab_nil) mixed [.tmp 4] Tryz.func12 rfl rfl (by kernel_rfl) (by kernel_rfl) (fun _ => rfl) (by kernel_rfl) ?_
  rintro ⟨xs, q⟩ K hb hK
  dsimp only at *
  have hnl := nmL_len q xs
  unfold entry
  unfold usedM at hK
  cases hp : partsB xs
  · rw [hp] at hK
    simp only [Bool.false_eq_true, false_and, if_false] at hK
    repeat' (first | ((first | apply qwd | apply qa1 | apply qa2 | apply qa3 | apply qh1 | apply qh2 | apply qg1 rfl | apply qcd); (try intro K hk); focus (simp only [lvX29_12, mkT, go_sem, Nat.reduceEqDiff, Nat.reduceAdd, Nat.reduceLeDiff, Nat.reduceLT, Nat.reduceSub, Int.reduceToNat, ↓reduceIte, reduceCtorEq, hp, Bool.not_false]; first | exact rfl | ((repeat (refine And.intro ?_ ?_; focus (first | omega | assumption | with_reducible rfl))); intros; apply hk; clear hk K))) | apply qw8 | apply qw1 | refine qwc lvX29_12 ?_ | apply qt1 | apply qw5 | apply qw2 | apply qw9 | apply qt2 | apply qt3 | apply qt4 | apply qt5 | apply qt6 | apply qw3 | apply qw4 | apply qj1 | apply qj2 | apply qj3 | apply qj4 | apply qj5 | apply qu1 | apply qu2 | (refine qj6 ?_ ?_ <;> intro hc <;> (try simp only [hc]) <;> (try simp only [decide_eq_true_eq, decide_eq_false_iff_not, Bool.not_eq_true', Bool.not_eq_false', Bool.not_eq_true, reduceCtorEq] at hc) <;> (try (exfalso; omega))) | (refine qt7 ?_ ?_; focus decide) | (refine qw7 ?_ ?_ ?_; (focus (decide +kernel)); (focus (decide +kernel))))
    ((first | refine fin_ret ?_ | refine fin_end ?_); simp only [go_sem, ↓upd_def, Nat.reduceEqDiff, Nat.reduceAdd, ↓reduceIte, reduceCtorEq])
    exact hK
  by_cases hq : kindOk q = true
  · rw [if_pos ⟨hp, hq⟩] at hK
    rw [kindOk_iff] at hq
    repeat' (first | ((first | apply qwd | apply qa1 | apply qa2 | apply qa3 | apply qh1 | apply qh2 | apply qg1 rfl | apply qcd); (try intro K hk); focus (simp only [lvX29_12, mkT, go_sem, Nat.reduceEqDiff, Nat.reduceAdd, Nat.reduceLeDiff, Nat.reduceLT, Nat.reduceSub, Int.reduceToNat, ↓reduceIte, reduceCtorEq, hp, exl29, encPs_iff, strs_iff, Bool.not_true, Bool.not_false]; first | exact rfl | ((repeat (refine And.intro ?_ ?_; focus (first | omega | assumption | with_reducible rfl))); intros; apply hk; clear hk K))) | apply qw8 | apply qw1 | refine qwc lvX29_12 ?_ | apply qt1 | apply qw5 | apply qw2 | apply qw9 | apply qt2 | apply qt3 | apply qt4 | apply qt5 | apply qt6 | apply qw3 | apply qw4 | apply qj1 | apply qj2 | apply qj3 | apply qj4 | apply qj5 | apply qu1 | apply qu2 | (refine qj6 ?_ ?_ <;> intro hc <;> (try simp only [hc]) <;> (try simp only [decide_eq_true_eq, decide_eq_false_iff_not, Bool.not_eq_true', Bool.not_eq_false', Bool.not_eq_true, reduceCtorEq] at hc) <;> (try (exfalso; omega))) | (refine qt7 ?_ ?_; focus decide) | (refine qw7 ?_ ?_ ?_; (focus (decide +kernel)); (focus (decide +kernel))))
    all_goals first
      | (((first | refine fin_ret ?_ | refine fin_end ?_); simp only [go_sem, ↓upd_def, Nat.reduceEqDiff, Nat.reduceAdd, ↓reduceIte, reduceCtorEq])
         exact hK)
      | (exfalso; omega)
      | skip
  · rw [if_neg (by rintro ⟨_, h⟩; exact hq h)] at hK
    rw [kindOk_iff] at hq
    repeat' (first | ((first | apply qwd | apply qa1 | apply qa2 | apply qa3 | apply qh1 | apply qh2 | apply qg1 rfl | apply qcd); (try intro K hk); focus (simp only [lvX29_12, mkT, go_sem, Nat.reduceEqDiff, Nat.reduceAdd, Nat.reduceLeDiff, Nat.reduceLT, Nat.reduceSub, Int.reduceToNat, ↓reduceIte, reduceCtorEq, hp, exl29, encPs_iff, strs_iff, Bool.not_true, Bool.not_false]; first | exact rfl | ((repeat (refine And.intro ?_ ?_; focus (first | omega | assumption | with_reducible rfl))); intros; apply hk; clear hk K))) | apply qw8 | apply qw1 | refine qwc lvX29_12 ?_ | apply qt1 | apply qw5 | apply qw2 | apply qw9 | apply qt2 | apply qt3 | apply qt4 | apply qt5 | apply qt6 | apply qw3 | apply qw4 | apply qj1 | apply qj2 | apply qj3 | apply qj4 | apply qj5 | apply qu1 | apply qu2 | (refine qj6 ?_ ?_ <;> intro hc <;> (try simp only [hc]) <;> (try simp only [decide_eq_true_eq, decide_eq_false_iff_not, Bool.not_eq_true', Bool.not_eq_false', Bool.not_eq_true, reduceCtorEq] at hc) <;> (try (exfalso; omega))) | (refine qt7 ?_ ?_; focus decide) | (refine qw7 ?_ ?_ ?_; (focus (decide +kernel)); (focus (decide +kernel))))
    all_goals first
      | (((first | refine fin_ret ?_ | refine fin_end ?_); simp only [go_sem, ↓upd_def, Nat.reduceEqDiff, Nat.reduceAdd, ↓reduceIte, reduceCtorEq])
         exact hK)
      | (exfalso; omega)
      | skip
end Go.Proofs.YtoocbpendccngaaGreat
