import Derived.Test.YtcagfbgplpokkaaRB
import Derived.Test.YtcagfbgplpokkaaSB
/- The law's walk: FnDeepestPart. -/
namespace Go.Proofs.Ytcagfbgplpokkaa
attribute [local irreducible] awp arun acalm FinP Fin AX.then AX.inBlock Again aG gsel amix amixN amixC aop aopc aopd cutK
attribute [local go_sem] aop aopc aopd aBSliceD aSlice aSliceC boundOf aMk evT upd_def aCall aCallC aLenL aLen aPick_t aPick_f aNil aAlloc aBox aBuild bldPV aBSlice bsPV aApp newsOf destOf drp aConvX aConv aConvInt aLoad cellsAt aStore cellsPV setAt aFld aField aIdx aIndex aUn aBin' aBin aMax aExtract pvOf PV.isCell nmbL PV.nmb List.map_cons List.map_nil List.all_cons List.all_nil Bool.and_true Bool.true_and if_true if_false List.getD_cons_zero List.getD_cons_succ List.getD_nil Option.isSome_some true_and and_true and_self eq_self true_or or_true List.drop_zero List.drop_succ_cons List.drop_nil List.take_zero List.take_succ_cons List.take_nil List.length_cons List.length_nil List.length_map Option.getD_some Option.getD_none List.nil_append List.cons_append List.append_nil Option.some.injEq exists_eq_left' List.getElem?_cons_zero List.getElem?_cons_succ Int.toNat_natCast Int.natCast_inj toNat_succ Nat.zero_add res res1 resC owns owns1 ownsC List.flatMap_cons List.flatMap_nil List.flatten_cons List.flatten_nil List.mem_cons List.not_mem_nil or_false false_or forall_eq forall_eq_or_imp isFro frz frz1 pureC tabA isBld List.cons.injEq PV.seq.injEq PV.int.injEq PV.str.injEq PV.bool.injEq PV.agg.injEq inR tab Γof aRes packR Option.map_some Option.map_none rel Prod.exists exists_and_left exists_eq_left and_assoc beq_self_eq_true Bool.not_true Bool.not_false decide_true decide_false List.set_cons_zero List.set_cons_succ rst_nil rst_cons
set_option maxRecDepth 100000
set_option linter.unusedVariables false
set_option linter.unusedSimpArgs false
open Go.RowKit
--LV=R5
theorem upd_upd {α : Type} (f : Nat → α) (i : Nat) (a b : α) : upd (upd f i a) i b = upd f i b := by
  funext j
  simp only [upd_def]
  split <;> rfl
mutual
theorem gdP_dep : ∀ (d : Nat) (x : PartD), gdP d x = true → depP x ≤ d
  | d, .mk k t n ps os => fun h => by
    have h1 := gdL_dep (d - 1) false ps
    have h2 := gdL_dep (d - 1) false os
    rw [depP_mk]
    by_cases hk : k = 3 ∨ k = 4
    · rw [if_pos hk]
      rw [gdP, if_neg (by omega), if_neg (by omega), if_pos hk] at h
      simp only [Bool.and_eq_true, Bool.not_eq_true', decide_eq_false_iff_not] at h
      have a1 := h1 h.1.2
      have a2 := h2 h.2
      have a3 := h.1.1.2
      omega
    · rw [if_neg hk]; omega
theorem gdL_dep : ∀ (d : Nat) (b : Bool) (xs : List PartD), gdL d b xs = true → depL xs ≤ d
  | d, b, [] => fun _ => by rw [depL]; omega
  | d, b, x :: xs => fun h => by
    have h1 := gdP_dep d x
    have h2 := gdL_dep d (decide (x.kind = 1)) xs
    rw [gdL] at h
    simp only [Bool.and_eq_true] at h
    have a1 := h1 h.1.1
    have a2 := h2 h.2
    rw [depL]
    omega
end
theorem depM_lt {xs : List PartD} (h : depM xs < 0) : depM xs = -1 := by
  unfold depM at *
  split at h
  · omega
  · rename_i e; rw [if_neg e]
theorem depM_le (xs : List PartD) : depM xs ≤ 3 := by
  unfold depM
  split
  · rename_i e
    unfold partsB at e
    simp only [Bool.and_eq_true] at e
    have := gdL_dep 3 false xs e.2
    omega
  · omega
theorem depM_box {xs : List PartD} {n : Bs} (h : ¬ depM xs < 0) : depM [.mk 4 [] n xs []] = -1 ∨ depM [.mk 4 [] n xs []] = depM xs + 1 := by
  unfold depM at *
  by_cases e : partsB xs = true
  · rw [if_pos e] at *
    by_cases e2 : partsB [.mk 4 [] n xs []] = true
    · rw [if_pos e2]
      right
      rw [depL_one, depP_mk, if_pos (by simp), depL_nil]
      omega
    · rw [if_neg e2]; exact .inl rfl
  · rw [if_neg e] at h; omega
theorem enc1_iff {k : Int} {t n : Bs} {ps os ys : List PartD} : [[.int .i64 k, .str t, .str n, .seq (encPs ps), .seq (encPs os)]] = encPs ys ↔ [.mk k t n ps os] = ys := by
  rw [enc1, encPs_iff]
theorem enc1_iff1 {k : Int} {t n : Bs} {ps ys : List PartD} : [[.int .i64 k, .str t, .str n, .seq (encPs ps), .seq []]] = encPs ys ↔ [.mk k t n ps []] = ys := by
  have := enc1_iff (k := k) (t := t) (n := n) (ps := ps) (os := []) (ys := ys)
  rwa [encPs_nil] at this
theorem alive_c : PureOk Try.prog 34 (rel (α := Unit) (fun _ => []) (fun _ => True) (fun _ => .bool true)) := by
  refine pure_rel 0 (tab_cons low_i tab_nil) mixed [.tmp 0] Try.func34 rfl rfl (by kernel_rfl) (by kernel_rfl) (fun _ => rfl) (by kernel_rfl) ?_
  rintro ⟨⟩ K _ hK
  unfold entry
  repeat' (first | refine qw8 ?_ | refine qw1 ?_ | refine qw6 ?_ | refine qt1 ?_ | refine qw5 ?_ | refine qw2 ?_ | refine qw9 ?_ | refine qt2 ?_ | refine qt3 ?_ | refine qt4 ?_ | refine qt5 ?_ | refine qt6 ?_ | refine qw3 ?_ | refine qw4 ?_ | refine qj1 ?_ | refine qj2 ?_ | refine qj3 ?_ | refine qj4 ?_ | refine qj5 ?_ | refine qu1 ?_ | refine qu2 ?_ | refine qne ?_ | refine qyn ?_ | refine qyz ?_ | refine qy0 ?_ | refine qnt rfl rfl ?_ | refine qnf rfl rfl ?_ | refine qyc rfl ?_ | refine qy1 rfl ?_ | refine qy2 rfl ?_ ?_ | ((first | refine qa1 fun K hk => ?_ | refine qa2 fun K hk => ?_ | refine qa3 fun K hk => ?_ | refine qh1 fun K hk => ?_ | refine qh2 fun K hk => ?_ | refine qm1 fun K hk => ?_ | refine qm2 fun K hk => ?_ | refine qm3 fun K hk => ?_); simp only [go_sem, ↓upd_def, ↓evT, ↓aop, ↓aopc, ↓aopd, Nat.reduceEqDiff, Nat.reduceAdd, Nat.reduceLeDiff, Nat.reduceLT, Nat.reduceSub, Int.reduceToNat, ↓reduceIte, reduceCtorEq]; (repeat (refine And.intro ?_ ?_; focus (first | omega | assumption | with_reducible rfl | (simp only [go_sem, ↓upd_def, ↓evT, ↓aop, ↓aopc, ↓aopd, Nat.reduceEqDiff, Nat.reduceAdd, Nat.reduceLeDiff, Nat.reduceLT, Nat.reduceSub, Int.reduceToNat, ↓reduceIte, reduceCtorEq]; done)))); intros; apply hk; clear hk K) | ((first | apply qg1 rfl | apply qcd); focus (simp only [go_sem, ↓upd_def, ↓evT, ↓aop, ↓aopc, ↓aopd, Nat.reduceEqDiff, Nat.reduceAdd, Nat.reduceLeDiff, Nat.reduceLT, Nat.reduceSub, Int.reduceToNat, ↓reduceIte, reduceCtorEq]; exact rfl)) | (refine qj6 ?_ ?_ <;> intro hc <;> (try simp only [hc]) <;> (try simp only [decide_eq_true_eq, decide_eq_false_iff_not, Bool.not_eq_true', Bool.not_eq_false', Bool.not_eq_true, reduceCtorEq] at hc) <;> (try (exfalso; omega))) | (refine qk1 ?_ ?_; focus (repeat (first | exact qsub0 | (refine qsub1 ?_ ?_; focus (simp only [go_sem, ↓upd_def, ↓evT, ↓aop, ↓aopc, ↓aopd, Nat.reduceEqDiff, Nat.reduceAdd, Nat.reduceLeDiff, Nat.reduceLT, Nat.reduceSub, Int.reduceToNat, ↓reduceIte, reduceCtorEq]))))) | (refine qt7 ?_ ?_; focus decide) | (refine qw7 ?_ ?_ ?_; (focus (decide +kernel)); (focus (decide +kernel))))
  ((first | refine fin_ret ?_ | refine fin_end ?_); simp only [go_sem, ↓upd_def, Nat.reduceEqDiff, Nat.reduceAdd, ↓reduceIte, reduceCtorEq])
  have : lowS [65, 98] = [97, 98] := by decide
  rw [this] at *
  exact hK
theorem ex_unit {p : Unit → Prop} : (∃ x, p x) ↔ p () := ⟨fun ⟨_, h⟩ => h, fun h => ⟨_, h⟩⟩
end Go.Proofs.Ytcagfbgplpokkaa

/- The laws' walks over drawn parts: TemplateFault, TemplateSafe. -/
namespace Go.Proofs.Ytcagfbgplpokkaa
attribute [local irreducible] awp arun acalm FinP Fin AX.then AX.inBlock Again aG gsel amix amixN amixC aop aopc aopd cutK
attribute [local go_sem] aop aopc aopd aBSliceD aSlice aSliceC boundOf aMk evT upd_def aCall aCallC aLenL aLen aPick_t aPick_f aNil aAlloc aBox aBuild bldPV aBSlice bsPV aApp newsOf destOf drp aConvX aConv aConvInt aLoad cellsAt aStore cellsPV setAt aFld aField aIdx aIndex aUn aBin' aBin aMax aExtract pvOf PV.isCell nmbL PV.nmb List.map_cons List.map_nil List.all_cons List.all_nil Bool.and_true Bool.true_and if_true if_false List.getD_cons_zero List.getD_cons_succ List.getD_nil Option.isSome_some true_and and_true and_self eq_self true_or or_true List.drop_zero List.drop_succ_cons List.drop_nil List.take_zero List.take_succ_cons List.take_nil List.length_cons List.length_nil List.length_map Option.getD_some Option.getD_none List.nil_append List.cons_append List.append_nil Option.some.injEq exists_eq_left' List.getElem?_cons_zero List.getElem?_cons_succ Int.toNat_natCast Int.natCast_inj toNat_succ Nat.zero_add res res1 resC owns owns1 ownsC List.flatMap_cons List.flatMap_nil List.flatten_cons List.flatten_nil List.mem_cons List.not_mem_nil or_false false_or forall_eq forall_eq_or_imp isFro frz frz1 pureC tabA isBld List.cons.injEq PV.seq.injEq PV.int.injEq PV.str.injEq PV.bool.injEq PV.agg.injEq inR tab Γof aRes packR Option.map_some Option.map_none rel Prod.exists exists_and_left exists_eq_left and_assoc beq_self_eq_true Bool.not_true Bool.not_false decide_true decide_false List.set_cons_zero List.set_cons_succ rst_nil rst_cons
set_option maxRecDepth 100000
set_option linter.unusedVariables false
set_option linter.unusedSimpArgs false
open Go.RowKit
--LV=Y4
def faultS (n : Int) : List UInt8 :=
  if n = 0 then [110, 111, 110, 101] else if n = 1 then [109, 97, 114, 107, 117, 112] else if n = 2 then [112, 108, 97, 99, 101] else
  if n = 3 then [98, 114, 97, 110, 99, 104] else if n = 4 then [108, 111, 111, 112] else if n = 5 then [101, 110, 100] else []
set_option maxHeartbeats 1000000 in
theorem faultText_i (n : Int) (w : World) :
    Calls Try.prog 70 #[.int .i64 n] w fun e w' => e = .returned (.string ⟨(faultS n).toArray⟩) ∧ Below w.heap.size w w' := by
  have hn : n < 0 ∨ 6 ≤ n ∨ n = 0 ∨ n = 1 ∨ n = 2 ∨ n = 3 ∨ n = 4 ∨ n = 5 := by omega
  rcases hn with h | h | rfl | rfl | rfl | rfl | rfl | rfl
  all_goals
    go_enter Try.func70, Try.ntmps70
    go_wp2
    go_ret
    refine ⟨?_, (Below.refl _ _).alloc (Nat.le_refl _) _⟩
  · have e : faultS n = [] := by unfold faultS; repeat rw [if_neg (by omega)]
    rw [e]; rfl
  · have e : faultS n = [] := by unfold faultS; repeat rw [if_neg (by omega)]
    rw [e]; rfl
  all_goals simp [faultS]
@[go_sem] def ftC : PC := rel (α := Int) (fun x => [.int .i64 x]) (fun x => -1 ≤ x ∧ x ≤ 5) (fun x => .str (faultS x))
theorem ft_i : PureOk Try.prog 70 ftC := by
  refine rel_of_calls ⟨_, Try.func70, by kernel_rfl, by kernel_rfl⟩ ?_
  rintro c n vs hc hl hr
  simp only [RepL.cons_iff, RepL.nil_iff] at hr
  obtain ⟨v, _, rfl, hv, rfl⟩ := hr
  unfold Rep at hv
  subst hv
  refine (faultText_i n c.w).mono ?_
  rintro e w' ⟨rfl, hb⟩
  refine ⟨_, rfl, ?_, hb⟩
  unfold Rep
  rfl
@[go_sem] def drwY (w : Nat) : AC := fun args mem n K => match args with
  | [.seq es] => (∃ l : Bs, es = l.map bc ∧ l.length ≤ 1048576) ∧ ∀ (xs : List PartD) (l' : Bs) (p : Int), wtL xs ≤ w → xs.length ≤ w → K (.own (n + 1)) (upd (upd mem n (some (.box [.seq (l'.map bc), .int .i64 p]))) (n + 1) (some (.row 80 5 (encPs xs)))) (n + 2)
  | _ => False
theorem drwFault : ACok Try.prog 69 (drwY 5000) := by
  refine ac_body 1 (tabA_cons open_ok (tabA_cons tpl_ok (tabA_nil (Γof_ok tab_nil)))) tab_nil mixed [.tmp 2] Try.func69 rfl rfl (by kernel_rfl) (by kernel_rfl) ?_ (by kernel_rfl) ?_
  · intro args mem n K h
    unfold drwY at h
    split at h
    · rfl
    · exact h.elim
  intro args mem n K h
  unfold drwY at h
  split at h
  · rename_i es
    obtain ⟨⟨l, rfl, hl⟩, hK⟩ := h
    have hba := bc_all l
    unfold entry
    repeat' (first | refine qw8 ?_ | refine qw1 ?_ | refine qw6 ?_ | refine qt1 ?_ | refine qw5 ?_ | refine qw2 ?_ | refine qw9 ?_ | refine qt2 ?_ | refine qt3 ?_ | refine qt4 ?_ | refine qt5 ?_ | refine qt6 ?_ | refine qw3 ?_ | refine qw4 ?_ | refine qj1 ?_ | refine qj2 ?_ | refine qj3 ?_ | refine qj4 ?_ | refine qj5 ?_ | refine qu1 ?_ | refine qu2 ?_ | refine qne ?_ | refine qyn ?_ | refine qyz ?_ | refine qy0 ?_ | refine qnt rfl rfl ?_ | refine qnf rfl rfl ?_ | refine qyc rfl ?_ | refine qy1 rfl ?_ | refine qy2 rfl ?_ ?_ | ((first | refine qa1 fun K hk => ?_ | refine qa2 fun K hk => ?_ | refine qa3 fun K hk => ?_ | refine qh1 fun K hk => ?_ | refine qh2 fun K hk => ?_ | refine qm1 fun K hk => ?_ | refine qm2 fun K hk => ?_ | refine qm3 fun K hk => ?_); simp only [go_sem, ↓upd_def, ↓evT, ↓aop, ↓aopc, ↓aopd, Nat.reduceEqDiff, Nat.reduceAdd, Nat.reduceLeDiff, Nat.reduceLT, Nat.reduceSub, Int.reduceToNat, ↓reduceIte, reduceCtorEq, exl]; (repeat (refine And.intro ?_ ?_; focus (first | omega | assumption | with_reducible rfl | (simp only [go_sem, ↓upd_def, ↓evT, ↓aop, ↓aopc, ↓aopd, Nat.reduceEqDiff, Nat.reduceAdd, Nat.reduceLeDiff, Nat.reduceLT, Nat.reduceSub, Int.reduceToNat, ↓reduceIte, reduceCtorEq, exl]; done)))); intros; apply hk; clear hk K) | ((first | apply qg1 rfl | apply qcd); focus (simp only [go_sem, ↓upd_def, ↓evT, ↓aop, ↓aopc, ↓aopd, Nat.reduceEqDiff, Nat.reduceAdd, Nat.reduceLeDiff, Nat.reduceLT, Nat.reduceSub, Int.reduceToNat, ↓reduceIte, reduceCtorEq, exl]; exact rfl)) | (refine qj6 ?_ ?_ <;> intro hc <;> (try simp only [hc]) <;> (try simp only [decide_eq_true_eq, decide_eq_false_iff_not, Bool.not_eq_true', Bool.not_eq_false', Bool.not_eq_true, reduceCtorEq] at hc) <;> (try (exfalso; omega))) | (refine qk1 ?_ ?_; focus (repeat (first | exact qsub0 | (refine qsub1 ?_ ?_; focus (simp only [go_sem, ↓upd_def, ↓evT, ↓aop, ↓aopc, ↓aopd, Nat.reduceEqDiff, Nat.reduceAdd, Nat.reduceLeDiff, Nat.reduceLT, Nat.reduceSub, Int.reduceToNat, ↓reduceIte, reduceCtorEq, exl]))))) | (refine qt7 ?_ ?_; focus decide) | (refine qw7 ?_ ?_ ?_; (focus (decide +kernel)); (focus (decide +kernel))))
    refine fin_retA ?_
    simp only [go_sem, ↓upd_def, Nat.reduceEqDiff, ↓reduceIte, upd_upd]
    exact hK _ _ _ (by assumption) (by assumption)
  · exact h.elim
theorem drwSafe : ACok Try.prog 66 (drwY 5000) := by
  refine ac_body 1 (tabA_cons open_ok (tabA_cons tpl_ok (tabA_nil (Γof_ok tab_nil)))) tab_nil mixed [.tmp 2] Try.func66 rfl rfl (by kernel_rfl) (by kernel_rfl) ?_ (by kernel_rfl) ?_
  · intro args mem n K h
    unfold drwY at h
    split at h
    · rfl
    · exact h.elim
  intro args mem n K h
  unfold drwY at h
  split at h
  · rename_i es
    obtain ⟨⟨l, rfl, hl⟩, hK⟩ := h
    have hba := bc_all l
    unfold entry
    repeat' (first | refine qw8 ?_ | refine qw1 ?_ | refine qw6 ?_ | refine qt1 ?_ | refine qw5 ?_ | refine qw2 ?_ | refine qw9 ?_ | refine qt2 ?_ | refine qt3 ?_ | refine qt4 ?_ | refine qt5 ?_ | refine qt6 ?_ | refine qw3 ?_ | refine qw4 ?_ | refine qj1 ?_ | refine qj2 ?_ | refine qj3 ?_ | refine qj4 ?_ | refine qj5 ?_ | refine qu1 ?_ | refine qu2 ?_ | refine qne ?_ | refine qyn ?_ | refine qyz ?_ | refine qy0 ?_ | refine qnt rfl rfl ?_ | refine qnf rfl rfl ?_ | refine qyc rfl ?_ | refine qy1 rfl ?_ | refine qy2 rfl ?_ ?_ | ((first | refine qa1 fun K hk => ?_ | refine qa2 fun K hk => ?_ | refine qa3 fun K hk => ?_ | refine qh1 fun K hk => ?_ | refine qh2 fun K hk => ?_ | refine qm1 fun K hk => ?_ | refine qm2 fun K hk => ?_ | refine qm3 fun K hk => ?_); simp only [go_sem, ↓upd_def, ↓evT, ↓aop, ↓aopc, ↓aopd, Nat.reduceEqDiff, Nat.reduceAdd, Nat.reduceLeDiff, Nat.reduceLT, Nat.reduceSub, Int.reduceToNat, ↓reduceIte, reduceCtorEq, exl]; (repeat (refine And.intro ?_ ?_; focus (first | omega | assumption | with_reducible rfl | (simp only [go_sem, ↓upd_def, ↓evT, ↓aop, ↓aopc, ↓aopd, Nat.reduceEqDiff, Nat.reduceAdd, Nat.reduceLeDiff, Nat.reduceLT, Nat.reduceSub, Int.reduceToNat, ↓reduceIte, reduceCtorEq, exl]; done)))); intros; apply hk; clear hk K) | ((first | apply qg1 rfl | apply qcd); focus (simp only [go_sem, ↓upd_def, ↓evT, ↓aop, ↓aopc, ↓aopd, Nat.reduceEqDiff, Nat.reduceAdd, Nat.reduceLeDiff, Nat.reduceLT, Nat.reduceSub, Int.reduceToNat, ↓reduceIte, reduceCtorEq, exl]; exact rfl)) | (refine qj6 ?_ ?_ <;> intro hc <;> (try simp only [hc]) <;> (try simp only [decide_eq_true_eq, decide_eq_false_iff_not, Bool.not_eq_true', Bool.not_eq_false', Bool.not_eq_true, reduceCtorEq] at hc) <;> (try (exfalso; omega))) | (refine qk1 ?_ ?_; focus (repeat (first | exact qsub0 | (refine qsub1 ?_ ?_; focus (simp only [go_sem, ↓upd_def, ↓evT, ↓aop, ↓aopc, ↓aopd, Nat.reduceEqDiff, Nat.reduceAdd, Nat.reduceLeDiff, Nat.reduceLT, Nat.reduceSub, Int.reduceToNat, ↓reduceIte, reduceCtorEq, exl]))))) | (refine qt7 ?_ ?_; focus decide) | (refine qw7 ?_ ?_ ?_; (focus (decide +kernel)); (focus (decide +kernel))))
    refine fin_retA ?_
    simp only [go_sem, ↓upd_def, Nat.reduceEqDiff, ↓reduceIte, upd_upd]
    exact hK _ _ _ (by assumption) (by assumption)
  · exact h.elim
mutual
theorem fltP_bd : ∀ (x : PartD) (s : St), 0 ≤ (fltP s x).2 ∧ (fltP s x).2 ≤ 4
  | .mk k t n ps os, s => by
    have h1 := fltL_bd ps s
    have h2 := fltL_bd os s
    rw [fltP_mk]
    split
    · dsimp only; split <;> omega
    split
    · dsimp only; split <;> omega
    split
    · exact h1
    split
    · split <;> dsimp only <;> omega
    split
    · exact h2
    split <;> dsimp only <;> omega
theorem fltL_bd : ∀ (xs : List PartD) (s : St), 0 ≤ (fltL s xs).2 ∧ (fltL s xs).2 ≤ 4
  | [], s => by rw [fltL_nil]; dsimp only; omega
  | x :: xs, s => by
    rw [fltL_cons]
    split
    · exact fltP_bd x s
    · exact fltL_bd xs _
end
theorem faultM_bd (xs : List PartD) : -1 ≤ faultM xs ∧ faultM xs ≤ 5 := by
  have := fltL_bd xs st0
  unfold faultM
  split
  · split <;> omega
  · omega
theorem faultM_neg {xs : List PartD} (h : faultM xs < 0) : faultM xs = -1 ∧ partsB xs = false := by
  have := fltL_bd xs st0
  unfold faultM at h ⊢
  cases hp : partsB xs
  · simp
  · rw [hp] at h
    exfalso
    simp only [if_true] at h
    split at h <;> omega
theorem faultM_pos {xs : List PartD} (h : ¬ faultM xs < 0) : faultS (faultM xs) ≠ [] ∧ ((faultM xs = 0) ↔ safeM xs = true) := by
  have hb := faultM_bd xs
  constructor
  · have : faultM xs = 0 ∨ faultM xs = 1 ∨ faultM xs = 2 ∨ faultM xs = 3 ∨ faultM xs = 4 ∨ faultM xs = 5 := by omega
    rcases this with e | e | e | e | e | e <;> rw [e] <;> decide
  · refine fault_safe ?_
    cases hp : partsB xs
    · exfalso
      apply h
      unfold faultM
      rw [hp]
      simp
    · rfl
set_option maxHeartbeats 8000000 in
theorem FnTemplateFault_pure : PureOk Try.prog 18 (rel (α := Bs) (fun x => [.seq (x.map bc)]) (fun x => x.length ≤ 9223372036854775807) (fun _ => .bool true)) := by
  refine pure_relA 1 (tabA_cons drwFault (tabA_nil (Γof_ok (tab_cons tf_i (tab_cons tf_s (tab_cons ts_i (tab_cons pv_i (tab_cons ft_i (tab_cons alive_c tab_nil))))))))) (tab_cons tf_i (tab_cons tf_s (tab_cons ts_i (tab_cons pv_i (tab_cons ft_i (tab_cons alive_c tab_nil)))))) mixed [.tmp 2] Try.func18 rfl rfl (by kernel_rfl) (by kernel_rfl) (fun _ => rfl) (by kernel_rfl) ?_
  rintro l K hl hK
  have hba := bc_all l
  unfold entry
  repeat' (first | refine qw8 ?_ | refine qw1 ?_ | refine qw6 ?_ | refine qt1 ?_ | refine qw5 ?_ | refine qw2 ?_ | refine qw9 ?_ | refine qt2 ?_ | refine qt3 ?_ | refine qt4 ?_ | refine qt5 ?_ | refine qt6 ?_ | refine qw3 ?_ | refine qw4 ?_ | refine qj1 ?_ | refine qj2 ?_ | refine qj3 ?_ | refine qj4 ?_ | refine qj5 ?_ | refine qu1 ?_ | refine qu2 ?_ | refine qne ?_ | refine qyn ?_ | refine qyz ?_ | refine qy0 ?_ | refine qnt rfl rfl ?_ | refine qnf rfl rfl ?_ | refine qyc rfl ?_ | refine qy1 rfl ?_ | refine qy2 rfl ?_ ?_ | ((first | refine qa1 fun K hk => ?_ | refine qa2 fun K hk => ?_ | refine qa3 fun K hk => ?_ | refine qh1 fun K hk => ?_ | refine qh2 fun K hk => ?_ | refine qm1 fun K hk => ?_ | refine qm2 fun K hk => ?_ | refine qm3 fun K hk => ?_); simp only [go_sem, ↓upd_def, ↓evT, ↓aop, ↓aopc, ↓aopd, Nat.reduceEqDiff, Nat.reduceAdd, Nat.reduceLeDiff, Nat.reduceLT, Nat.reduceSub, Int.reduceToNat, ↓reduceIte, reduceCtorEq, exl, ex_unit, true_and]; (repeat (refine And.intro ?_ ?_; focus (first | omega | assumption | with_reducible rfl | (simp only [go_sem, ↓upd_def, ↓evT, ↓aop, ↓aopc, ↓aopd, Nat.reduceEqDiff, Nat.reduceAdd, Nat.reduceLeDiff, Nat.reduceLT, Nat.reduceSub, Int.reduceToNat, ↓reduceIte, reduceCtorEq, exl, ex_unit, true_and]; done)))); intros; apply hk; clear hk K) | ((first | apply qg1 rfl | apply qcd); focus (simp only [go_sem, ↓upd_def, ↓evT, ↓aop, ↓aopc, ↓aopd, Nat.reduceEqDiff, Nat.reduceAdd, Nat.reduceLeDiff, Nat.reduceLT, Nat.reduceSub, Int.reduceToNat, ↓reduceIte, reduceCtorEq, exl, ex_unit, true_and]; exact rfl)) | (refine qj6 ?_ ?_ <;> intro hc <;> (try simp only [hc]) <;> (try simp only [decide_eq_true_eq, decide_eq_false_iff_not, Bool.not_eq_true', Bool.not_eq_false', Bool.not_eq_true, reduceCtorEq] at hc) <;> (try (exfalso; omega))) | (refine qk1 ?_ ?_; focus (repeat (first | exact qsub0 | (refine qsub1 ?_ ?_; focus (simp only [go_sem, ↓upd_def, ↓evT, ↓aop, ↓aopc, ↓aopd, Nat.reduceEqDiff, Nat.reduceAdd, Nat.reduceLeDiff, Nat.reduceLT, Nat.reduceSub, Int.reduceToNat, ↓reduceIte, reduceCtorEq, exl, ex_unit, true_and]))))) | (refine qt7 ?_ ?_; focus decide) | (refine qw7 ?_ ?_ ?_; (focus (decide +kernel)); (focus (decide +kernel))))
  all_goals first
    | (((first | refine fin_ret ?_ | refine fin_end ?_); simp only [go_sem, ↓upd_def, Nat.reduceEqDiff, Nat.reduceAdd, ↓reduceIte, reduceCtorEq])
       exact hK)
    | (rename List PartD => xs
       have hb := faultM_bd xs
       repeat' (first | refine qw8 ?_ | refine qw1 ?_ | refine qw6 ?_ | refine qt1 ?_ | refine qw5 ?_ | refine qw2 ?_ | refine qw9 ?_ | refine qt2 ?_ | refine qt3 ?_ | refine qt4 ?_ | refine qt5 ?_ | refine qt6 ?_ | refine qw3 ?_ | refine qw4 ?_ | refine qj1 ?_ | refine qj2 ?_ | refine qj3 ?_ | refine qj4 ?_ | refine qj5 ?_ | refine qu1 ?_ | refine qu2 ?_ | refine qne ?_ | refine qyn ?_ | refine qyz ?_ | refine qy0 ?_ | refine qnt rfl rfl ?_ | refine qnf rfl rfl ?_ | refine qyc rfl ?_ | refine qy1 rfl ?_ | refine qy2 rfl ?_ ?_ | ((first | refine qa1 fun K hk => ?_ | refine qa2 fun K hk => ?_ | refine qa3 fun K hk => ?_ | refine qh1 fun K hk => ?_ | refine qh2 fun K hk => ?_ | refine qm1 fun K hk => ?_ | refine qm2 fun K hk => ?_ | refine qm3 fun K hk => ?_); simp only [go_sem, ↓upd_def, ↓evT, ↓aop, ↓aopc, ↓aopd, Nat.reduceEqDiff, Nat.reduceAdd, Nat.reduceLeDiff, Nat.reduceLT, Nat.reduceSub, Int.reduceToNat, ↓reduceIte, reduceCtorEq, exl, ex_unit, true_and]; (repeat (refine And.intro ?_ ?_; focus (first | omega | assumption | with_reducible rfl | (simp only [go_sem, ↓upd_def, ↓evT, ↓aop, ↓aopc, ↓aopd, Nat.reduceEqDiff, Nat.reduceAdd, Nat.reduceLeDiff, Nat.reduceLT, Nat.reduceSub, Int.reduceToNat, ↓reduceIte, reduceCtorEq, exl, ex_unit, true_and]; done)))); intros; apply hk; clear hk K) | ((first | apply qg1 rfl | apply qcd); focus (simp only [go_sem, ↓upd_def, ↓evT, ↓aop, ↓aopc, ↓aopd, Nat.reduceEqDiff, Nat.reduceAdd, Nat.reduceLeDiff, Nat.reduceLT, Nat.reduceSub, Int.reduceToNat, ↓reduceIte, reduceCtorEq, exl, ex_unit, true_and]; exact rfl)) | (refine qj6 ?_ ?_ <;> intro hc <;> (try simp only [hc]) <;> (try simp only [decide_eq_true_eq, decide_eq_false_iff_not, Bool.not_eq_true', Bool.not_eq_false', Bool.not_eq_true, reduceCtorEq] at hc) <;> (try (exfalso; omega))) | (refine qk1 ?_ ?_; focus (repeat (first | exact qsub0 | (refine qsub1 ?_ ?_; focus (simp only [go_sem, ↓upd_def, ↓evT, ↓aop, ↓aopc, ↓aopd, Nat.reduceEqDiff, Nat.reduceAdd, Nat.reduceLeDiff, Nat.reduceLT, Nat.reduceSub, Int.reduceToNat, ↓reduceIte, reduceCtorEq, exl, ex_unit, true_and]))))) | (refine qt7 ?_ ?_; focus decide) | (refine qw7 ?_ ?_ ?_; (focus (decide +kernel)); (focus (decide +kernel))))
       all_goals
         ((first | refine fin_ret ?_ | refine fin_end ?_); simp only [go_sem, ↓upd_def, Nat.reduceEqDiff, Nat.reduceAdd, ↓reduceIte, reduceCtorEq])
         refine K_bool hK ?_
         clear hK
         have h1 := @faultM_neg xs
         have h2 := @faultM_pos xs
         first
           | (have h3 := h2 (by assumption); cases hs : safeM xs <;> simp_all; done)
           | (have h3 := h1 (by assumption); simp_all; done)
           | (exfalso; omega)
           | skip)
theorem safe_join {xs : List PartD} {n : Bs} (h : safeM xs = true) (hp : partsB (xs ++ [.mk 2 [] n [] []] ++ xs) = true) : safeM (xs ++ [.mk 2 [] n [] []] ++ xs) = true := by
  unfold safeM at h ⊢
  simp only [Bool.and_eq_true, decide_eq_true_eq] at h ⊢
  refine ⟨hp, ?_⟩
  have h0 : st0.mode ≠ 15 := by decide
  have hc : chkP st0 (.mk 2 [] n [] []) = st0 := by rw [chkP_mk]; simp; decide
  have h1 : chkL st0 (xs ++ [.mk 2 [] n [] []]) = st0 := by
    rw [chkL_append _ _ _ h0, h.2, if_neg h0, chkL_cons, hc, if_neg h0, chkL_nil]
  rw [chkL_append _ _ _ h0, h1, if_neg h0, h.2]
theorem safe_fault (xs : List PartD) : safeM xs = decide (faultM xs = 0) := by
  cases hp : partsB xs
  · unfold safeM faultM; rw [hp]; simp
  · rw [Bool.eq_iff_iff, decide_eq_true_eq]; exact (fault_safe hp).symm
theorem encPs_all5 (xs : List PartD) : (∀ e ∈ encPs xs, e.length = 5) = True := eq_true (encPs_all xs)
theorem enc_join {xs ys : List PartD} {k : Int} {t n : Bs} : (encPs xs ++ [[.int .i64 k, .str t, .str n, .seq [], .seq []]]) ++ encPs xs = encPs ys ↔ xs ++ [.mk k t n [] []] ++ xs = ys := by
  rw [enc_snoc0.2 rfl, ← encPs_append, encPs_iff]
theorem enc_join' {xs ys : List PartD} {k : Int} {t n : Bs} : encPs xs ++ ([.int .i64 k, .str t, .str n, .seq [], .seq []] :: encPs xs) = encPs ys ↔ xs ++ [.mk k t n [] []] ++ xs = ys := by
  rw [← enc_join]; simp
set_option maxHeartbeats 8000000 in
theorem FnTemplateSafe_pure : PureOk Try.prog 16 (rel (α := Bs) (fun x => [.seq (x.map bc)]) (fun x => x.length ≤ 9223372036854775807) (fun _ => .bool true)) := by
  refine pure_relA 1 (tabA_cons drwSafe (tabA_nil (Γof_ok (tab_cons tf_i (tab_cons ts_i (tab_cons ts_s (tab_cons pv_i (tab_cons alive_c tab_nil)))))))) (tab_cons tf_i (tab_cons ts_i (tab_cons ts_s (tab_cons pv_i (tab_cons alive_c tab_nil))))) mixed [.tmp 2] Try.func16 rfl rfl (by kernel_rfl) (by kernel_rfl) (fun _ => rfl) (by kernel_rfl) ?_
  rintro l K hl hK
  have hba := bc_all l
  unfold entry
  repeat' (first | refine qw8 ?_ | refine qw1 ?_ | refine qw6 ?_ | refine qt1 ?_ | refine qw5 ?_ | refine qw2 ?_ | refine qw9 ?_ | refine qt2 ?_ | refine qt3 ?_ | refine qt4 ?_ | refine qt5 ?_ | refine qt6 ?_ | refine qw3 ?_ | refine qw4 ?_ | refine qj1 ?_ | refine qj2 ?_ | refine qj3 ?_ | refine qj4 ?_ | refine qj5 ?_ | refine qu1 ?_ | refine qu2 ?_ | refine qne ?_ | refine qyn ?_ | refine qyz ?_ | refine qy0 ?_ | refine qnt rfl rfl ?_ | refine qnf rfl rfl ?_ | refine qyc rfl ?_ | refine qy1 rfl ?_ | refine qy2 rfl ?_ ?_ | ((first | refine qa1 fun K hk => ?_ | refine qa2 fun K hk => ?_ | refine qa3 fun K hk => ?_ | refine qh1 fun K hk => ?_ | refine qh2 fun K hk => ?_ | refine qm1 fun K hk => ?_ | refine qm2 fun K hk => ?_ | refine qm3 fun K hk => ?_); simp only [go_sem, ↓upd_def, ↓evT, ↓aop, ↓aopc, ↓aopd, Nat.reduceEqDiff, Nat.reduceAdd, Nat.reduceLeDiff, Nat.reduceLT, Nat.reduceSub, Int.reduceToNat, ↓reduceIte, reduceCtorEq, exl, ex_unit, true_and, bne_self_eq_false, encPs_all5, enc_join, enc_join', List.nil_append, List.length_append, List.length_cons, List.length_nil, wtL_append, wtL_one, wtP_mk, wtL_nil]; (repeat (refine And.intro ?_ ?_; focus (first | omega | assumption | with_reducible rfl | (simp only [go_sem, ↓upd_def, ↓evT, ↓aop, ↓aopc, ↓aopd, Nat.reduceEqDiff, Nat.reduceAdd, Nat.reduceLeDiff, Nat.reduceLT, Nat.reduceSub, Int.reduceToNat, ↓reduceIte, reduceCtorEq, exl, ex_unit, true_and, bne_self_eq_false, encPs_all5, enc_join, enc_join', List.nil_append, List.length_append, List.length_cons, List.length_nil, wtL_append, wtL_one, wtP_mk, wtL_nil]; done)))); intros; apply hk; clear hk K) | ((first | apply qg1 rfl | apply qcd); focus (simp only [go_sem, ↓upd_def, ↓evT, ↓aop, ↓aopc, ↓aopd, Nat.reduceEqDiff, Nat.reduceAdd, Nat.reduceLeDiff, Nat.reduceLT, Nat.reduceSub, Int.reduceToNat, ↓reduceIte, reduceCtorEq, exl, ex_unit, true_and, bne_self_eq_false, encPs_all5, enc_join, enc_join', List.nil_append, List.length_append, List.length_cons, List.length_nil, wtL_append, wtL_one, wtP_mk, wtL_nil]; exact rfl)) | (refine qj6 ?_ ?_ <;> intro hc <;> (try simp only [hc]) <;> (try simp only [decide_eq_true_eq, decide_eq_false_iff_not, Bool.not_eq_true', Bool.not_eq_false', Bool.not_eq_true, reduceCtorEq] at hc) <;> (try (exfalso; omega))) | (refine qk1 ?_ ?_; focus (repeat (first | exact qsub0 | (refine qsub1 ?_ ?_; focus (simp only [go_sem, ↓upd_def, ↓evT, ↓aop, ↓aopc, ↓aopd, Nat.reduceEqDiff, Nat.reduceAdd, Nat.reduceLeDiff, Nat.reduceLT, Nat.reduceSub, Int.reduceToNat, ↓reduceIte, reduceCtorEq, exl, ex_unit, true_and, bne_self_eq_false, encPs_all5, enc_join, enc_join', List.nil_append, List.length_append, List.length_cons, List.length_nil, wtL_append, wtL_one, wtP_mk, wtL_nil]))))) | (refine qt7 ?_ ?_; focus decide) | (refine qw7 ?_ ?_ ?_; (focus (decide +kernel)); (focus (decide +kernel))))
  all_goals
    ((first | refine fin_ret ?_ | refine fin_end ?_); simp only [go_sem, ↓upd_def, Nat.reduceEqDiff, Nat.reduceAdd, ↓reduceIte, reduceCtorEq])
    first
      | exact hK
      | (rename List PartD => xs
         have h1 := safe_fault xs
         have h2 := @safe_join xs [97]
         exfalso
         simp_all)
end Go.Proofs.Ytcagfbgplpokkaa
