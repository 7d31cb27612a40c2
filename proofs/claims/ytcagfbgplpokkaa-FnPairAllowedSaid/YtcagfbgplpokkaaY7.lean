/- PairAllowed; the laws' walk. -/
import Derived.Test.YtcagfbgplpokkaaS11
import Derived.Test.YtcagfbgplpokkaaLP
namespace Go.Proofs.Ytcagfbgplpokkaa
attribute [local irreducible] awp arun acalm FinP Fin AX.then AX.inBlock Again aG gsel amix amixN amixC aop aopc aopd cutK
attribute [local go_sem] aop aopc aopd aBSliceD aSlice aSliceC boundOf aMk evT upd_def aCall aCallC aLenL aLen aPick_t aPick_f aNil aAlloc aBox aBuild bldPV aBSlice bsPV aApp newsOf destOf drp aConvX aConv aConvInt aLoad cellsAt aStore cellsPV setAt aFld aField aIdx aIndex aUn aBin' aBin aMax aExtract pvOf PV.isCell nmbL PV.nmb List.map_cons List.map_nil List.all_cons List.all_nil Bool.and_true Bool.true_and if_true if_false List.getD_cons_zero List.getD_cons_succ List.getD_nil Option.isSome_some true_and and_true and_self eq_self true_or or_true List.drop_zero List.drop_succ_cons List.drop_nil List.take_zero List.take_succ_cons List.take_nil List.length_cons List.length_nil List.length_map Option.getD_some Option.getD_none List.nil_append List.cons_append List.append_nil Option.some.injEq exists_eq_left' List.getElem?_cons_zero List.getElem?_cons_succ Int.toNat_natCast Int.natCast_inj toNat_succ Nat.zero_add res res1 resC owns owns1 ownsC List.flatMap_cons List.flatMap_nil List.flatten_cons List.flatten_nil List.mem_cons List.not_mem_nil or_false false_or forall_eq forall_eq_or_imp isFro frz frz1 pureC tabA isBld List.cons.injEq PV.seq.injEq PV.int.injEq PV.str.injEq PV.bool.injEq PV.agg.injEq inR tab Γof aRes packR Option.map_some Option.map_none rel Prod.exists exists_and_left exists_eq_left and_assoc beq_self_eq_true Bool.not_true Bool.not_false decide_true decide_false List.set_cons_zero List.set_cons_succ rst_nil rst_cons
set_option maxRecDepth 100000
set_option linter.unusedVariables false
set_option linter.unusedSimpArgs false
open Go.RowKit

def lvY7_28 : Nat → List Nat
  | 0 => [1, 2]
  | 1 => [1, 2]
  | 2 => [1, 2, 11]
  | 3 => [4]
  | 4 => [1]
  | 5 => [1, 18]
  | 6 => [4]
  | 7 => [4]
  | _ => []
def lvY7_29 : Nat → List Nat
  | 0 => [0, 3]
  | 1 => [0, 3, 6]
  | 2 => [0, 3, 6, 7]
  | 3 => [4]
  | 4 => [0, 3, 16]
  | 5 => [4]
  | 6 => [4]
  | _ => []
def lvY7_30 : Nat → List Nat
  | 0 => [1, 2]
  | 1 => [1, 2, 3]
  | 2 => [1, 2, 3]
  | 3 => [2, 3]
  | 4 => [2]
  | _ => []
def lvY7_31 : Nat → List Nat
  | 0 => [0, 3]
  | 1 => [0, 3, 5]
  | 2 => [4]
  | 3 => [0, 3, 9]
  | 4 => [3, 9]
  | 5 => [4]
  | 6 => [4]
  | _ => []
--LV=Y7
def titN : Bs := [116, 105, 116, 108, 101]
def pairB (t n v : Bs) : Bool := if n = titN then true else if n = [104, 114, 101, 102] ∧ t = [97] ∨ n = [115, 114, 99] ∧ t = [105, 109, 103] then safeB v else false
@[go_sem] def prC : PC := rel (α := Bs × (Bs × Bs)) (fun x => [.str x.1, .agg [.str x.2.1, .str x.2.2]]) (fun x => x.1.length ≤ 1048576 ∧ x.2.1.length ≤ 1048576 ∧ x.2.2.length ≤ 1048576) (fun x => .bool (pairB x.1 x.2.1 x.2.2))
theorem ex_3 {p : Bs × (Bs × Bs) → Prop} : (∃ x, p x) ↔ ∃ a b c, p (a, (b, c)) := ⟨fun ⟨(a, (b, c)), h⟩ => ⟨a, b, c, h⟩, fun ⟨a, b, c, h⟩ => ⟨_, h⟩⟩
theorem ex_2 {p : Bs × Bs → Prop} : (∃ x, p x) ↔ ∃ a b, p (a, b) := ⟨fun ⟨(a, b), h⟩ => ⟨a, b, h⟩, fun ⟨a, b, h⟩ => ⟨_, h⟩⟩
set_option maxHeartbeats 4000000 in
theorem pr_i : PureOk Try.prog 31 prC := by
  refine pure_rel 2 (tab_cons safe_i tab_nil) mixed [.tmp 4] Try.func31 rfl rfl (by kernel_rfl) (by kernel_rfl) (fun _ => rfl) (by kernel_rfl) ?_
  rintro ⟨t, n, v⟩ K ⟨h1, h2, h3⟩ hK
  dsimp only at *
  unfold pairB at hK
  unfold entry
  repeat' (first | (refine qwd fun K hk => ?_; simp only [lvY7_31, mkT, go_sem, ↓upd_def, ↓evT, ↓aop, ↓aopc, ↓aopd, Nat.reduceEqDiff, Nat.reduceAdd, Nat.reduceLeDiff, Nat.reduceLT, Nat.reduceSub, Int.reduceToNat, ↓reduceIte, reduceCtorEq]; apply hk; clear hk K) | refine qw8 ?_ | refine qw1 ?_ | refine qwc lvY7_31 ?_ | refine qt1 ?_ | refine qw5 ?_ | refine qw2 ?_ | refine qw9 ?_ | refine qt2 ?_ | refine qt3 ?_ | refine qt4 ?_ | refine qt5 ?_ | refine qt6 ?_ | refine qw3 ?_ | refine qw4 ?_ | refine qj1 ?_ | refine qj2 ?_ | refine qj3 ?_ | refine qj4 ?_ | refine qj5 ?_ | refine qu1 ?_ | refine qu2 ?_ | refine qne ?_ | refine qyn ?_ | refine qyz ?_ | refine qy0 ?_ | refine qnt rfl rfl ?_ | refine qnf rfl rfl ?_ | refine qyc rfl ?_ | refine qy1 rfl ?_ | refine qy2 rfl ?_ ?_ | ((first | refine qa1 fun K hk => ?_ | refine qa2 fun K hk => ?_ | refine qa3 fun K hk => ?_ | refine qh1 fun K hk => ?_ | refine qh2 fun K hk => ?_ | refine qm1 fun K hk => ?_ | refine qm2 fun K hk => ?_ | refine qm3 fun K hk => ?_); simp only [go_sem, ↓upd_def, ↓evT, ↓aop, ↓aopc, ↓aopd, Nat.reduceEqDiff, Nat.reduceAdd, Nat.reduceLeDiff, Nat.reduceLT, Nat.reduceSub, Int.reduceToNat, ↓reduceIte, reduceCtorEq]; (repeat (refine And.intro ?_ ?_; focus (first | omega | assumption | with_reducible rfl | (simp only [go_sem, ↓upd_def, ↓evT, ↓aop, ↓aopc, ↓aopd, Nat.reduceEqDiff, Nat.reduceAdd, Nat.reduceLeDiff, Nat.reduceLT, Nat.reduceSub, Int.reduceToNat, ↓reduceIte, reduceCtorEq]; done)))); intros; apply hk; clear hk K) | ((first | apply qg1 rfl | apply qcd); focus (simp only [go_sem, ↓upd_def, ↓evT, ↓aop, ↓aopc, ↓aopd, Nat.reduceEqDiff, Nat.reduceAdd, Nat.reduceLeDiff, Nat.reduceLT, Nat.reduceSub, Int.reduceToNat, ↓reduceIte, reduceCtorEq]; exact rfl)) | (refine qj6 ?_ ?_ <;> intro hc <;> (try simp only [hc]) <;> (try simp only [decide_eq_true_eq, decide_eq_false_iff_not, Bool.not_eq_true', Bool.not_eq_false', Bool.not_eq_true, reduceCtorEq] at hc) <;> (try (exfalso; omega))) | (refine qk1 ?_ ?_; focus (repeat (first | exact qsub0 | (refine qsub1 ?_ ?_; focus (simp only [go_sem, ↓upd_def, ↓evT, ↓aop, ↓aopc, ↓aopd, Nat.reduceEqDiff, Nat.reduceAdd, Nat.reduceLeDiff, Nat.reduceLT, Nat.reduceSub, Int.reduceToNat, ↓reduceIte, reduceCtorEq]))))) | (refine qt7 ?_ ?_; focus decide) | (refine qw7 ?_ ?_ ?_; (focus (decide +kernel)); (focus (decide +kernel))))
  all_goals
    ((first | refine fin_ret ?_ | refine fin_end ?_); simp only [go_sem, ↓upd_def, Nat.reduceEqDiff, Nat.reduceAdd, ↓reduceIte, reduceCtorEq])
    refine K_bool hK ?_
    first | (simp [titN, *]; done) | (exfalso; simp_all; done) | (simp_all [titN]; done)
set_option maxHeartbeats 4000000 in
theorem pr_s : PureOk Try.prog 29 prC := by
  refine pure_rel 2 (tab_cons safe_s tab_nil) mixed [.tmp 4] Try.func29 rfl rfl (by kernel_rfl) (by kernel_rfl) (fun _ => rfl) (by kernel_rfl) ?_
  rintro ⟨t, n, v⟩ K ⟨h1, h2, h3⟩ hK
  dsimp only at *
  unfold pairB at hK
  unfold entry
  repeat' (first | (refine qwd fun K hk => ?_; simp only [lvY7_29, mkT, go_sem, ↓upd_def, ↓evT, ↓aop, ↓aopc, ↓aopd, Nat.reduceEqDiff, Nat.reduceAdd, Nat.reduceLeDiff, Nat.reduceLT, Nat.reduceSub, Int.reduceToNat, ↓reduceIte, reduceCtorEq]; apply hk; clear hk K) | refine qw8 ?_ | refine qw1 ?_ | refine qwc lvY7_29 ?_ | refine qt1 ?_ | refine qw5 ?_ | refine qw2 ?_ | refine qw9 ?_ | refine qt2 ?_ | refine qt3 ?_ | refine qt4 ?_ | refine qt5 ?_ | refine qt6 ?_ | refine qw3 ?_ | refine qw4 ?_ | refine qj1 ?_ | refine qj2 ?_ | refine qj3 ?_ | refine qj4 ?_ | refine qj5 ?_ | refine qu1 ?_ | refine qu2 ?_ | refine qne ?_ | refine qyn ?_ | refine qyz ?_ | refine qy0 ?_ | refine qnt rfl rfl ?_ | refine qnf rfl rfl ?_ | refine qyc rfl ?_ | refine qy1 rfl ?_ | refine qy2 rfl ?_ ?_ | ((first | refine qa1 fun K hk => ?_ | refine qa2 fun K hk => ?_ | refine qa3 fun K hk => ?_ | refine qh1 fun K hk => ?_ | refine qh2 fun K hk => ?_ | refine qm1 fun K hk => ?_ | refine qm2 fun K hk => ?_ | refine qm3 fun K hk => ?_); simp only [go_sem, ↓upd_def, ↓evT, ↓aop, ↓aopc, ↓aopd, Nat.reduceEqDiff, Nat.reduceAdd, Nat.reduceLeDiff, Nat.reduceLT, Nat.reduceSub, Int.reduceToNat, ↓reduceIte, reduceCtorEq]; (repeat (refine And.intro ?_ ?_; focus (first | omega | assumption | with_reducible rfl | (simp only [go_sem, ↓upd_def, ↓evT, ↓aop, ↓aopc, ↓aopd, Nat.reduceEqDiff, Nat.reduceAdd, Nat.reduceLeDiff, Nat.reduceLT, Nat.reduceSub, Int.reduceToNat, ↓reduceIte, reduceCtorEq]; done)))); intros; apply hk; clear hk K) | ((first | apply qg1 rfl | apply qcd); focus (simp only [go_sem, ↓upd_def, ↓evT, ↓aop, ↓aopc, ↓aopd, Nat.reduceEqDiff, Nat.reduceAdd, Nat.reduceLeDiff, Nat.reduceLT, Nat.reduceSub, Int.reduceToNat, ↓reduceIte, reduceCtorEq]; exact rfl)) | (refine qj6 ?_ ?_ <;> intro hc <;> (try simp only [hc]) <;> (try simp only [decide_eq_true_eq, decide_eq_false_iff_not, Bool.not_eq_true', Bool.not_eq_false', Bool.not_eq_true, reduceCtorEq] at hc) <;> (try (exfalso; omega))) | (refine qk1 ?_ ?_; focus (repeat (first | exact qsub0 | (refine qsub1 ?_ ?_; focus (simp only [go_sem, ↓upd_def, ↓evT, ↓aop, ↓aopc, ↓aopd, Nat.reduceEqDiff, Nat.reduceAdd, Nat.reduceLeDiff, Nat.reduceLT, Nat.reduceSub, Int.reduceToNat, ↓reduceIte, reduceCtorEq]))))) | (refine qt7 ?_ ?_; focus decide) | (refine qw7 ?_ ?_ ?_; (focus (decide +kernel)); (focus (decide +kernel))))
  all_goals
    ((first | refine fin_ret ?_ | refine fin_end ?_); simp only [go_sem, ↓upd_def, Nat.reduceEqDiff, Nat.reduceAdd, ↓reduceIte, reduceCtorEq])
    refine K_bool hK ?_
    first | (simp [titN, *]; done) | (exfalso; simp_all; done) | (simp_all [titN]; done)
@[go_sem] def szPr : PC := rel (α := (Bs × Bs) × Int) (fun x => [.agg [.str x.1.1, .str x.1.2], .int .i64 x.2]) (fun x => x.1.1.length ≤ 9223372036854775807 ∧ x.1.2.length ≤ 9223372036854775807 ∧ 0 ≤ x.2 ∧ x.2 ≤ 1048576) (fun x => .int .i64 (leftI x.2 (x.1.1.length + x.1.2.length)))
theorem szPr_ok : PureOk Try.prog 28 szPr := by
  refine pure_rel 2 tab_nil mixed [.tmp 4] Try.func28 rfl rfl (by kernel_rfl) (by kernel_rfl) (fun _ => rfl) (by kernel_rfl) ?_
  rintro ⟨⟨a, b⟩, n⟩ K ⟨h1, h2, h3, h4⟩ hK
  dsimp only at *
  unfold entry
  repeat' (first | (refine qwd fun K hk => ?_; simp only [lvY7_28, mkT, go_sem, ↓upd_def, ↓evT, ↓aop, ↓aopc, ↓aopd, Nat.reduceEqDiff, Nat.reduceAdd, Nat.reduceLeDiff, Nat.reduceLT, Nat.reduceSub, Int.reduceToNat, ↓reduceIte, reduceCtorEq]; apply hk; clear hk K) | refine qw8 ?_ | refine qw1 ?_ | refine qwc lvY7_28 ?_ | refine qt1 ?_ | refine qw5 ?_ | refine qw2 ?_ | refine qw9 ?_ | refine qt2 ?_ | refine qt3 ?_ | refine qt4 ?_ | refine qt5 ?_ | refine qt6 ?_ | refine qw3 ?_ | refine qw4 ?_ | refine qj1 ?_ | refine qj2 ?_ | refine qj3 ?_ | refine qj4 ?_ | refine qj5 ?_ | refine qu1 ?_ | refine qu2 ?_ | refine qne ?_ | refine qyn ?_ | refine qyz ?_ | refine qy0 ?_ | refine qnt rfl rfl ?_ | refine qnf rfl rfl ?_ | refine qyc rfl ?_ | refine qy1 rfl ?_ | refine qy2 rfl ?_ ?_ | ((first | refine qa1 fun K hk => ?_ | refine qa2 fun K hk => ?_ | refine qa3 fun K hk => ?_ | refine qh1 fun K hk => ?_ | refine qh2 fun K hk => ?_ | refine qm1 fun K hk => ?_ | refine qm2 fun K hk => ?_ | refine qm3 fun K hk => ?_); simp only [go_sem, ↓upd_def, ↓evT, ↓aop, ↓aopc, ↓aopd, Nat.reduceEqDiff, Nat.reduceAdd, Nat.reduceLeDiff, Nat.reduceLT, Nat.reduceSub, Int.reduceToNat, ↓reduceIte, reduceCtorEq]; (repeat (refine And.intro ?_ ?_; focus (first | omega | assumption | with_reducible rfl | (simp only [go_sem, ↓upd_def, ↓evT, ↓aop, ↓aopc, ↓aopd, Nat.reduceEqDiff, Nat.reduceAdd, Nat.reduceLeDiff, Nat.reduceLT, Nat.reduceSub, Int.reduceToNat, ↓reduceIte, reduceCtorEq]; done)))); intros; apply hk; clear hk K) | ((first | apply qg1 rfl | apply qcd); focus (simp only [go_sem, ↓upd_def, ↓evT, ↓aop, ↓aopc, ↓aopd, Nat.reduceEqDiff, Nat.reduceAdd, Nat.reduceLeDiff, Nat.reduceLT, Nat.reduceSub, Int.reduceToNat, ↓reduceIte, reduceCtorEq]; exact rfl)) | (refine qj6 ?_ ?_ <;> intro hc <;> (try simp only [hc]) <;> (try simp only [decide_eq_true_eq, decide_eq_false_iff_not, Bool.not_eq_true', Bool.not_eq_false', Bool.not_eq_true, reduceCtorEq] at hc) <;> (try (exfalso; omega))) | (refine qk1 ?_ ?_; focus (repeat (first | exact qsub0 | (refine qsub1 ?_ ?_; focus (simp only [go_sem, ↓upd_def, ↓evT, ↓aop, ↓aopc, ↓aopd, Nat.reduceEqDiff, Nat.reduceAdd, Nat.reduceLeDiff, Nat.reduceLT, Nat.reduceSub, Int.reduceToNat, ↓reduceIte, reduceCtorEq]))))) | (refine qt7 ?_ ?_; focus decide) | (refine qw7 ?_ ?_ ?_; (focus (decide +kernel)); (focus (decide +kernel))))
  all_goals
    ((first | refine fin_ret ?_ | refine fin_end ?_); simp only [go_sem, ↓upd_def, Nat.reduceEqDiff, Nat.reduceAdd, ↓reduceIte, reduceCtorEq])
    refine K_int hK ?_
    unfold leftI
    split <;> omega
@[go_sem] def toPr : PC := rel (α := Bs × Bs) (fun x => [.agg [.str x.1, .str x.2]]) (fun x => x.1.length ≤ 9223372036854775807 ∧ x.2.length ≤ 9223372036854775807) (fun x => .agg [.str x.1, .str x.2])
theorem toPr_ok : PureOk Try.prog 30 toPr := by
  refine pure_rel 1 tab_nil mixed [.cell 2 37] Try.func30 rfl rfl (by kernel_rfl) (by kernel_rfl) (fun _ => rfl) (by kernel_rfl) ?_
  rintro ⟨a, b⟩ K ⟨h1, h2⟩ hK
  dsimp only at *
  unfold entry
  repeat' (first | (refine qwd fun K hk => ?_; simp only [lvY7_30, mkT, go_sem, ↓upd_def, ↓evT, ↓aop, ↓aopc, ↓aopd, Nat.reduceEqDiff, Nat.reduceAdd, Nat.reduceLeDiff, Nat.reduceLT, Nat.reduceSub, Int.reduceToNat, ↓reduceIte, reduceCtorEq]; apply hk; clear hk K) | refine qw8 ?_ | refine qw1 ?_ | refine qwc lvY7_30 ?_ | refine qt1 ?_ | refine qw5 ?_ | refine qw2 ?_ | refine qw9 ?_ | refine qt2 ?_ | refine qt3 ?_ | refine qt4 ?_ | refine qt5 ?_ | refine qt6 ?_ | refine qw3 ?_ | refine qw4 ?_ | refine qj1 ?_ | refine qj2 ?_ | refine qj3 ?_ | refine qj4 ?_ | refine qj5 ?_ | refine qu1 ?_ | refine qu2 ?_ | refine qne ?_ | refine qyn ?_ | refine qyz ?_ | refine qy0 ?_ | refine qnt rfl rfl ?_ | refine qnf rfl rfl ?_ | refine qyc rfl ?_ | refine qy1 rfl ?_ | refine qy2 rfl ?_ ?_ | ((first | refine qa1 fun K hk => ?_ | refine qa2 fun K hk => ?_ | refine qa3 fun K hk => ?_ | refine qh1 fun K hk => ?_ | refine qh2 fun K hk => ?_ | refine qm1 fun K hk => ?_ | refine qm2 fun K hk => ?_ | refine qm3 fun K hk => ?_); simp only [go_sem, ↓upd_def, ↓evT, ↓aop, ↓aopc, ↓aopd, Nat.reduceEqDiff, Nat.reduceAdd, Nat.reduceLeDiff, Nat.reduceLT, Nat.reduceSub, Int.reduceToNat, ↓reduceIte, reduceCtorEq]; (repeat (refine And.intro ?_ ?_; focus (first | omega | assumption | with_reducible rfl | (simp only [go_sem, ↓upd_def, ↓evT, ↓aop, ↓aopc, ↓aopd, Nat.reduceEqDiff, Nat.reduceAdd, Nat.reduceLeDiff, Nat.reduceLT, Nat.reduceSub, Int.reduceToNat, ↓reduceIte, reduceCtorEq]; done)))); intros; apply hk; clear hk K) | ((first | apply qg1 rfl | apply qcd); focus (simp only [go_sem, ↓upd_def, ↓evT, ↓aop, ↓aopc, ↓aopd, Nat.reduceEqDiff, Nat.reduceAdd, Nat.reduceLeDiff, Nat.reduceLT, Nat.reduceSub, Int.reduceToNat, ↓reduceIte, reduceCtorEq]; exact rfl)) | (refine qj6 ?_ ?_ <;> intro hc <;> (try simp only [hc]) <;> (try simp only [decide_eq_true_eq, decide_eq_false_iff_not, Bool.not_eq_true', Bool.not_eq_false', Bool.not_eq_true, reduceCtorEq] at hc) <;> (try (exfalso; omega))) | (refine qk1 ?_ ?_; focus (repeat (first | exact qsub0 | (refine qsub1 ?_ ?_; focus (simp only [go_sem, ↓upd_def, ↓evT, ↓aop, ↓aopc, ↓aopd, Nat.reduceEqDiff, Nat.reduceAdd, Nat.reduceLeDiff, Nat.reduceLT, Nat.reduceSub, Int.reduceToNat, ↓reduceIte, reduceCtorEq]))))) | (refine qt7 ?_ ?_; focus decide) | (refine qw7 ?_ ?_ ?_; (focus (decide +kernel)); (focus (decide +kernel))))
  ((first | refine fin_ret ?_ | refine fin_end ?_); simp only [go_sem, ↓upd_def, Nat.reduceEqDiff, Nat.reduceAdd, ↓reduceIte, reduceCtorEq])
  exact ⟨by omega, hK⟩
theorem FnExactPairAllowed_pure : PureOk Try.prog 4 (rel (α := Bs × (Bs × Bs)) (fun x => [.str x.1, .agg [.str x.2.1, .str x.2.2]]) (fun x => x.1.length ≤ 9223372036854775807 ∧ x.2.1.length ≤ 9223372036854775807 ∧ x.2.2.length ≤ 9223372036854775807) (fun _ => .bool true)) := by
  refine pure_rel 2 (tab_cons pr_i (tab_cons pr_s (tab_cons szPr_ok (tab_cons toPr_ok tab_nil)))) mixed [.tmp 4] Try.func4 rfl rfl (by kernel_rfl) (by kernel_rfl) (fun _ => rfl) (by kernel_rfl) ?_
  rintro ⟨t, n, v⟩ K ⟨h1, h2, h3⟩ hK
  dsimp only at *
  unfold entry
  repeat' (first | refine qw8 ?_ | refine qw1 ?_ | refine qw6 ?_ | refine qt1 ?_ | refine qw5 ?_ | refine qw2 ?_ | refine qw9 ?_ | refine qt2 ?_ | refine qt3 ?_ | refine qt4 ?_ | refine qt5 ?_ | refine qt6 ?_ | refine qw3 ?_ | refine qw4 ?_ | refine qj1 ?_ | refine qj2 ?_ | refine qj3 ?_ | refine qj4 ?_ | refine qj5 ?_ | refine qu1 ?_ | refine qu2 ?_ | refine qne ?_ | refine qyn ?_ | refine qyz ?_ | refine qy0 ?_ | refine qnt rfl rfl ?_ | refine qnf rfl rfl ?_ | refine qyc rfl ?_ | refine qy1 rfl ?_ | refine qy2 rfl ?_ ?_ | ((first | refine qa1 fun K hk => ?_ | refine qa2 fun K hk => ?_ | refine qa3 fun K hk => ?_ | refine qh1 fun K hk => ?_ | refine qh2 fun K hk => ?_ | refine qm1 fun K hk => ?_ | refine qm2 fun K hk => ?_ | refine qm3 fun K hk => ?_); simp only [go_sem, ↓upd_def, ↓evT, ↓aop, ↓aopc, ↓aopd, Nat.reduceEqDiff, Nat.reduceAdd, Nat.reduceLeDiff, Nat.reduceLT, Nat.reduceSub, Int.reduceToNat, ↓reduceIte, reduceCtorEq]; (repeat (refine And.intro ?_ ?_; focus (first | omega | assumption | with_reducible rfl | (simp only [go_sem, ↓upd_def, ↓evT, ↓aop, ↓aopc, ↓aopd, Nat.reduceEqDiff, Nat.reduceAdd, Nat.reduceLeDiff, Nat.reduceLT, Nat.reduceSub, Int.reduceToNat, ↓reduceIte, reduceCtorEq]; done)))); intros; apply hk; clear hk K) | ((first | apply qg1 rfl | apply qcd); focus (simp only [go_sem, ↓upd_def, ↓evT, ↓aop, ↓aopc, ↓aopd, Nat.reduceEqDiff, Nat.reduceAdd, Nat.reduceLeDiff, Nat.reduceLT, Nat.reduceSub, Int.reduceToNat, ↓reduceIte, reduceCtorEq]; exact rfl)) | (refine qj6 ?_ ?_ <;> intro hc <;> (try simp only [hc]) <;> (try simp only [decide_eq_true_eq, decide_eq_false_iff_not, Bool.not_eq_true', Bool.not_eq_false', Bool.not_eq_true, reduceCtorEq] at hc) <;> (try (exfalso; omega))) | (refine qk1 ?_ ?_; focus (repeat (first | exact qsub0 | (refine qsub1 ?_ ?_; focus (simp only [go_sem, ↓upd_def, ↓evT, ↓aop, ↓aopc, ↓aopd, Nat.reduceEqDiff, Nat.reduceAdd, Nat.reduceLeDiff, Nat.reduceLT, Nat.reduceSub, Int.reduceToNat, ↓reduceIte, reduceCtorEq]))))) | (refine qt7 ?_ ?_; focus decide) | (refine qw7 ?_ ?_ ?_; (focus (decide +kernel)); (focus (decide +kernel))))
  · ((first | refine fin_ret ?_ | refine fin_end ?_); simp only [go_sem, ↓upd_def, Nat.reduceEqDiff, Nat.reduceAdd, ↓reduceIte, reduceCtorEq])
    exact hK
  · ((first | refine fin_ret ?_ | refine fin_end ?_); simp only [go_sem, ↓upd_def, Nat.reduceEqDiff, Nat.reduceAdd, ↓reduceIte, reduceCtorEq])
    exact hK
  have h4 := leftI_pos ‹_›
  repeat' (first | refine qw8 ?_ | refine qw1 ?_ | refine qw6 ?_ | refine qt1 ?_ | refine qw5 ?_ | refine qw2 ?_ | refine qw9 ?_ | refine qt2 ?_ | refine qt3 ?_ | refine qt4 ?_ | refine qt5 ?_ | refine qt6 ?_ | refine qw3 ?_ | refine qw4 ?_ | refine qj1 ?_ | refine qj2 ?_ | refine qj3 ?_ | refine qj4 ?_ | refine qj5 ?_ | refine qu1 ?_ | refine qu2 ?_ | refine qne ?_ | refine qyn ?_ | refine qyz ?_ | refine qy0 ?_ | refine qnt rfl rfl ?_ | refine qnf rfl rfl ?_ | refine qyc rfl ?_ | refine qy1 rfl ?_ | refine qy2 rfl ?_ ?_ | ((first | refine qa1 fun K hk => ?_ | refine qa2 fun K hk => ?_ | refine qa3 fun K hk => ?_ | refine qh1 fun K hk => ?_ | refine qh2 fun K hk => ?_ | refine qm1 fun K hk => ?_ | refine qm2 fun K hk => ?_ | refine qm3 fun K hk => ?_); simp only [go_sem, ↓upd_def, ↓evT, ↓aop, ↓aopc, ↓aopd, Nat.reduceEqDiff, Nat.reduceAdd, Nat.reduceLeDiff, Nat.reduceLT, Nat.reduceSub, Int.reduceToNat, ↓reduceIte, reduceCtorEq, bne_self_eq_false]; (repeat (refine And.intro ?_ ?_; focus (first | omega | assumption | with_reducible rfl | (simp only [go_sem, ↓upd_def, ↓evT, ↓aop, ↓aopc, ↓aopd, Nat.reduceEqDiff, Nat.reduceAdd, Nat.reduceLeDiff, Nat.reduceLT, Nat.reduceSub, Int.reduceToNat, ↓reduceIte, reduceCtorEq, bne_self_eq_false]; done)))); intros; apply hk; clear hk K) | ((first | apply qg1 rfl | apply qcd); focus (simp only [go_sem, ↓upd_def, ↓evT, ↓aop, ↓aopc, ↓aopd, Nat.reduceEqDiff, Nat.reduceAdd, Nat.reduceLeDiff, Nat.reduceLT, Nat.reduceSub, Int.reduceToNat, ↓reduceIte, reduceCtorEq, bne_self_eq_false]; exact rfl)) | (refine qj6 ?_ ?_ <;> intro hc <;> (try simp only [hc]) <;> (try simp only [decide_eq_true_eq, decide_eq_false_iff_not, Bool.not_eq_true', Bool.not_eq_false', Bool.not_eq_true, reduceCtorEq] at hc) <;> (try (exfalso; omega))) | (refine qk1 ?_ ?_; focus (repeat (first | exact qsub0 | (refine qsub1 ?_ ?_; focus (simp only [go_sem, ↓upd_def, ↓evT, ↓aop, ↓aopc, ↓aopd, Nat.reduceEqDiff, Nat.reduceAdd, Nat.reduceLeDiff, Nat.reduceLT, Nat.reduceSub, Int.reduceToNat, ↓reduceIte, reduceCtorEq, bne_self_eq_false]))))) | (refine qt7 ?_ ?_; focus decide) | (refine qw7 ?_ ?_ ?_; (focus (decide +kernel)); (focus (decide +kernel))))
  all_goals
    ((first | refine fin_ret ?_ | refine fin_end ?_); simp only [go_sem, ↓upd_def, Nat.reduceEqDiff, Nat.reduceAdd, ↓reduceIte, reduceCtorEq])
    exact hK
end Go.Proofs.Ytcagfbgplpokkaa
