/- The laws' walks: TemplateSafe, TemplateFault, CheckParts. -/
import Derived.Test.YtcagfbgplpokkaaZS7
import Derived.Test.YtcagfbgplpokkaaZS4
import Derived.Test.YtcagfbgplpokkaaZX9
import Derived.Test.YtcagfbgplpokkaaZX2
import Derived.Test.YtcagfbgplpokkaaZY2

namespace Go.Proofs.Ytcagfbgplpokkaa
attribute [local irreducible] awp arun acalm FinP Fin AX.then AX.inBlock Again aG gsel amix amixN amixC aop aopc aopd cutK
attribute [local go_sem] aop aopc aopd aBSliceD aSlice aSliceC boundOf aMk evT upd_def aCall aCallC aLenL aLen aPick_t aPick_f aNil aAlloc aBox aBuild bldPV aBSlice bsPV aApp newsOf destOf drp aConvX aConv aConvInt aLoad cellsAt aStore cellsPV setAt aFld aField aIdx aIndex aUn aBin' aBin aMax aExtract pvOf PV.isCell nmbL PV.nmb List.map_cons List.map_nil List.all_cons List.all_nil Bool.and_true Bool.true_and if_true if_false List.getD_cons_zero List.getD_cons_succ List.getD_nil Option.isSome_some true_and and_true and_self eq_self true_or or_true List.drop_zero List.drop_succ_cons List.drop_nil List.take_zero List.take_succ_cons List.take_nil List.length_cons List.length_nil List.length_map Option.getD_some Option.getD_none List.nil_append List.cons_append List.append_nil Option.some.injEq exists_eq_left' List.getElem?_cons_zero List.getElem?_cons_succ Int.toNat_natCast Int.natCast_inj toNat_succ Nat.zero_add res res1 resC owns owns1 ownsC List.flatMap_cons List.flatMap_nil List.flatten_cons List.flatten_nil List.mem_cons List.not_mem_nil or_false false_or forall_eq forall_eq_or_imp isFro frz frz1 pureC tabA isBld List.cons.injEq PV.seq.injEq PV.int.injEq PV.str.injEq PV.bool.injEq PV.agg.injEq inR tab Γof aRes packR Option.map_some Option.map_none rel Prod.exists exists_and_left exists_eq_left and_assoc beq_self_eq_true Bool.not_true Bool.not_false decide_true decide_false List.set_cons_zero List.set_cons_succ rst_nil rst_cons
set_option maxRecDepth 100000
set_option linter.unusedVariables false
set_option linter.unusedSimpArgs false
open Go.RowKit
def lvY3_55 : Nat → List Nat
  | 0 => [1, 2]
  | 1 => [1, 2]
  | 2 => [1, 2, 11]
  | 3 => [4]
  | 4 => [1]
  | 5 => [1, 18]
  | 6 => [4]
  | 7 => [4]
  | _ => []
def lvY3_57 : Nat → List Nat
  | 0 => [1, 2]
  | 1 => [1, 2, 3]
  | 2 => [1, 2, 3]
  | 3 => [1, 2, 3]
  | 4 => [1, 2, 3]
  | 5 => [2, 3]
  | 6 => [2]
  | _ => []
--LV=Y3
@[go_sem] def szSt : PC := rel (α := St × Int) (fun x => [.agg (encS x.1), .int .i64 x.2]) (fun x => okS x.1 ∧ 0 ≤ x.2 ∧ x.2 ≤ 1048576) (fun x => .int .i64 (leftI x.2 (x.1.tag.length + x.1.attr.length)))
theorem szSt_ok : PureOk Try.prog 55 szSt := by
  refine pure_rel 2 tab_nil mixed [.tmp 4] Try.func55 rfl rfl (by kernel_rfl) (by kernel_rfl) (fun _ => rfl) (by kernel_rfl) ?_
  rintro ⟨s, n⟩ K ⟨⟨h1, h2⟩, h3, h4⟩ hK
  dsimp only at *
  unfold entry
  repeat' (first | (refine qwd fun K hk => ?_; simp only [lvY3_55, mkT, go_sem, ↓upd_def, ↓evT, ↓aop, ↓aopc, ↓aopd, Nat.reduceEqDiff, Nat.reduceAdd, Nat.reduceLeDiff, Nat.reduceLT, Nat.reduceSub, Int.reduceToNat, ↓reduceIte, reduceCtorEq, encS_eq, ex_St, St_eta]; apply hk; clear hk K) | refine qw8 ?_ | refine qw1 ?_ | refine qwc lvY3_55 ?_ | refine qt1 ?_ | refine qw5 ?_ | refine qw2 ?_ | refine qw9 ?_ | refine qt2 ?_ | refine qt3 ?_ | refine qt4 ?_ | refine qt5 ?_ | refine qt6 ?_ | refine qw3 ?_ | refine qw4 ?_ | refine qj1 ?_ | refine qj2 ?_ | refine qj3 ?_ | refine qj4 ?_ | refine qj5 ?_ | refine qu1 ?_ | refine qu2 ?_ | refine qne ?_ | refine qyn ?_ | refine qyz ?_ | refine qy0 ?_ | refine qnt rfl rfl ?_ | refine qnf rfl rfl ?_ | refine qyc rfl ?_ | refine qy1 rfl ?_ | refine qy2 rfl ?_ ?_ | ((first | refine qa1 fun K hk => ?_ | refine qa2 fun K hk => ?_ | refine qa3 fun K hk => ?_ | refine qh1 fun K hk => ?_ | refine qh2 fun K hk => ?_ | refine qm1 fun K hk => ?_ | refine qm2 fun K hk => ?_ | refine qm3 fun K hk => ?_); simp only [go_sem, ↓upd_def, ↓evT, ↓aop, ↓aopc, ↓aopd, Nat.reduceEqDiff, Nat.reduceAdd, Nat.reduceLeDiff, Nat.reduceLT, Nat.reduceSub, Int.reduceToNat, ↓reduceIte, reduceCtorEq, encS_eq, ex_St, St_eta]; (repeat (refine And.intro ?_ ?_; focus (first | omega | assumption | with_reducible rfl | (simp only [go_sem, ↓upd_def, ↓evT, ↓aop, ↓aopc, ↓aopd, Nat.reduceEqDiff, Nat.reduceAdd, Nat.reduceLeDiff, Nat.reduceLT, Nat.reduceSub, Int.reduceToNat, ↓reduceIte, reduceCtorEq, encS_eq, ex_St, St_eta]; done)))); intros; apply hk; clear hk K) | ((first | apply qg1 rfl | apply qcd); focus (simp only [go_sem, ↓upd_def, ↓evT, ↓aop, ↓aopc, ↓aopd, Nat.reduceEqDiff, Nat.reduceAdd, Nat.reduceLeDiff, Nat.reduceLT, Nat.reduceSub, Int.reduceToNat, ↓reduceIte, reduceCtorEq, encS_eq, ex_St, St_eta]; exact rfl)) | (refine qj6 ?_ ?_ <;> intro hc <;> (try simp only [hc]) <;> (try simp only [decide_eq_true_eq, decide_eq_false_iff_not, Bool.not_eq_true', Bool.not_eq_false', Bool.not_eq_true, reduceCtorEq] at hc) <;> (try (exfalso; omega))) | (refine qk1 ?_ ?_; focus (repeat (first | exact qsub0 | (refine qsub1 ?_ ?_; focus (simp only [go_sem, ↓upd_def, ↓evT, ↓aop, ↓aopc, ↓aopd, Nat.reduceEqDiff, Nat.reduceAdd, Nat.reduceLeDiff, Nat.reduceLT, Nat.reduceSub, Int.reduceToNat, ↓reduceIte, reduceCtorEq, encS_eq, ex_St, St_eta]))))) | (refine qt7 ?_ ?_; focus decide) | (refine qw7 ?_ ?_ ?_; (focus (decide +kernel)); (focus (decide +kernel))))
  all_goals
    ((first | refine fin_ret ?_ | refine fin_end ?_); simp only [go_sem, ↓upd_def, Nat.reduceEqDiff, Nat.reduceAdd, ↓reduceIte, reduceCtorEq])
    refine K_int hK ?_
    unfold leftI
    split <;> omega
theorem toSt_ok : PureOk Try.prog 57 (stC fun s => .agg (encS s)) := by
  refine pure_rel 1 tab_nil mixed [.cell 2 47] Try.func57 rfl rfl (by kernel_rfl) (by kernel_rfl) (fun _ => rfl) (by kernel_rfl) ?_
  rintro s K hok hK
  unfold entry
  repeat' (first | (refine qwd fun K hk => ?_; simp only [lvY3_57, mkT, go_sem, ↓upd_def, ↓evT, ↓aop, ↓aopc, ↓aopd, Nat.reduceEqDiff, Nat.reduceAdd, Nat.reduceLeDiff, Nat.reduceLT, Nat.reduceSub, Int.reduceToNat, ↓reduceIte, reduceCtorEq, encS_eq, ex_St, St_eta]; apply hk; clear hk K) | refine qw8 ?_ | refine qw1 ?_ | refine qwc lvY3_57 ?_ | refine qt1 ?_ | refine qw5 ?_ | refine qw2 ?_ | refine qw9 ?_ | refine qt2 ?_ | refine qt3 ?_ | refine qt4 ?_ | refine qt5 ?_ | refine qt6 ?_ | refine qw3 ?_ | refine qw4 ?_ | refine qj1 ?_ | refine qj2 ?_ | refine qj3 ?_ | refine qj4 ?_ | refine qj5 ?_ | refine qu1 ?_ | refine qu2 ?_ | refine qne ?_ | refine qyn ?_ | refine qyz ?_ | refine qy0 ?_ | refine qnt rfl rfl ?_ | refine qnf rfl rfl ?_ | refine qyc rfl ?_ | refine qy1 rfl ?_ | refine qy2 rfl ?_ ?_ | ((first | refine qa1 fun K hk => ?_ | refine qa2 fun K hk => ?_ | refine qa3 fun K hk => ?_ | refine qh1 fun K hk => ?_ | refine qh2 fun K hk => ?_ | refine qm1 fun K hk => ?_ | refine qm2 fun K hk => ?_ | refine qm3 fun K hk => ?_); simp only [go_sem, ↓upd_def, ↓evT, ↓aop, ↓aopc, ↓aopd, Nat.reduceEqDiff, Nat.reduceAdd, Nat.reduceLeDiff, Nat.reduceLT, Nat.reduceSub, Int.reduceToNat, ↓reduceIte, reduceCtorEq, encS_eq, ex_St, St_eta]; (repeat (refine And.intro ?_ ?_; focus (first | omega | assumption | with_reducible rfl | (simp only [go_sem, ↓upd_def, ↓evT, ↓aop, ↓aopc, ↓aopd, Nat.reduceEqDiff, Nat.reduceAdd, Nat.reduceLeDiff, Nat.reduceLT, Nat.reduceSub, Int.reduceToNat, ↓reduceIte, reduceCtorEq, encS_eq, ex_St, St_eta]; done)))); intros; apply hk; clear hk K) | ((first | apply qg1 rfl | apply qcd); focus (simp only [go_sem, ↓upd_def, ↓evT, ↓aop, ↓aopc, ↓aopd, Nat.reduceEqDiff, Nat.reduceAdd, Nat.reduceLeDiff, Nat.reduceLT, Nat.reduceSub, Int.reduceToNat, ↓reduceIte, reduceCtorEq, encS_eq, ex_St, St_eta]; exact rfl)) | (refine qj6 ?_ ?_ <;> intro hc <;> (try simp only [hc]) <;> (try simp only [decide_eq_true_eq, decide_eq_false_iff_not, Bool.not_eq_true', Bool.not_eq_false', Bool.not_eq_true, reduceCtorEq] at hc) <;> (try (exfalso; omega))) | (refine qk1 ?_ ?_; focus (repeat (first | exact qsub0 | (refine qsub1 ?_ ?_; focus (simp only [go_sem, ↓upd_def, ↓evT, ↓aop, ↓aopc, ↓aopd, Nat.reduceEqDiff, Nat.reduceAdd, Nat.reduceLeDiff, Nat.reduceLT, Nat.reduceSub, Int.reduceToNat, ↓reduceIte, reduceCtorEq, encS_eq, ex_St, St_eta]))))) | (refine qt7 ?_ ?_; focus decide) | (refine qw7 ?_ ?_ ?_; (focus (decide +kernel)); (focus (decide +kernel))))
  ((first | refine fin_ret ?_ | refine fin_end ?_); simp only [go_sem, ↓upd_def, Nat.reduceEqDiff, Nat.reduceAdd, ↓reduceIte, reduceCtorEq])
  exact ⟨by omega, hK⟩
end Go.Proofs.Ytcagfbgplpokkaa
