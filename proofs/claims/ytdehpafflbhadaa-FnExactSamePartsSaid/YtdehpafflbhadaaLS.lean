/- The statement FnExactSameParts: the law's walk. -/
import Derived.Test.YtdehpafflbhadaaLR
import Derived.Test.YtdehpafflbhadaaF13
import Derived.Test.YtdehpafflbhadaaP2
namespace Go.Proofs.Ytdehpafflbhadaa
attribute [local irreducible] awp arun acalm FinP AX.then AX.inBlock Again
attribute [local go_sem] aop aopc aMk evT upd_def aCall aCallC aLenL aLen aPick_t aPick_f aNil aAlloc aBox aBuild bldPV aLoad cellsAt aStore cellsPV setAt aFld aField aIdx aIndex aUn aBin' aBin aMax aExtract pvOf PV.isCell nmbL PV.nmb List.map_cons List.map_nil List.all_cons List.all_nil Bool.and_true Bool.true_and if_true if_false List.getD_cons_zero List.getD_cons_succ List.getD_nil Option.isSome_some true_and and_true and_self List.drop_zero List.drop_succ_cons List.drop_nil List.take_zero List.take_succ_cons List.take_nil List.length_cons List.length_nil Option.getD_some Option.getD_none List.nil_append List.cons_append List.append_nil Option.some.injEq exists_eq_left' List.getElem?_cons_zero List.getElem?_cons_succ Int.toNat_natCast Nat.zero_add res res1 resC owns owns1 ownsC List.flatMap_cons List.flatMap_nil isFro frz frz1 pureC List.cons.injEq PV.seq.injEq PV.int.injEq PV.str.injEq PV.bool.injEq PV.agg.injEq inR tab Γof aRes packR Option.map_some Option.map_none rel Prod.exists exists_and_left exists_eq_left and_assoc beq_self_eq_true Bool.not_true Bool.not_false
set_option maxRecDepth 100000
set_option linter.unusedVariables false
set_option linter.unusedSimpArgs false
open Go.RowKit

def szQ : PC := rel (α := List PartD × Int) (fun x => [.seq (encPs x.1), .int .i64 x.2]) (fun x => okL x.1 ∧ x.1.length ≤ 9223372036854775807 ∧ 0 ≤ x.2 ∧ x.2 ≤ 1048576) (fun x => .int .i64 (leftI x.2 (wtL x.1)))
def toQ : PC := rel (α := List PartD) (fun x => [.seq (encPs x)]) (fun x => okL x ∧ wtL x ≤ 1048576) (fun x => .seq (encPs x))
noncomputable def eqQ : PC := rel (α := List PartD × List PartD) (fun x => [.seq (encPs x.1), .seq (encPs x.2)]) (fun x => okL x.1 ∧ okL x.2 ∧ x.1.length ≤ 9223372036854775807 ∧ x.2.length ≤ 9223372036854775807) (fun x => .bool (eqB x.1 x.2))
theorem sz_c : PureOk Try.prog 15 szQ := rel_all (fun x : List PartD × Int => wtL x.1) fun n => (sz_all n).1
theorem to_c : PureOk Try.prog 17 toQ := rel_all (fun x : List PartD => wtL x) fun n => (to_all n).1
theorem eq_c : PureOk Try.prog 19 eqQ := rel_all (fun x : List PartD × List PartD => wtL x.1) fun n => (eq_all n).1
theorem same_ic : PureOk Try.prog 18 eqQ := rel_all (fun x : List PartD × List PartD => wtL x.1) same_i
theorem same_sc : PureOk Try.prog 16 eqQ := rel_all (fun x : List PartD × List PartD => wtL x.1) same_s
theorem eqB_rfl {α : Type} (a : α) : eqB a a = true := eqB_t.2 rfl

set_option maxHeartbeats 4000000 in
theorem FnExactSameParts_pure : PureOk Try.prog 3 (rel (α := List PartD × List PartD) (fun x => [.seq (encPs x.1), .seq (encPs x.2)]) (fun x => okL x.1 ∧ okL x.2 ∧ x.1.length ≤ 9223372036854775807 ∧ x.2.length ≤ 9223372036854775807) (fun _ => .bool true)) := by
  refine pure_rel 2 (tab_cons sz_c (tab_cons to_c (tab_cons eq_c (tab_cons same_ic (tab_cons same_sc tab_nil))))) mixed [.tmp 4] Try.func3 rfl rfl (by kernel_rfl) (by kernel_rfl) (fun _ => rfl) (by kernel_rfl) ?_
  rintro ⟨xs, ys⟩ K ⟨hok, hok', hl, hl'⟩ hK
  dsimp only at *
  unfold entry
  repeat' (first
    | (refine s_seq ?_)
    | (refine s_block ?_)
    | (refine s_region ?_)
    | (refine a_nil ?_)
    | (refine a_some fun Kn hk => ?_; simp only [go_sem, Nat.reduceEqDiff, Nat.reduceAdd, Nat.reduceLeDiff, Nat.reduceLT, Nat.reduceSub, reduceIte, reduceCtorEq, szQ, toQ, eqQ, eqB_rfl]; (repeat (refine And.intro ?_ ?_; focus (first | omega | assumption | with_reducible rfl | (simp only [go_sem, Nat.reduceEqDiff, Nat.reduceAdd, Nat.reduceLeDiff, Nat.reduceLT, Nat.reduceSub, reduceIte, reduceCtorEq, szQ, toQ, eqQ, eqB_rfl]; done)))); refine hk _ _ _ ?_; clear hk Kn)
    | (refine a_none fun Kn hk => ?_; simp only [go_sem, Nat.reduceEqDiff, Nat.reduceAdd, Nat.reduceLeDiff, Nat.reduceLT, Nat.reduceSub, reduceIte, reduceCtorEq, szQ, toQ, eqQ, eqB_rfl]; (repeat (refine And.intro ?_ ?_; focus (first | omega | assumption | with_reducible rfl | (simp only [go_sem, Nat.reduceEqDiff, Nat.reduceAdd, Nat.reduceLeDiff, Nat.reduceLT, Nat.reduceSub, reduceIte, reduceCtorEq, szQ, toQ, eqQ, eqB_rfl]; done)))); refine hk _ _ _ ?_; clear hk Kn)
    | (refine q_then ?_)
    | (refine q_thenE ?_) | (refine q_thenR ?_) | (refine q_blk ?_) | (refine q_blkE ?_) | (refine q_blkO ?_ ?_; (focus decide)) | (refine q_blkR ?_)
    | (refine s_skip ?_) | (refine s_ret ?_) | (refine s_exit ?_)
    | (refine s_condT ?_ ?_; (focus (simp only [go_sem, Nat.reduceEqDiff, Nat.reduceAdd, Nat.reduceLeDiff, Nat.reduceLT, Nat.reduceSub, reduceIte, reduceCtorEq, szQ, toQ, eqQ, eqB_rfl]; done))) | (refine s_condF ?_ ?_; (focus (simp only [go_sem, Nat.reduceEqDiff, Nat.reduceAdd, Nat.reduceLeDiff, Nat.reduceLT, Nat.reduceSub, reduceIte, reduceCtorEq, szQ, toQ, eqQ, eqB_rfl]; done)))
    | (apply s_cond; (focus (simp only [go_sem, Nat.reduceEqDiff, Nat.reduceAdd, Nat.reduceLeDiff, Nat.reduceLT, Nat.reduceSub, reduceIte, reduceCtorEq, szQ, toQ, eqQ, eqB_rfl]; exact rfl)); all_goals (intro hc; (try simp only [decide_eq_true_eq, decide_eq_false_iff_not, Bool.not_eq_true', Bool.not_eq_false', Bool.not_eq_true, reduceCtorEq] at hc); (try (exfalso; omega))))
    | (refine a_guardT (t := ?_) ?_ ?_ fun Kn hk => ?_; rotate_left; (focus exact rfl); (focus (simp only [go_sem, Nat.reduceEqDiff, Nat.reduceAdd, Nat.reduceLeDiff, Nat.reduceLT, Nat.reduceSub, reduceIte, reduceCtorEq, szQ, toQ, eqQ, eqB_rfl]; done)); simp only [go_sem, Nat.reduceEqDiff, Nat.reduceAdd, Nat.reduceLeDiff, Nat.reduceLT, Nat.reduceSub, reduceIte, reduceCtorEq, szQ, toQ, eqQ, eqB_rfl]; (repeat (refine And.intro ?_ ?_; focus (first | omega | assumption | with_reducible rfl | (simp only [go_sem, Nat.reduceEqDiff, Nat.reduceAdd, Nat.reduceLeDiff, Nat.reduceLT, Nat.reduceSub, reduceIte, reduceCtorEq, szQ, toQ, eqQ, eqB_rfl]; done)))); refine hk _ _ _ ?_; clear hk Kn)
    | (refine a_guardF (t := ?_) (b := ?_) ?_ ?_ ?_ ?_; rotate_left 2; (focus exact rfl); (focus (simp only [go_sem, Nat.reduceEqDiff, Nat.reduceAdd, Nat.reduceLeDiff, Nat.reduceLT, Nat.reduceSub, reduceIte, reduceCtorEq, szQ, toQ, eqQ, eqB_rfl]; exact rfl)); (focus decide))
    | (apply a_guardS; (focus exact rfl); (focus (simp only [go_sem, Nat.reduceEqDiff, Nat.reduceAdd, Nat.reduceLeDiff, Nat.reduceLT, Nat.reduceSub, reduceIte, reduceCtorEq, szQ, toQ, eqQ, eqB_rfl]; exact rfl)); all_goals (intro hc; simp only [hc]; (try simp only [decide_eq_true_eq, decide_eq_false_iff_not, Bool.not_eq_true', Bool.not_eq_false', Bool.not_eq_true, reduceCtorEq] at hc); (try (exfalso; omega))))
    | (refine s_drawA ?_ ?_ ?_; (focus kernel_rfl); (focus kernel_rfl))
    | (refine c_nil ?_)
    | (refine c_guardT (t := ?_) ?_ ?_ fun Kn hk => ?_; rotate_left; (focus exact rfl); (focus (simp only [go_sem, Nat.reduceEqDiff, Nat.reduceAdd, Nat.reduceLeDiff, Nat.reduceLT, Nat.reduceSub, reduceIte, reduceCtorEq, szQ, toQ, eqQ, eqB_rfl]; done)); simp only [go_sem, Nat.reduceEqDiff, Nat.reduceAdd, Nat.reduceLeDiff, Nat.reduceLT, Nat.reduceSub, reduceIte, reduceCtorEq, szQ, toQ, eqQ, eqB_rfl]; (repeat (refine And.intro ?_ ?_; focus (first | omega | assumption | with_reducible rfl | (simp only [go_sem, Nat.reduceEqDiff, Nat.reduceAdd, Nat.reduceLeDiff, Nat.reduceLT, Nat.reduceSub, reduceIte, reduceCtorEq, szQ, toQ, eqQ, eqB_rfl]; done)))); refine hk _ ?_; clear hk Kn)
    | (refine c_guardF (t := ?_) (b := ?_) ?_ ?_ ?_ ?_; rotate_left 2; (focus exact rfl); (focus (simp only [go_sem, Nat.reduceEqDiff, Nat.reduceAdd, Nat.reduceLeDiff, Nat.reduceLT, Nat.reduceSub, reduceIte, reduceCtorEq, szQ, toQ, eqQ, eqB_rfl]; exact rfl)); (focus decide))
    | (apply c_guardS; (focus exact rfl); (focus (simp only [go_sem, Nat.reduceEqDiff, Nat.reduceAdd, Nat.reduceLeDiff, Nat.reduceLT, Nat.reduceSub, reduceIte, reduceCtorEq, szQ, toQ, eqQ, eqB_rfl]; exact rfl)); all_goals (intro hc; simp only [hc]; (try simp only [decide_eq_true_eq, decide_eq_false_iff_not, Bool.not_eq_true', Bool.not_eq_false', Bool.not_eq_true, reduceCtorEq] at hc); (try (exfalso; omega))))
    | (refine c_some fun Kn hk => ?_; simp only [go_sem, Nat.reduceEqDiff, Nat.reduceAdd, Nat.reduceLeDiff, Nat.reduceLT, Nat.reduceSub, reduceIte, reduceCtorEq, szQ, toQ, eqQ, eqB_rfl]; (repeat (refine And.intro ?_ ?_; focus (first | omega | assumption | with_reducible rfl | (simp only [go_sem, Nat.reduceEqDiff, Nat.reduceAdd, Nat.reduceLeDiff, Nat.reduceLT, Nat.reduceSub, reduceIte, reduceCtorEq, szQ, toQ, eqQ, eqB_rfl]; done)))); refine hk _ ?_; clear hk Kn))
  · (refine fin_ret ?_; simp only [go_sem, Nat.reduceEqDiff, Nat.reduceAdd, reduceIte, reduceCtorEq])
    exact hK
  have h1 := leftI_pos ‹_›
  rw [h1.2]
  repeat' (first
    | (refine s_seq ?_)
    | (refine s_block ?_)
    | (refine s_region ?_)
    | (refine a_nil ?_)
    | (refine a_some fun Kn hk => ?_; simp only [go_sem, Nat.reduceEqDiff, Nat.reduceAdd, Nat.reduceLeDiff, Nat.reduceLT, Nat.reduceSub, reduceIte, reduceCtorEq, szQ, toQ, eqQ, eqB_rfl]; (repeat (refine And.intro ?_ ?_; focus (first | omega | assumption | with_reducible rfl | (simp only [go_sem, Nat.reduceEqDiff, Nat.reduceAdd, Nat.reduceLeDiff, Nat.reduceLT, Nat.reduceSub, reduceIte, reduceCtorEq, szQ, toQ, eqQ, eqB_rfl]; done)))); refine hk _ _ _ ?_; clear hk Kn)
    | (refine a_none fun Kn hk => ?_; simp only [go_sem, Nat.reduceEqDiff, Nat.reduceAdd, Nat.reduceLeDiff, Nat.reduceLT, Nat.reduceSub, reduceIte, reduceCtorEq, szQ, toQ, eqQ, eqB_rfl]; (repeat (refine And.intro ?_ ?_; focus (first | omega | assumption | with_reducible rfl | (simp only [go_sem, Nat.reduceEqDiff, Nat.reduceAdd, Nat.reduceLeDiff, Nat.reduceLT, Nat.reduceSub, reduceIte, reduceCtorEq, szQ, toQ, eqQ, eqB_rfl]; done)))); refine hk _ _ _ ?_; clear hk Kn)
    | (refine q_then ?_)
    | (refine q_thenE ?_) | (refine q_thenR ?_) | (refine q_blk ?_) | (refine q_blkE ?_) | (refine q_blkO ?_ ?_; (focus decide)) | (refine q_blkR ?_)
    | (refine s_skip ?_) | (refine s_ret ?_) | (refine s_exit ?_)
    | (refine s_condT ?_ ?_; (focus (simp only [go_sem, Nat.reduceEqDiff, Nat.reduceAdd, Nat.reduceLeDiff, Nat.reduceLT, Nat.reduceSub, reduceIte, reduceCtorEq, szQ, toQ, eqQ, eqB_rfl]; done))) | (refine s_condF ?_ ?_; (focus (simp only [go_sem, Nat.reduceEqDiff, Nat.reduceAdd, Nat.reduceLeDiff, Nat.reduceLT, Nat.reduceSub, reduceIte, reduceCtorEq, szQ, toQ, eqQ, eqB_rfl]; done)))
    | (apply s_cond; (focus (simp only [go_sem, Nat.reduceEqDiff, Nat.reduceAdd, Nat.reduceLeDiff, Nat.reduceLT, Nat.reduceSub, reduceIte, reduceCtorEq, szQ, toQ, eqQ, eqB_rfl]; exact rfl)); all_goals (intro hc; (try simp only [decide_eq_true_eq, decide_eq_false_iff_not, Bool.not_eq_true', Bool.not_eq_false', Bool.not_eq_true, reduceCtorEq] at hc); (try (exfalso; omega))))
    | (refine a_guardT (t := ?_) ?_ ?_ fun Kn hk => ?_; rotate_left; (focus exact rfl); (focus (simp only [go_sem, Nat.reduceEqDiff, Nat.reduceAdd, Nat.reduceLeDiff, Nat.reduceLT, Nat.reduceSub, reduceIte, reduceCtorEq, szQ, toQ, eqQ, eqB_rfl]; done)); simp only [go_sem, Nat.reduceEqDiff, Nat.reduceAdd, Nat.reduceLeDiff, Nat.reduceLT, Nat.reduceSub, reduceIte, reduceCtorEq, szQ, toQ, eqQ, eqB_rfl]; (repeat (refine And.intro ?_ ?_; focus (first | omega | assumption | with_reducible rfl | (simp only [go_sem, Nat.reduceEqDiff, Nat.reduceAdd, Nat.reduceLeDiff, Nat.reduceLT, Nat.reduceSub, reduceIte, reduceCtorEq, szQ, toQ, eqQ, eqB_rfl]; done)))); refine hk _ _ _ ?_; clear hk Kn)
    | (refine a_guardF (t := ?_) (b := ?_) ?_ ?_ ?_ ?_; rotate_left 2; (focus exact rfl); (focus (simp only [go_sem, Nat.reduceEqDiff, Nat.reduceAdd, Nat.reduceLeDiff, Nat.reduceLT, Nat.reduceSub, reduceIte, reduceCtorEq, szQ, toQ, eqQ, eqB_rfl]; exact rfl)); (focus decide))
    | (apply a_guardS; (focus exact rfl); (focus (simp only [go_sem, Nat.reduceEqDiff, Nat.reduceAdd, Nat.reduceLeDiff, Nat.reduceLT, Nat.reduceSub, reduceIte, reduceCtorEq, szQ, toQ, eqQ, eqB_rfl]; exact rfl)); all_goals (intro hc; simp only [hc]; (try simp only [decide_eq_true_eq, decide_eq_false_iff_not, Bool.not_eq_true', Bool.not_eq_false', Bool.not_eq_true, reduceCtorEq] at hc); (try (exfalso; omega))))
    | (refine s_drawA ?_ ?_ ?_; (focus kernel_rfl); (focus kernel_rfl))
    | (refine c_nil ?_)
    | (refine c_guardT (t := ?_) ?_ ?_ fun Kn hk => ?_; rotate_left; (focus exact rfl); (focus (simp only [go_sem, Nat.reduceEqDiff, Nat.reduceAdd, Nat.reduceLeDiff, Nat.reduceLT, Nat.reduceSub, reduceIte, reduceCtorEq, szQ, toQ, eqQ, eqB_rfl]; done)); simp only [go_sem, Nat.reduceEqDiff, Nat.reduceAdd, Nat.reduceLeDiff, Nat.reduceLT, Nat.reduceSub, reduceIte, reduceCtorEq, szQ, toQ, eqQ, eqB_rfl]; (repeat (refine And.intro ?_ ?_; focus (first | omega | assumption | with_reducible rfl | (simp only [go_sem, Nat.reduceEqDiff, Nat.reduceAdd, Nat.reduceLeDiff, Nat.reduceLT, Nat.reduceSub, reduceIte, reduceCtorEq, szQ, toQ, eqQ, eqB_rfl]; done)))); refine hk _ ?_; clear hk Kn)
    | (refine c_guardF (t := ?_) (b := ?_) ?_ ?_ ?_ ?_; rotate_left 2; (focus exact rfl); (focus (simp only [go_sem, Nat.reduceEqDiff, Nat.reduceAdd, Nat.reduceLeDiff, Nat.reduceLT, Nat.reduceSub, reduceIte, reduceCtorEq, szQ, toQ, eqQ, eqB_rfl]; exact rfl)); (focus decide))
    | (apply c_guardS; (focus exact rfl); (focus (simp only [go_sem, Nat.reduceEqDiff, Nat.reduceAdd, Nat.reduceLeDiff, Nat.reduceLT, Nat.reduceSub, reduceIte, reduceCtorEq, szQ, toQ, eqQ, eqB_rfl]; exact rfl)); all_goals (intro hc; simp only [hc]; (try simp only [decide_eq_true_eq, decide_eq_false_iff_not, Bool.not_eq_true', Bool.not_eq_false', Bool.not_eq_true, reduceCtorEq] at hc); (try (exfalso; omega))))
    | (refine c_some fun Kn hk => ?_; simp only [go_sem, Nat.reduceEqDiff, Nat.reduceAdd, Nat.reduceLeDiff, Nat.reduceLT, Nat.reduceSub, reduceIte, reduceCtorEq, szQ, toQ, eqQ, eqB_rfl]; (repeat (refine And.intro ?_ ?_; focus (first | omega | assumption | with_reducible rfl | (simp only [go_sem, Nat.reduceEqDiff, Nat.reduceAdd, Nat.reduceLeDiff, Nat.reduceLT, Nat.reduceSub, reduceIte, reduceCtorEq, szQ, toQ, eqQ, eqB_rfl]; done)))); refine hk _ ?_; clear hk Kn))
  · (refine fin_ret ?_; simp only [go_sem, Nat.reduceEqDiff, Nat.reduceAdd, reduceIte, reduceCtorEq])
    exact hK
  have h2 := leftI_pos ‹_›
  repeat' (first
    | (refine s_seq ?_)
    | (refine s_block ?_)
    | (refine s_region ?_)
    | (refine a_nil ?_)
    | (refine a_some fun Kn hk => ?_; simp only [go_sem, Nat.reduceEqDiff, Nat.reduceAdd, Nat.reduceLeDiff, Nat.reduceLT, Nat.reduceSub, reduceIte, reduceCtorEq, szQ, toQ, eqQ, eqB_rfl]; (repeat (refine And.intro ?_ ?_; focus (first | omega | assumption | with_reducible rfl | (simp only [go_sem, Nat.reduceEqDiff, Nat.reduceAdd, Nat.reduceLeDiff, Nat.reduceLT, Nat.reduceSub, reduceIte, reduceCtorEq, szQ, toQ, eqQ, eqB_rfl]; done)))); refine hk _ _ _ ?_; clear hk Kn)
    | (refine a_none fun Kn hk => ?_; simp only [go_sem, Nat.reduceEqDiff, Nat.reduceAdd, Nat.reduceLeDiff, Nat.reduceLT, Nat.reduceSub, reduceIte, reduceCtorEq, szQ, toQ, eqQ, eqB_rfl]; (repeat (refine And.intro ?_ ?_; focus (first | omega | assumption | with_reducible rfl | (simp only [go_sem, Nat.reduceEqDiff, Nat.reduceAdd, Nat.reduceLeDiff, Nat.reduceLT, Nat.reduceSub, reduceIte, reduceCtorEq, szQ, toQ, eqQ, eqB_rfl]; done)))); refine hk _ _ _ ?_; clear hk Kn)
    | (refine q_then ?_)
    | (refine q_thenE ?_) | (refine q_thenR ?_) | (refine q_blk ?_) | (refine q_blkE ?_) | (refine q_blkO ?_ ?_; (focus decide)) | (refine q_blkR ?_)
    | (refine s_skip ?_) | (refine s_ret ?_) | (refine s_exit ?_)
    | (refine s_condT ?_ ?_; (focus (simp only [go_sem, Nat.reduceEqDiff, Nat.reduceAdd, Nat.reduceLeDiff, Nat.reduceLT, Nat.reduceSub, reduceIte, reduceCtorEq, szQ, toQ, eqQ, eqB_rfl]; done))) | (refine s_condF ?_ ?_; (focus (simp only [go_sem, Nat.reduceEqDiff, Nat.reduceAdd, Nat.reduceLeDiff, Nat.reduceLT, Nat.reduceSub, reduceIte, reduceCtorEq, szQ, toQ, eqQ, eqB_rfl]; done)))
    | (apply s_cond; (focus (simp only [go_sem, Nat.reduceEqDiff, Nat.reduceAdd, Nat.reduceLeDiff, Nat.reduceLT, Nat.reduceSub, reduceIte, reduceCtorEq, szQ, toQ, eqQ, eqB_rfl]; exact rfl)); all_goals (intro hc; (try simp only [decide_eq_true_eq, decide_eq_false_iff_not, Bool.not_eq_true', Bool.not_eq_false', Bool.not_eq_true, reduceCtorEq] at hc); (try (exfalso; omega))))
    | (refine a_guardT (t := ?_) ?_ ?_ fun Kn hk => ?_; rotate_left; (focus exact rfl); (focus (simp only [go_sem, Nat.reduceEqDiff, Nat.reduceAdd, Nat.reduceLeDiff, Nat.reduceLT, Nat.reduceSub, reduceIte, reduceCtorEq, szQ, toQ, eqQ, eqB_rfl]; done)); simp only [go_sem, Nat.reduceEqDiff, Nat.reduceAdd, Nat.reduceLeDiff, Nat.reduceLT, Nat.reduceSub, reduceIte, reduceCtorEq, szQ, toQ, eqQ, eqB_rfl]; (repeat (refine And.intro ?_ ?_; focus (first | omega | assumption | with_reducible rfl | (simp only [go_sem, Nat.reduceEqDiff, Nat.reduceAdd, Nat.reduceLeDiff, Nat.reduceLT, Nat.reduceSub, reduceIte, reduceCtorEq, szQ, toQ, eqQ, eqB_rfl]; done)))); refine hk _ _ _ ?_; clear hk Kn)
    | (refine a_guardF (t := ?_) (b := ?_) ?_ ?_ ?_ ?_; rotate_left 2; (focus exact rfl); (focus (simp only [go_sem, Nat.reduceEqDiff, Nat.reduceAdd, Nat.reduceLeDiff, Nat.reduceLT, Nat.reduceSub, reduceIte, reduceCtorEq, szQ, toQ, eqQ, eqB_rfl]; exact rfl)); (focus decide))
    | (apply a_guardS; (focus exact rfl); (focus (simp only [go_sem, Nat.reduceEqDiff, Nat.reduceAdd, Nat.reduceLeDiff, Nat.reduceLT, Nat.reduceSub, reduceIte, reduceCtorEq, szQ, toQ, eqQ, eqB_rfl]; exact rfl)); all_goals (intro hc; simp only [hc]; (try simp only [decide_eq_true_eq, decide_eq_false_iff_not, Bool.not_eq_true', Bool.not_eq_false', Bool.not_eq_true, reduceCtorEq] at hc); (try (exfalso; omega))))
    | (refine s_drawA ?_ ?_ ?_; (focus kernel_rfl); (focus kernel_rfl))
    | (refine c_nil ?_)
    | (refine c_guardT (t := ?_) ?_ ?_ fun Kn hk => ?_; rotate_left; (focus exact rfl); (focus (simp only [go_sem, Nat.reduceEqDiff, Nat.reduceAdd, Nat.reduceLeDiff, Nat.reduceLT, Nat.reduceSub, reduceIte, reduceCtorEq, szQ, toQ, eqQ, eqB_rfl]; done)); simp only [go_sem, Nat.reduceEqDiff, Nat.reduceAdd, Nat.reduceLeDiff, Nat.reduceLT, Nat.reduceSub, reduceIte, reduceCtorEq, szQ, toQ, eqQ, eqB_rfl]; (repeat (refine And.intro ?_ ?_; focus (first | omega | assumption | with_reducible rfl | (simp only [go_sem, Nat.reduceEqDiff, Nat.reduceAdd, Nat.reduceLeDiff, Nat.reduceLT, Nat.reduceSub, reduceIte, reduceCtorEq, szQ, toQ, eqQ, eqB_rfl]; done)))); refine hk _ ?_; clear hk Kn)
    | (refine c_guardF (t := ?_) (b := ?_) ?_ ?_ ?_ ?_; rotate_left 2; (focus exact rfl); (focus (simp only [go_sem, Nat.reduceEqDiff, Nat.reduceAdd, Nat.reduceLeDiff, Nat.reduceLT, Nat.reduceSub, reduceIte, reduceCtorEq, szQ, toQ, eqQ, eqB_rfl]; exact rfl)); (focus decide))
    | (apply c_guardS; (focus exact rfl); (focus (simp only [go_sem, Nat.reduceEqDiff, Nat.reduceAdd, Nat.reduceLeDiff, Nat.reduceLT, Nat.reduceSub, reduceIte, reduceCtorEq, szQ, toQ, eqQ, eqB_rfl]; exact rfl)); all_goals (intro hc; simp only [hc]; (try simp only [decide_eq_true_eq, decide_eq_false_iff_not, Bool.not_eq_true', Bool.not_eq_false', Bool.not_eq_true, reduceCtorEq] at hc); (try (exfalso; omega))))
    | (refine c_some fun Kn hk => ?_; simp only [go_sem, Nat.reduceEqDiff, Nat.reduceAdd, Nat.reduceLeDiff, Nat.reduceLT, Nat.reduceSub, reduceIte, reduceCtorEq, szQ, toQ, eqQ, eqB_rfl]; (repeat (refine And.intro ?_ ?_; focus (first | omega | assumption | with_reducible rfl | (simp only [go_sem, Nat.reduceEqDiff, Nat.reduceAdd, Nat.reduceLeDiff, Nat.reduceLT, Nat.reduceSub, reduceIte, reduceCtorEq, szQ, toQ, eqQ, eqB_rfl]; done)))); refine hk _ ?_; clear hk Kn))
  (refine fin_ret ?_; simp only [go_sem, Nat.reduceEqDiff, Nat.reduceAdd, reduceIte, reduceCtorEq])
  exact hK
theorem true_of_pure {W : World} {f : FuncId} {vs : Array Value} (h : Calls Try.prog f vs W fun e W' => ∃ v, e = .returned v ∧ Rep (.bool true) ⟨W', fun b => b < W'.heap.size, fun _ => none⟩ v ∧ Below W.heap.size W W') :
    Calls Try.prog f vs W fun e W' => e = .returned (.bool true) ∧ Below W.heap.size W W' := by
  refine h.mono ?_
  rintro e w' ⟨v, rfl, hr, hb⟩
  unfold Rep at hr
  subst hr
  exact ⟨rfl, hb⟩
theorem FnExactSameParts_walk (v0 v1 : Value) (W : World) (h0 : Arg_parts W v0) (h1 : Arg_parts W v1) : Calls Try.prog 3 #[v0, v1] W fun e W' => e = .returned (.bool true) ∧ Below W.heap.size W W' := by
  obtain ⟨xs, o0, l0, r0⟩ := h0
  obtain ⟨ys, o1, l1, r1⟩ := h1
  exact true_of_pure (rel_calls FnExactSameParts_pure (xs, ys) ⟨o0, o1, l0, l1⟩ W (vs := [v0, v1]) (by simp only [RepL.cons_iff, RepL.nil_iff]; exact ⟨_, _, rfl, r0, _, _, rfl, r1, rfl⟩))
#print axioms FnExactSameParts_walk
end Go.Proofs.Ytdehpafflbhadaa
