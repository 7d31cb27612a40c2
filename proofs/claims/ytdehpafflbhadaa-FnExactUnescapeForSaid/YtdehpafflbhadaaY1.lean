/- The laws' walks: UnescapeFor. -/
import Derived.Test.YtdehpafflbhadaaX7
namespace Go.Proofs.Ytdehpafflbhadaa
attribute [local irreducible] awp arun acalm FinP AX.then AX.inBlock Again
attribute [local go_sem] aop aopc aSlice aSliceC boundOf aMk evT upd_def aCall aCallC aLenL aLen aPick_t aPick_f aNil aAlloc aBox aBuild bldPV aBSlice bsPV aApp newsOf destOf drp aConvX aConv aConvInt aLoad cellsAt aStore cellsPV setAt aFld aField aIdx aIndex aUn aBin' aBin aMax aExtract pvOf PV.isCell nmbL PV.nmb List.map_cons List.map_nil List.all_cons List.all_nil Bool.and_true Bool.true_and if_true if_false List.getD_cons_zero List.getD_cons_succ List.getD_nil Option.isSome_some true_and and_true and_self eq_self true_or or_true List.drop_zero List.drop_succ_cons List.drop_nil List.take_zero List.take_succ_cons List.take_nil List.length_cons List.length_nil List.length_map Option.getD_some Option.getD_none List.nil_append List.cons_append List.append_nil Option.some.injEq exists_eq_left' List.getElem?_cons_zero List.getElem?_cons_succ Int.toNat_natCast Int.natCast_inj toNat_succ Nat.zero_add res res1 resC owns owns1 ownsC List.flatMap_cons List.flatMap_nil List.flatten_cons List.flatten_nil List.mem_cons List.not_mem_nil or_false false_or forall_eq forall_eq_or_imp isFro frz frz1 pureC tabA isBld List.cons.injEq PV.seq.injEq PV.int.injEq PV.str.injEq PV.bool.injEq PV.agg.injEq inR tab Γof aRes packR Option.map_some Option.map_none rel Prod.exists exists_and_left exists_eq_left and_assoc beq_self_eq_true Bool.not_true Bool.not_false
set_option maxRecDepth 100000
set_option linter.unusedVariables false
set_option linter.unusedSimpArgs false
open Go.RowKit

set_option maxHeartbeats 4000000 in
theorem FnExactUnescapeFor_pure : PureOk Try.prog 10 (rel (α := Int × Bs) (fun x => [.int .i64 x.1, .str x.2]) (fun x => inR .i64 x.1 ∧ x.2.length ≤ 9223372036854775807) (fun _ => .bool true)) := by
  refine pure_rel 2 (tab_cons unFor_i (tab_cons unFor_s tab_nil)) mixed [.tmp 4] Try.func10 rfl rfl (by kernel_rfl) (by kernel_rfl) (fun _ => rfl) (by kernel_rfl) ?_
  rintro ⟨p, s⟩ K ⟨hp, hl⟩ hK
  dsimp only at *
  unfold entry
  repeat' (first
    | (refine s_seq ?_)
    | (refine s_block ?_)
    | (refine s_region ?_)
    | (refine a_nil ?_)
    | (refine a_some fun Kn hk => ?_; simp only [go_sem, Nat.reduceEqDiff, Nat.reduceAdd, Nat.reduceLeDiff, Nat.reduceLT, Nat.reduceSub, Int.reduceToNat, reduceIte, reduceCtorEq, decide_true]; (repeat (refine And.intro ?_ ?_; focus (first | omega | assumption | with_reducible rfl | (simp only [go_sem, Nat.reduceEqDiff, Nat.reduceAdd, Nat.reduceLeDiff, Nat.reduceLT, Nat.reduceSub, Int.reduceToNat, reduceIte, reduceCtorEq, decide_true]; done)))); refine hk _ _ _ ?_; clear hk Kn)
    | (refine a_none fun Kn hk => ?_; simp only [go_sem, Nat.reduceEqDiff, Nat.reduceAdd, Nat.reduceLeDiff, Nat.reduceLT, Nat.reduceSub, Int.reduceToNat, reduceIte, reduceCtorEq, decide_true]; (repeat (refine And.intro ?_ ?_; focus (first | omega | assumption | with_reducible rfl | (simp only [go_sem, Nat.reduceEqDiff, Nat.reduceAdd, Nat.reduceLeDiff, Nat.reduceLT, Nat.reduceSub, Int.reduceToNat, reduceIte, reduceCtorEq, decide_true]; done)))); refine hk _ _ _ ?_; clear hk Kn)
    | (refine q_then ?_)
    | (refine q_thenE ?_) | (refine q_thenR ?_) | (refine q_blk ?_) | (refine q_blkE ?_) | (refine q_blkO ?_ ?_; (focus decide)) | (refine q_blkR ?_)
    | (refine s_skip ?_) | (refine s_ret ?_) | (refine s_exit ?_)
    | (refine s_condT ?_ ?_; (focus (simp only [go_sem, Nat.reduceEqDiff, Nat.reduceAdd, Nat.reduceLeDiff, Nat.reduceLT, Nat.reduceSub, Int.reduceToNat, reduceIte, reduceCtorEq, decide_true]; done))) | (refine s_condF ?_ ?_; (focus (simp only [go_sem, Nat.reduceEqDiff, Nat.reduceAdd, Nat.reduceLeDiff, Nat.reduceLT, Nat.reduceSub, Int.reduceToNat, reduceIte, reduceCtorEq, decide_true]; done)))
    | (apply s_cond; (focus (simp only [go_sem, Nat.reduceEqDiff, Nat.reduceAdd, Nat.reduceLeDiff, Nat.reduceLT, Nat.reduceSub, Int.reduceToNat, reduceIte, reduceCtorEq, decide_true]; exact rfl)); all_goals (intro hc; (try simp only [decide_eq_true_eq, decide_eq_false_iff_not, Bool.not_eq_true', Bool.not_eq_false', Bool.not_eq_true, reduceCtorEq] at hc); (try (exfalso; omega))))
    | (refine a_guardT (t := ?_) ?_ ?_ fun Kn hk => ?_; rotate_left; (focus exact rfl); (focus (simp only [go_sem, Nat.reduceEqDiff, Nat.reduceAdd, Nat.reduceLeDiff, Nat.reduceLT, Nat.reduceSub, Int.reduceToNat, reduceIte, reduceCtorEq, decide_true]; done)); simp only [go_sem, Nat.reduceEqDiff, Nat.reduceAdd, Nat.reduceLeDiff, Nat.reduceLT, Nat.reduceSub, Int.reduceToNat, reduceIte, reduceCtorEq, decide_true]; (repeat (refine And.intro ?_ ?_; focus (first | omega | assumption | with_reducible rfl | (simp only [go_sem, Nat.reduceEqDiff, Nat.reduceAdd, Nat.reduceLeDiff, Nat.reduceLT, Nat.reduceSub, Int.reduceToNat, reduceIte, reduceCtorEq, decide_true]; done)))); refine hk _ _ _ ?_; clear hk Kn)
    | (refine a_guardF (t := ?_) (b := ?_) ?_ ?_ ?_ ?_; rotate_left 2; (focus exact rfl); (focus (simp only [go_sem, Nat.reduceEqDiff, Nat.reduceAdd, Nat.reduceLeDiff, Nat.reduceLT, Nat.reduceSub, Int.reduceToNat, reduceIte, reduceCtorEq, decide_true]; exact rfl)); (focus decide))
    | (refine a_guardN (t := ?_) ?_ ?_ ?_; rotate_left; (focus exact rfl); (focus (simp only [go_sem, Nat.reduceEqDiff, Nat.reduceAdd, Nat.reduceLeDiff, Nat.reduceLT, Nat.reduceSub, Int.reduceToNat, reduceIte, reduceCtorEq, decide_true]; done)))
    | (apply a_guardS; (focus exact rfl); (focus (simp only [go_sem, Nat.reduceEqDiff, Nat.reduceAdd, Nat.reduceLeDiff, Nat.reduceLT, Nat.reduceSub, Int.reduceToNat, reduceIte, reduceCtorEq, decide_true]; exact rfl)); all_goals (intro hc; simp only [hc]; (try simp only [decide_eq_true_eq, decide_eq_false_iff_not, Bool.not_eq_true', Bool.not_eq_false', Bool.not_eq_true, reduceCtorEq] at hc); (try (exfalso; omega))))
    | (refine s_drawA ?_ ?_ ?_; (focus kernel_rfl); (focus kernel_rfl))
    | (refine c_nil ?_)
    | (refine c_guardT (t := ?_) ?_ ?_ fun Kn hk => ?_; rotate_left; (focus exact rfl); (focus (simp only [go_sem, Nat.reduceEqDiff, Nat.reduceAdd, Nat.reduceLeDiff, Nat.reduceLT, Nat.reduceSub, Int.reduceToNat, reduceIte, reduceCtorEq, decide_true]; done)); simp only [go_sem, Nat.reduceEqDiff, Nat.reduceAdd, Nat.reduceLeDiff, Nat.reduceLT, Nat.reduceSub, Int.reduceToNat, reduceIte, reduceCtorEq, decide_true]; (repeat (refine And.intro ?_ ?_; focus (first | omega | assumption | with_reducible rfl | (simp only [go_sem, Nat.reduceEqDiff, Nat.reduceAdd, Nat.reduceLeDiff, Nat.reduceLT, Nat.reduceSub, Int.reduceToNat, reduceIte, reduceCtorEq, decide_true]; done)))); refine hk _ ?_; clear hk Kn)
    | (refine c_guardF (t := ?_) (b := ?_) ?_ ?_ ?_ ?_; rotate_left 2; (focus exact rfl); (focus (simp only [go_sem, Nat.reduceEqDiff, Nat.reduceAdd, Nat.reduceLeDiff, Nat.reduceLT, Nat.reduceSub, Int.reduceToNat, reduceIte, reduceCtorEq, decide_true]; exact rfl)); (focus decide))
    | (refine c_guardN (t := ?_) ?_ ?_ ?_; rotate_left; (focus exact rfl); (focus (simp only [go_sem, Nat.reduceEqDiff, Nat.reduceAdd, Nat.reduceLeDiff, Nat.reduceLT, Nat.reduceSub, Int.reduceToNat, reduceIte, reduceCtorEq, decide_true]; done)))
    | (apply c_guardS; (focus exact rfl); (focus (simp only [go_sem, Nat.reduceEqDiff, Nat.reduceAdd, Nat.reduceLeDiff, Nat.reduceLT, Nat.reduceSub, Int.reduceToNat, reduceIte, reduceCtorEq, decide_true]; exact rfl)); all_goals (intro hc; simp only [hc]; (try simp only [decide_eq_true_eq, decide_eq_false_iff_not, Bool.not_eq_true', Bool.not_eq_false', Bool.not_eq_true, reduceCtorEq] at hc); (try (exfalso; omega))))
    | (refine c_some fun Kn hk => ?_; simp only [go_sem, Nat.reduceEqDiff, Nat.reduceAdd, Nat.reduceLeDiff, Nat.reduceLT, Nat.reduceSub, Int.reduceToNat, reduceIte, reduceCtorEq, decide_true]; (repeat (refine And.intro ?_ ?_; focus (first | omega | assumption | with_reducible rfl | (simp only [go_sem, Nat.reduceEqDiff, Nat.reduceAdd, Nat.reduceLeDiff, Nat.reduceLT, Nat.reduceSub, Int.reduceToNat, reduceIte, reduceCtorEq, decide_true]; done)))); refine hk _ ?_; clear hk Kn))
  all_goals
    ((first | refine fin_ret ?_ | refine fin_end ?_); simp only [go_sem, Nat.reduceEqDiff, Nat.reduceAdd, reduceIte, reduceCtorEq])
    exact hK
end Go.Proofs.Ytdehpafflbhadaa
