/- Contracts: entities read back (the reference), percent signs, script texts. -/
import Derived.Test.YtdehpafflbhadaaX3
namespace Go.Proofs.Ytdehpafflbhadaa
attribute [local irreducible] awp arun acalm FinP AX.then AX.inBlock Again
attribute [local go_sem] aop aopc aSlice aSliceC boundOf aMk evT upd_def aCall aCallC aLenL aLen aPick_t aPick_f aNil aAlloc aBox aBuild bldPV aBSlice bsPV aApp newsOf destOf drp aConvX aConv aConvInt aLoad cellsAt aStore cellsPV setAt aFld aField aIdx aIndex aUn aBin' aBin aMax aExtract pvOf PV.isCell nmbL PV.nmb List.map_cons List.map_nil List.all_cons List.all_nil Bool.and_true Bool.true_and if_true if_false List.getD_cons_zero List.getD_cons_succ List.getD_nil Option.isSome_some true_and and_true and_self eq_self true_or or_true List.drop_zero List.drop_succ_cons List.drop_nil List.take_zero List.take_succ_cons List.take_nil List.length_cons List.length_nil List.length_map Option.getD_some Option.getD_none List.nil_append List.cons_append List.append_nil Option.some.injEq exists_eq_left' List.getElem?_cons_zero List.getElem?_cons_succ Int.toNat_natCast Int.natCast_inj toNat_succ Nat.zero_add res res1 resC owns owns1 ownsC List.flatMap_cons List.flatMap_nil List.flatten_cons List.flatten_nil List.mem_cons List.not_mem_nil or_false false_or forall_eq forall_eq_or_imp isFro frz frz1 pureC tabA isBld List.cons.injEq PV.seq.injEq PV.int.injEq PV.str.injEq PV.bool.injEq PV.agg.injEq inR tab Γof aRes packR Option.map_some Option.map_none rel Prod.exists exists_and_left exists_eq_left and_assoc beq_self_eq_true Bool.not_true Bool.not_false
set_option maxRecDepth 100000
set_option linter.unusedVariables false
set_option linter.unusedSimpArgs false
open Go.RowKit

set_option maxHeartbeats 4000000 in
theorem un_s : PureOk Try.prog 75 (tC fun s => .str (unT s)) := by
  refine pure_rel 1 (tab_cons l2At_s tab_nil) mixed [.tmp 2] Try.func75 rfl rfl (by kernel_rfl) (by kernel_rfl) (fun _ => rfl) (by kernel_rfl) ?_
  rintro s K hl hK
  unfold entry
  repeat' (first
    | (refine s_seq ?_)
    | (refine s_block ?_)
    | (refine s_region ?_)
    | (refine a_nil ?_)
    | (refine a_some fun Kn hk => ?_; simp only [go_sem, Nat.reduceEqDiff, Nat.reduceAdd, Nat.reduceLeDiff, Nat.reduceLT, Nat.reduceSub, Int.reduceToNat, reduceIte, reduceCtorEq]; (repeat (refine And.intro ?_ ?_; focus (first | omega | assumption | with_reducible rfl | (simp only [go_sem, Nat.reduceEqDiff, Nat.reduceAdd, Nat.reduceLeDiff, Nat.reduceLT, Nat.reduceSub, Int.reduceToNat, reduceIte, reduceCtorEq]; done)))); refine hk _ _ _ ?_; clear hk Kn)
    | (refine a_none fun Kn hk => ?_; simp only [go_sem, Nat.reduceEqDiff, Nat.reduceAdd, Nat.reduceLeDiff, Nat.reduceLT, Nat.reduceSub, Int.reduceToNat, reduceIte, reduceCtorEq]; (repeat (refine And.intro ?_ ?_; focus (first | omega | assumption | with_reducible rfl | (simp only [go_sem, Nat.reduceEqDiff, Nat.reduceAdd, Nat.reduceLeDiff, Nat.reduceLT, Nat.reduceSub, Int.reduceToNat, reduceIte, reduceCtorEq]; done)))); refine hk _ _ _ ?_; clear hk Kn)
    | (refine q_then ?_)
    | (refine q_thenE ?_) | (refine q_thenR ?_) | (refine q_blk ?_) | (refine q_blkE ?_) | (refine q_blkO ?_ ?_; (focus decide)) | (refine q_blkR ?_)
    | (refine s_skip ?_) | (refine s_ret ?_) | (refine s_exit ?_)
    | (refine s_condT ?_ ?_; (focus (simp only [go_sem, Nat.reduceEqDiff, Nat.reduceAdd, Nat.reduceLeDiff, Nat.reduceLT, Nat.reduceSub, Int.reduceToNat, reduceIte, reduceCtorEq]; done))) | (refine s_condF ?_ ?_; (focus (simp only [go_sem, Nat.reduceEqDiff, Nat.reduceAdd, Nat.reduceLeDiff, Nat.reduceLT, Nat.reduceSub, Int.reduceToNat, reduceIte, reduceCtorEq]; done)))
    | (apply s_cond; (focus (simp only [go_sem, Nat.reduceEqDiff, Nat.reduceAdd, Nat.reduceLeDiff, Nat.reduceLT, Nat.reduceSub, Int.reduceToNat, reduceIte, reduceCtorEq]; exact rfl)); all_goals (intro hc; (try simp only [decide_eq_true_eq, decide_eq_false_iff_not, Bool.not_eq_true', Bool.not_eq_false', Bool.not_eq_true, reduceCtorEq] at hc); (try (exfalso; omega))))
    | (refine a_guardT (t := ?_) ?_ ?_ fun Kn hk => ?_; rotate_left; (focus exact rfl); (focus (simp only [go_sem, Nat.reduceEqDiff, Nat.reduceAdd, Nat.reduceLeDiff, Nat.reduceLT, Nat.reduceSub, Int.reduceToNat, reduceIte, reduceCtorEq]; done)); simp only [go_sem, Nat.reduceEqDiff, Nat.reduceAdd, Nat.reduceLeDiff, Nat.reduceLT, Nat.reduceSub, Int.reduceToNat, reduceIte, reduceCtorEq]; (repeat (refine And.intro ?_ ?_; focus (first | omega | assumption | with_reducible rfl | (simp only [go_sem, Nat.reduceEqDiff, Nat.reduceAdd, Nat.reduceLeDiff, Nat.reduceLT, Nat.reduceSub, Int.reduceToNat, reduceIte, reduceCtorEq]; done)))); refine hk _ _ _ ?_; clear hk Kn)
    | (refine a_guardF (t := ?_) (b := ?_) ?_ ?_ ?_ ?_; rotate_left 2; (focus exact rfl); (focus (simp only [go_sem, Nat.reduceEqDiff, Nat.reduceAdd, Nat.reduceLeDiff, Nat.reduceLT, Nat.reduceSub, Int.reduceToNat, reduceIte, reduceCtorEq]; exact rfl)); (focus decide))
    | (refine a_guardN (t := ?_) ?_ ?_ ?_; rotate_left; (focus exact rfl); (focus (simp only [go_sem, Nat.reduceEqDiff, Nat.reduceAdd, Nat.reduceLeDiff, Nat.reduceLT, Nat.reduceSub, Int.reduceToNat, reduceIte, reduceCtorEq]; done)))
    | (apply a_guardS; (focus exact rfl); (focus (simp only [go_sem, Nat.reduceEqDiff, Nat.reduceAdd, Nat.reduceLeDiff, Nat.reduceLT, Nat.reduceSub, Int.reduceToNat, reduceIte, reduceCtorEq]; exact rfl)); all_goals (intro hc; simp only [hc]; (try simp only [decide_eq_true_eq, decide_eq_false_iff_not, Bool.not_eq_true', Bool.not_eq_false', Bool.not_eq_true, reduceCtorEq] at hc); (try (exfalso; omega))))
    | (refine s_drawA ?_ ?_ ?_; (focus kernel_rfl); (focus kernel_rfl))
    | (refine c_nil ?_)
    | (refine c_guardT (t := ?_) ?_ ?_ fun Kn hk => ?_; rotate_left; (focus exact rfl); (focus (simp only [go_sem, Nat.reduceEqDiff, Nat.reduceAdd, Nat.reduceLeDiff, Nat.reduceLT, Nat.reduceSub, Int.reduceToNat, reduceIte, reduceCtorEq]; done)); simp only [go_sem, Nat.reduceEqDiff, Nat.reduceAdd, Nat.reduceLeDiff, Nat.reduceLT, Nat.reduceSub, Int.reduceToNat, reduceIte, reduceCtorEq]; (repeat (refine And.intro ?_ ?_; focus (first | omega | assumption | with_reducible rfl | (simp only [go_sem, Nat.reduceEqDiff, Nat.reduceAdd, Nat.reduceLeDiff, Nat.reduceLT, Nat.reduceSub, Int.reduceToNat, reduceIte, reduceCtorEq]; done)))); refine hk _ ?_; clear hk Kn)
    | (refine c_guardF (t := ?_) (b := ?_) ?_ ?_ ?_ ?_; rotate_left 2; (focus exact rfl); (focus (simp only [go_sem, Nat.reduceEqDiff, Nat.reduceAdd, Nat.reduceLeDiff, Nat.reduceLT, Nat.reduceSub, Int.reduceToNat, reduceIte, reduceCtorEq]; exact rfl)); (focus decide))
    | (refine c_guardN (t := ?_) ?_ ?_ ?_; rotate_left; (focus exact rfl); (focus (simp only [go_sem, Nat.reduceEqDiff, Nat.reduceAdd, Nat.reduceLeDiff, Nat.reduceLT, Nat.reduceSub, Int.reduceToNat, reduceIte, reduceCtorEq]; done)))
    | (apply c_guardS; (focus exact rfl); (focus (simp only [go_sem, Nat.reduceEqDiff, Nat.reduceAdd, Nat.reduceLeDiff, Nat.reduceLT, Nat.reduceSub, Int.reduceToNat, reduceIte, reduceCtorEq]; exact rfl)); all_goals (intro hc; simp only [hc]; (try simp only [decide_eq_true_eq, decide_eq_false_iff_not, Bool.not_eq_true', Bool.not_eq_false', Bool.not_eq_true, reduceCtorEq] at hc); (try (exfalso; omega))))
    | (refine c_some fun Kn hk => ?_; simp only [go_sem, Nat.reduceEqDiff, Nat.reduceAdd, Nat.reduceLeDiff, Nat.reduceLT, Nat.reduceSub, Int.reduceToNat, reduceIte, reduceCtorEq]; (repeat (refine And.intro ?_ ?_; focus (first | omega | assumption | with_reducible rfl | (simp only [go_sem, Nat.reduceEqDiff, Nat.reduceAdd, Nat.reduceLeDiff, Nat.reduceLT, Nat.reduceSub, Int.reduceToNat, reduceIte, reduceCtorEq]; done)))); refine hk _ ?_; clear hk Kn))
  refine s_loop (ι := Nat × Bs) (fun i => [(0, .str s), (3, .own 0), (4, .int .i64 i.1)]) (fun i => [(0, .row 5 1 (i.2.map bc))]) 1 (fun i => i.1 ≤ s.length ∧ i.2.length ≤ i.1 ∧ unT s = i.2 ++ unT (s.drop i.1)) (fun i => s.length - i.1) (0, []) (by omega) ⟨by simp, by simp, by simp⟩ ?_ ?_
  · simp [fits, fitsT, fitsM, upd_def, PV.nmb, nmbL, MB.nmb, List.getD_cons_zero, List.getD_cons_succ]
  rintro ⟨k, out⟩ ⟨hk, ho, hu⟩
  dsimp only at *
  have hbl := byte_lt s k
  have hel := entAt_drop s k
  have hel1 := byte_lt' (entAt (s.drop k)).1
  simp only [mkS, mkT, mkM]
  repeat' (first
    | (refine s_seq ?_)
    | (refine s_block ?_)
    | (refine s_region ?_)
    | (refine a_nil ?_)
    | (refine a_some fun Kn hk => ?_; simp only [go_sem, Nat.reduceEqDiff, Nat.reduceAdd, Nat.reduceLeDiff, Nat.reduceLT, Nat.reduceSub, Int.reduceToNat, reduceIte, reduceCtorEq, List.length_drop, List.length_take, List.take_length]; (repeat (refine And.intro ?_ ?_; focus (first | omega | assumption | with_reducible rfl | (simp only [go_sem, Nat.reduceEqDiff, Nat.reduceAdd, Nat.reduceLeDiff, Nat.reduceLT, Nat.reduceSub, Int.reduceToNat, reduceIte, reduceCtorEq, List.length_drop, List.length_take, List.take_length]; done)))); refine hk _ _ _ ?_; clear hk Kn)
    | (refine a_none fun Kn hk => ?_; simp only [go_sem, Nat.reduceEqDiff, Nat.reduceAdd, Nat.reduceLeDiff, Nat.reduceLT, Nat.reduceSub, Int.reduceToNat, reduceIte, reduceCtorEq, List.length_drop, List.length_take, List.take_length]; (repeat (refine And.intro ?_ ?_; focus (first | omega | assumption | with_reducible rfl | (simp only [go_sem, Nat.reduceEqDiff, Nat.reduceAdd, Nat.reduceLeDiff, Nat.reduceLT, Nat.reduceSub, Int.reduceToNat, reduceIte, reduceCtorEq, List.length_drop, List.length_take, List.take_length]; done)))); refine hk _ _ _ ?_; clear hk Kn)
    | (refine q_then ?_)
    | (refine q_thenE ?_) | (refine q_thenR ?_) | (refine q_blk ?_) | (refine q_blkE ?_) | (refine q_blkO ?_ ?_; (focus decide)) | (refine q_blkR ?_)
    | (refine s_skip ?_) | (refine s_ret ?_) | (refine s_exit ?_)
    | (refine s_condT ?_ ?_; (focus (simp only [go_sem, Nat.reduceEqDiff, Nat.reduceAdd, Nat.reduceLeDiff, Nat.reduceLT, Nat.reduceSub, Int.reduceToNat, reduceIte, reduceCtorEq, List.length_drop, List.length_take, List.take_length]; done))) | (refine s_condF ?_ ?_; (focus (simp only [go_sem, Nat.reduceEqDiff, Nat.reduceAdd, Nat.reduceLeDiff, Nat.reduceLT, Nat.reduceSub, Int.reduceToNat, reduceIte, reduceCtorEq, List.length_drop, List.length_take, List.take_length]; done)))
    | (apply s_cond; (focus (simp only [go_sem, Nat.reduceEqDiff, Nat.reduceAdd, Nat.reduceLeDiff, Nat.reduceLT, Nat.reduceSub, Int.reduceToNat, reduceIte, reduceCtorEq, List.length_drop, List.length_take, List.take_length]; exact rfl)); all_goals (intro hc; (try simp only [decide_eq_true_eq, decide_eq_false_iff_not, Bool.not_eq_true', Bool.not_eq_false', Bool.not_eq_true, reduceCtorEq] at hc); (try (exfalso; omega))))
    | (refine a_guardT (t := ?_) ?_ ?_ fun Kn hk => ?_; rotate_left; (focus exact rfl); (focus (simp only [go_sem, Nat.reduceEqDiff, Nat.reduceAdd, Nat.reduceLeDiff, Nat.reduceLT, Nat.reduceSub, Int.reduceToNat, reduceIte, reduceCtorEq, List.length_drop, List.length_take, List.take_length]; done)); simp only [go_sem, Nat.reduceEqDiff, Nat.reduceAdd, Nat.reduceLeDiff, Nat.reduceLT, Nat.reduceSub, Int.reduceToNat, reduceIte, reduceCtorEq, List.length_drop, List.length_take, List.take_length]; (repeat (refine And.intro ?_ ?_; focus (first | omega | assumption | with_reducible rfl | (simp only [go_sem, Nat.reduceEqDiff, Nat.reduceAdd, Nat.reduceLeDiff, Nat.reduceLT, Nat.reduceSub, Int.reduceToNat, reduceIte, reduceCtorEq, List.length_drop, List.length_take, List.take_length]; done)))); refine hk _ _ _ ?_; clear hk Kn)
    | (refine a_guardF (t := ?_) (b := ?_) ?_ ?_ ?_ ?_; rotate_left 2; (focus exact rfl); (focus (simp only [go_sem, Nat.reduceEqDiff, Nat.reduceAdd, Nat.reduceLeDiff, Nat.reduceLT, Nat.reduceSub, Int.reduceToNat, reduceIte, reduceCtorEq, List.length_drop, List.length_take, List.take_length]; exact rfl)); (focus decide))
    | (refine a_guardN (t := ?_) ?_ ?_ ?_; rotate_left; (focus exact rfl); (focus (simp only [go_sem, Nat.reduceEqDiff, Nat.reduceAdd, Nat.reduceLeDiff, Nat.reduceLT, Nat.reduceSub, Int.reduceToNat, reduceIte, reduceCtorEq, List.length_drop, List.length_take, List.take_length]; done)))
    | (apply a_guardS; (focus exact rfl); (focus (simp only [go_sem, Nat.reduceEqDiff, Nat.reduceAdd, Nat.reduceLeDiff, Nat.reduceLT, Nat.reduceSub, Int.reduceToNat, reduceIte, reduceCtorEq, List.length_drop, List.length_take, List.take_length]; exact rfl)); all_goals (intro hc; simp only [hc]; (try simp only [decide_eq_true_eq, decide_eq_false_iff_not, Bool.not_eq_true', Bool.not_eq_false', Bool.not_eq_true, reduceCtorEq] at hc); (try (exfalso; omega))))
    | (refine s_drawA ?_ ?_ ?_; (focus kernel_rfl); (focus kernel_rfl))
    | (refine c_nil ?_)
    | (refine c_guardT (t := ?_) ?_ ?_ fun Kn hk => ?_; rotate_left; (focus exact rfl); (focus (simp only [go_sem, Nat.reduceEqDiff, Nat.reduceAdd, Nat.reduceLeDiff, Nat.reduceLT, Nat.reduceSub, Int.reduceToNat, reduceIte, reduceCtorEq, List.length_drop, List.length_take, List.take_length]; done)); simp only [go_sem, Nat.reduceEqDiff, Nat.reduceAdd, Nat.reduceLeDiff, Nat.reduceLT, Nat.reduceSub, Int.reduceToNat, reduceIte, reduceCtorEq, List.length_drop, List.length_take, List.take_length]; (repeat (refine And.intro ?_ ?_; focus (first | omega | assumption | with_reducible rfl | (simp only [go_sem, Nat.reduceEqDiff, Nat.reduceAdd, Nat.reduceLeDiff, Nat.reduceLT, Nat.reduceSub, Int.reduceToNat, reduceIte, reduceCtorEq, List.length_drop, List.length_take, List.take_length]; done)))); refine hk _ ?_; clear hk Kn)
    | (refine c_guardF (t := ?_) (b := ?_) ?_ ?_ ?_ ?_; rotate_left 2; (focus exact rfl); (focus (simp only [go_sem, Nat.reduceEqDiff, Nat.reduceAdd, Nat.reduceLeDiff, Nat.reduceLT, Nat.reduceSub, Int.reduceToNat, reduceIte, reduceCtorEq, List.length_drop, List.length_take, List.take_length]; exact rfl)); (focus decide))
    | (refine c_guardN (t := ?_) ?_ ?_ ?_; rotate_left; (focus exact rfl); (focus (simp only [go_sem, Nat.reduceEqDiff, Nat.reduceAdd, Nat.reduceLeDiff, Nat.reduceLT, Nat.reduceSub, Int.reduceToNat, reduceIte, reduceCtorEq, List.length_drop, List.length_take, List.take_length]; done)))
    | (apply c_guardS; (focus exact rfl); (focus (simp only [go_sem, Nat.reduceEqDiff, Nat.reduceAdd, Nat.reduceLeDiff, Nat.reduceLT, Nat.reduceSub, Int.reduceToNat, reduceIte, reduceCtorEq, List.length_drop, List.length_take, List.take_length]; exact rfl)); all_goals (intro hc; simp only [hc]; (try simp only [decide_eq_true_eq, decide_eq_false_iff_not, Bool.not_eq_true', Bool.not_eq_false', Bool.not_eq_true, reduceCtorEq] at hc); (try (exfalso; omega))))
    | (refine c_some fun Kn hk => ?_; simp only [go_sem, Nat.reduceEqDiff, Nat.reduceAdd, Nat.reduceLeDiff, Nat.reduceLT, Nat.reduceSub, Int.reduceToNat, reduceIte, reduceCtorEq, List.length_drop, List.length_take, List.take_length]; (repeat (refine And.intro ?_ ?_; focus (first | omega | assumption | with_reducible rfl | (simp only [go_sem, Nat.reduceEqDiff, Nat.reduceAdd, Nat.reduceLeDiff, Nat.reduceLT, Nat.reduceSub, Int.reduceToNat, reduceIte, reduceCtorEq, List.length_drop, List.length_take, List.take_length]; done)))); refine hk _ ?_; clear hk Kn))
  · refine s_againR ((k + 1, out ++ [s.getD k 0])) (fun i => if i = 0 then 2 else i) ?_ ?_ ?_ ?_ ?_ ?_ <;> (first | omega | (dsimp only; omega) | (intro i hi; dsimp only; (repeat' split) <;> omega) | (intro i j hi hj h; dsimp only at h; (repeat' split at h) <;> omega) | skip)
    · exact ⟨by dsimp only; omega, by simp; omega, by rw [hu, unT_drop (by omega), if_pos (by omega)]; simp⟩
    · simp [fitsTR, fitsMR, PV.ren, renL, MB.ren, upd_def, PV.nmb, nmbL, MB.nmb, List.getD_cons_zero, List.getD_cons_succ, frz, drp]
    · simp [fitsTR, fitsMR, PV.ren, renL, MB.ren, upd_def, PV.nmb, nmbL, MB.nmb, List.getD_cons_zero, List.getD_cons_succ, frz, drp, bc]
  · refine s_againR ((k + (entAt (s.drop k)).2, out ++ [(entAt (s.drop k)).1])) (fun i => if i = 0 then 2 else i) ?_ ?_ ?_ ?_ ?_ ?_ <;> (first | omega | (dsimp only; omega) | (intro i hi; dsimp only; (repeat' split) <;> omega) | (intro i j hi hj h; dsimp only at h; (repeat' split at h) <;> omega) | skip)
    · exact ⟨by dsimp only; omega, by simp; omega, by rw [hu, unT_drop (by omega), if_neg (by omega)]; simp⟩
    · simp [fitsTR, fitsMR, PV.ren, renL, MB.ren, upd_def, PV.nmb, nmbL, MB.nmb, List.getD_cons_zero, List.getD_cons_succ, frz, drp]
    · simp [fitsTR, fitsMR, PV.ren, renL, MB.ren, upd_def, PV.nmb, nmbL, MB.nmb, List.getD_cons_zero, List.getD_cons_succ, frz, drp, bc]
  · ((first | refine fin_ret ?_ | refine fin_end ?_); simp only [go_sem, Nat.reduceEqDiff, Nat.reduceAdd, reduceIte, reduceCtorEq])
    rw [unT_end (by omega), List.append_nil] at hu
    rw [← hu]
    exact hK
theorem isE_i : PureOk Try.prog 78 (tC fun s => .bool (escB s)) := by
  refine pure_rel 1 (tab_cons un_i (tab_cons esc_i tab_nil)) mixed [.tmp 2] Try.func78 rfl rfl (by kernel_rfl) (by kernel_rfl) (fun _ => rfl) (by kernel_rfl) ?_
  rintro s K hl hK
  have h1 := unT_len s
  unfold entry
  repeat' (first
    | (refine s_seq ?_)
    | (refine s_block ?_)
    | (refine s_region ?_)
    | (refine a_nil ?_)
    | (refine a_some fun Kn hk => ?_; simp only [go_sem, Nat.reduceEqDiff, Nat.reduceAdd, Nat.reduceLeDiff, Nat.reduceLT, Nat.reduceSub, Int.reduceToNat, reduceIte, reduceCtorEq]; (repeat (refine And.intro ?_ ?_; focus (first | omega | assumption | with_reducible rfl | (simp only [go_sem, Nat.reduceEqDiff, Nat.reduceAdd, Nat.reduceLeDiff, Nat.reduceLT, Nat.reduceSub, Int.reduceToNat, reduceIte, reduceCtorEq]; done)))); refine hk _ _ _ ?_; clear hk Kn)
    | (refine a_none fun Kn hk => ?_; simp only [go_sem, Nat.reduceEqDiff, Nat.reduceAdd, Nat.reduceLeDiff, Nat.reduceLT, Nat.reduceSub, Int.reduceToNat, reduceIte, reduceCtorEq]; (repeat (refine And.intro ?_ ?_; focus (first | omega | assumption | with_reducible rfl | (simp only [go_sem, Nat.reduceEqDiff, Nat.reduceAdd, Nat.reduceLeDiff, Nat.reduceLT, Nat.reduceSub, Int.reduceToNat, reduceIte, reduceCtorEq]; done)))); refine hk _ _ _ ?_; clear hk Kn)
    | (refine q_then ?_)
    | (refine q_thenE ?_) | (refine q_thenR ?_) | (refine q_blk ?_) | (refine q_blkE ?_) | (refine q_blkO ?_ ?_; (focus decide)) | (refine q_blkR ?_)
    | (refine s_skip ?_) | (refine s_ret ?_) | (refine s_exit ?_)
    | (refine s_condT ?_ ?_; (focus (simp only [go_sem, Nat.reduceEqDiff, Nat.reduceAdd, Nat.reduceLeDiff, Nat.reduceLT, Nat.reduceSub, Int.reduceToNat, reduceIte, reduceCtorEq]; done))) | (refine s_condF ?_ ?_; (focus (simp only [go_sem, Nat.reduceEqDiff, Nat.reduceAdd, Nat.reduceLeDiff, Nat.reduceLT, Nat.reduceSub, Int.reduceToNat, reduceIte, reduceCtorEq]; done)))
    | (apply s_cond; (focus (simp only [go_sem, Nat.reduceEqDiff, Nat.reduceAdd, Nat.reduceLeDiff, Nat.reduceLT, Nat.reduceSub, Int.reduceToNat, reduceIte, reduceCtorEq]; exact rfl)); all_goals (intro hc; (try simp only [decide_eq_true_eq, decide_eq_false_iff_not, Bool.not_eq_true', Bool.not_eq_false', Bool.not_eq_true, reduceCtorEq] at hc); (try (exfalso; omega))))
    | (refine a_guardT (t := ?_) ?_ ?_ fun Kn hk => ?_; rotate_left; (focus exact rfl); (focus (simp only [go_sem, Nat.reduceEqDiff, Nat.reduceAdd, Nat.reduceLeDiff, Nat.reduceLT, Nat.reduceSub, Int.reduceToNat, reduceIte, reduceCtorEq]; done)); simp only [go_sem, Nat.reduceEqDiff, Nat.reduceAdd, Nat.reduceLeDiff, Nat.reduceLT, Nat.reduceSub, Int.reduceToNat, reduceIte, reduceCtorEq]; (repeat (refine And.intro ?_ ?_; focus (first | omega | assumption | with_reducible rfl | (simp only [go_sem, Nat.reduceEqDiff, Nat.reduceAdd, Nat.reduceLeDiff, Nat.reduceLT, Nat.reduceSub, Int.reduceToNat, reduceIte, reduceCtorEq]; done)))); refine hk _ _ _ ?_; clear hk Kn)
    | (refine a_guardF (t := ?_) (b := ?_) ?_ ?_ ?_ ?_; rotate_left 2; (focus exact rfl); (focus (simp only [go_sem, Nat.reduceEqDiff, Nat.reduceAdd, Nat.reduceLeDiff, Nat.reduceLT, Nat.reduceSub, Int.reduceToNat, reduceIte, reduceCtorEq]; exact rfl)); (focus decide))
    | (refine a_guardN (t := ?_) ?_ ?_ ?_; rotate_left; (focus exact rfl); (focus (simp only [go_sem, Nat.reduceEqDiff, Nat.reduceAdd, Nat.reduceLeDiff, Nat.reduceLT, Nat.reduceSub, Int.reduceToNat, reduceIte, reduceCtorEq]; done)))
    | (apply a_guardS; (focus exact rfl); (focus (simp only [go_sem, Nat.reduceEqDiff, Nat.reduceAdd, Nat.reduceLeDiff, Nat.reduceLT, Nat.reduceSub, Int.reduceToNat, reduceIte, reduceCtorEq]; exact rfl)); all_goals (intro hc; simp only [hc]; (try simp only [decide_eq_true_eq, decide_eq_false_iff_not, Bool.not_eq_true', Bool.not_eq_false', Bool.not_eq_true, reduceCtorEq] at hc); (try (exfalso; omega))))
    | (refine s_drawA ?_ ?_ ?_; (focus kernel_rfl); (focus kernel_rfl))
    | (refine c_nil ?_)
    | (refine c_guardT (t := ?_) ?_ ?_ fun Kn hk => ?_; rotate_left; (focus exact rfl); (focus (simp only [go_sem, Nat.reduceEqDiff, Nat.reduceAdd, Nat.reduceLeDiff, Nat.reduceLT, Nat.reduceSub, Int.reduceToNat, reduceIte, reduceCtorEq]; done)); simp only [go_sem, Nat.reduceEqDiff, Nat.reduceAdd, Nat.reduceLeDiff, Nat.reduceLT, Nat.reduceSub, Int.reduceToNat, reduceIte, reduceCtorEq]; (repeat (refine And.intro ?_ ?_; focus (first | omega | assumption | with_reducible rfl | (simp only [go_sem, Nat.reduceEqDiff, Nat.reduceAdd, Nat.reduceLeDiff, Nat.reduceLT, Nat.reduceSub, Int.reduceToNat, reduceIte, reduceCtorEq]; done)))); refine hk _ ?_; clear hk Kn)
    | (refine c_guardF (t := ?_) (b := ?_) ?_ ?_ ?_ ?_; rotate_left 2; (focus exact rfl); (focus (simp only [go_sem, Nat.reduceEqDiff, Nat.reduceAdd, Nat.reduceLeDiff, Nat.reduceLT, Nat.reduceSub, Int.reduceToNat, reduceIte, reduceCtorEq]; exact rfl)); (focus decide))
    | (refine c_guardN (t := ?_) ?_ ?_ ?_; rotate_left; (focus exact rfl); (focus (simp only [go_sem, Nat.reduceEqDiff, Nat.reduceAdd, Nat.reduceLeDiff, Nat.reduceLT, Nat.reduceSub, Int.reduceToNat, reduceIte, reduceCtorEq]; done)))
    | (apply c_guardS; (focus exact rfl); (focus (simp only [go_sem, Nat.reduceEqDiff, Nat.reduceAdd, Nat.reduceLeDiff, Nat.reduceLT, Nat.reduceSub, Int.reduceToNat, reduceIte, reduceCtorEq]; exact rfl)); all_goals (intro hc; simp only [hc]; (try simp only [decide_eq_true_eq, decide_eq_false_iff_not, Bool.not_eq_true', Bool.not_eq_false', Bool.not_eq_true, reduceCtorEq] at hc); (try (exfalso; omega))))
    | (refine c_some fun Kn hk => ?_; simp only [go_sem, Nat.reduceEqDiff, Nat.reduceAdd, Nat.reduceLeDiff, Nat.reduceLT, Nat.reduceSub, Int.reduceToNat, reduceIte, reduceCtorEq]; (repeat (refine And.intro ?_ ?_; focus (first | omega | assumption | with_reducible rfl | (simp only [go_sem, Nat.reduceEqDiff, Nat.reduceAdd, Nat.reduceLeDiff, Nat.reduceLT, Nat.reduceSub, Int.reduceToNat, reduceIte, reduceCtorEq]; done)))); refine hk _ ?_; clear hk Kn))
  ((first | refine fin_ret ?_ | refine fin_end ?_); simp only [go_sem, Nat.reduceEqDiff, Nat.reduceAdd, reduceIte, reduceCtorEq])
  exact hK
theorem isE_s : PureOk Try.prog 74 (tC fun s => .bool (escB s)) := by
  refine pure_rel 1 (tab_cons un_s (tab_cons esc_s tab_nil)) mixed [.tmp 2] Try.func74 rfl rfl (by kernel_rfl) (by kernel_rfl) (fun _ => rfl) (by kernel_rfl) ?_
  rintro s K hl hK
  have h1 := unT_len s
  unfold entry
  repeat' (first
    | (refine s_seq ?_)
    | (refine s_block ?_)
    | (refine s_region ?_)
    | (refine a_nil ?_)
    | (refine a_some fun Kn hk => ?_; simp only [go_sem, Nat.reduceEqDiff, Nat.reduceAdd, Nat.reduceLeDiff, Nat.reduceLT, Nat.reduceSub, Int.reduceToNat, reduceIte, reduceCtorEq]; (repeat (refine And.intro ?_ ?_; focus (first | omega | assumption | with_reducible rfl | (simp only [go_sem, Nat.reduceEqDiff, Nat.reduceAdd, Nat.reduceLeDiff, Nat.reduceLT, Nat.reduceSub, Int.reduceToNat, reduceIte, reduceCtorEq]; done)))); refine hk _ _ _ ?_; clear hk Kn)
    | (refine a_none fun Kn hk => ?_; simp only [go_sem, Nat.reduceEqDiff, Nat.reduceAdd, Nat.reduceLeDiff, Nat.reduceLT, Nat.reduceSub, Int.reduceToNat, reduceIte, reduceCtorEq]; (repeat (refine And.intro ?_ ?_; focus (first | omega | assumption | with_reducible rfl | (simp only [go_sem, Nat.reduceEqDiff, Nat.reduceAdd, Nat.reduceLeDiff, Nat.reduceLT, Nat.reduceSub, Int.reduceToNat, reduceIte, reduceCtorEq]; done)))); refine hk _ _ _ ?_; clear hk Kn)
    | (refine q_then ?_)
    | (refine q_thenE ?_) | (refine q_thenR ?_) | (refine q_blk ?_) | (refine q_blkE ?_) | (refine q_blkO ?_ ?_; (focus decide)) | (refine q_blkR ?_)
    | (refine s_skip ?_) | (refine s_ret ?_) | (refine s_exit ?_)
    | (refine s_condT ?_ ?_; (focus (simp only [go_sem, Nat.reduceEqDiff, Nat.reduceAdd, Nat.reduceLeDiff, Nat.reduceLT, Nat.reduceSub, Int.reduceToNat, reduceIte, reduceCtorEq]; done))) | (refine s_condF ?_ ?_; (focus (simp only [go_sem, Nat.reduceEqDiff, Nat.reduceAdd, Nat.reduceLeDiff, Nat.reduceLT, Nat.reduceSub, Int.reduceToNat, reduceIte, reduceCtorEq]; done)))
    | (apply s_cond; (focus (simp only [go_sem, Nat.reduceEqDiff, Nat.reduceAdd, Nat.reduceLeDiff, Nat.reduceLT, Nat.reduceSub, Int.reduceToNat, reduceIte, reduceCtorEq]; exact rfl)); all_goals (intro hc; (try simp only [decide_eq_true_eq, decide_eq_false_iff_not, Bool.not_eq_true', Bool.not_eq_false', Bool.not_eq_true, reduceCtorEq] at hc); (try (exfalso; omega))))
    | (refine a_guardT (t := ?_) ?_ ?_ fun Kn hk => ?_; rotate_left; (focus exact rfl); (focus (simp only [go_sem, Nat.reduceEqDiff, Nat.reduceAdd, Nat.reduceLeDiff, Nat.reduceLT, Nat.reduceSub, Int.reduceToNat, reduceIte, reduceCtorEq]; done)); simp only [go_sem, Nat.reduceEqDiff, Nat.reduceAdd, Nat.reduceLeDiff, Nat.reduceLT, Nat.reduceSub, Int.reduceToNat, reduceIte, reduceCtorEq]; (repeat (refine And.intro ?_ ?_; focus (first | omega | assumption | with_reducible rfl | (simp only [go_sem, Nat.reduceEqDiff, Nat.reduceAdd, Nat.reduceLeDiff, Nat.reduceLT, Nat.reduceSub, Int.reduceToNat, reduceIte, reduceCtorEq]; done)))); refine hk _ _ _ ?_; clear hk Kn)
    | (refine a_guardF (t := ?_) (b := ?_) ?_ ?_ ?_ ?_; rotate_left 2; (focus exact rfl); (focus (simp only [go_sem, Nat.reduceEqDiff, Nat.reduceAdd, Nat.reduceLeDiff, Nat.reduceLT, Nat.reduceSub, Int.reduceToNat, reduceIte, reduceCtorEq]; exact rfl)); (focus decide))
    | (refine a_guardN (t := ?_) ?_ ?_ ?_; rotate_left; (focus exact rfl); (focus (simp only [go_sem, Nat.reduceEqDiff, Nat.reduceAdd, Nat.reduceLeDiff, Nat.reduceLT, Nat.reduceSub, Int.reduceToNat, reduceIte, reduceCtorEq]; done)))
    | (apply a_guardS; (focus exact rfl); (focus (simp only [go_sem, Nat.reduceEqDiff, Nat.reduceAdd, Nat.reduceLeDiff, Nat.reduceLT, Nat.reduceSub, Int.reduceToNat, reduceIte, reduceCtorEq]; exact rfl)); all_goals (intro hc; simp only [hc]; (try simp only [decide_eq_true_eq, decide_eq_false_iff_not, Bool.not_eq_true', Bool.not_eq_false', Bool.not_eq_true, reduceCtorEq] at hc); (try (exfalso; omega))))
    | (refine s_drawA ?_ ?_ ?_; (focus kernel_rfl); (focus kernel_rfl))
    | (refine c_nil ?_)
    | (refine c_guardT (t := ?_) ?_ ?_ fun Kn hk => ?_; rotate_left; (focus exact rfl); (focus (simp only [go_sem, Nat.reduceEqDiff, Nat.reduceAdd, Nat.reduceLeDiff, Nat.reduceLT, Nat.reduceSub, Int.reduceToNat, reduceIte, reduceCtorEq]; done)); simp only [go_sem, Nat.reduceEqDiff, Nat.reduceAdd, Nat.reduceLeDiff, Nat.reduceLT, Nat.reduceSub, Int.reduceToNat, reduceIte, reduceCtorEq]; (repeat (refine And.intro ?_ ?_; focus (first | omega | assumption | with_reducible rfl | (simp only [go_sem, Nat.reduceEqDiff, Nat.reduceAdd, Nat.reduceLeDiff, Nat.reduceLT, Nat.reduceSub, Int.reduceToNat, reduceIte, reduceCtorEq]; done)))); refine hk _ ?_; clear hk Kn)
    | (refine c_guardF (t := ?_) (b := ?_) ?_ ?_ ?_ ?_; rotate_left 2; (focus exact rfl); (focus (simp only [go_sem, Nat.reduceEqDiff, Nat.reduceAdd, Nat.reduceLeDiff, Nat.reduceLT, Nat.reduceSub, Int.reduceToNat, reduceIte, reduceCtorEq]; exact rfl)); (focus decide))
    | (refine c_guardN (t := ?_) ?_ ?_ ?_; rotate_left; (focus exact rfl); (focus (simp only [go_sem, Nat.reduceEqDiff, Nat.reduceAdd, Nat.reduceLeDiff, Nat.reduceLT, Nat.reduceSub, Int.reduceToNat, reduceIte, reduceCtorEq]; done)))
    | (apply c_guardS; (focus exact rfl); (focus (simp only [go_sem, Nat.reduceEqDiff, Nat.reduceAdd, Nat.reduceLeDiff, Nat.reduceLT, Nat.reduceSub, Int.reduceToNat, reduceIte, reduceCtorEq]; exact rfl)); all_goals (intro hc; simp only [hc]; (try simp only [decide_eq_true_eq, decide_eq_false_iff_not, Bool.not_eq_true', Bool.not_eq_false', Bool.not_eq_true, reduceCtorEq] at hc); (try (exfalso; omega))))
    | (refine c_some fun Kn hk => ?_; simp only [go_sem, Nat.reduceEqDiff, Nat.reduceAdd, Nat.reduceLeDiff, Nat.reduceLT, Nat.reduceSub, Int.reduceToNat, reduceIte, reduceCtorEq]; (repeat (refine And.intro ?_ ?_; focus (first | omega | assumption | with_reducible rfl | (simp only [go_sem, Nat.reduceEqDiff, Nat.reduceAdd, Nat.reduceLeDiff, Nat.reduceLT, Nat.reduceSub, Int.reduceToNat, reduceIte, reduceCtorEq]; done)))); refine hk _ ?_; clear hk Kn))
  ((first | refine fin_ret ?_ | refine fin_end ?_); simp only [go_sem, Nat.reduceEqDiff, Nat.reduceAdd, reduceIte, reduceCtorEq])
  exact hK
theorem hexU_at (n : Nat) : ([48, 49, 50, 51, 52, 53, 54, 55, 56, 57, 65, 66, 67, 68, 69, 70] : Bs).getD n 0 = hexU.getD n 0 := rfl
theorem shr4 (b : UInt8) : ((b.toNat : Int) / 16).toNat = b.toNat / 16 := by omega
theorem and15' (b : UInt8) : ((b.toNat : Int) % 16).toNat = b.toNat % 16 := by omega
@[go_sem] def pctC : PC := rel (α := Bs × Bs) (fun x => [.str x.1, .str x.2]) (fun x => x.1.length ≤ 1099511627776 ∧ x.2.length ≤ 1099511627776) (fun x => .str (pctS x.2 x.1))
set_option maxHeartbeats 4000000 in
theorem pct_i : PureOk Try.prog 129 pctC := by
  refine pure_relA 2 (tabA_cons wstr_ok (tabA_cons wbyte_ok (tabA_cons bstr_ok (tabA_nil (Γof_ok (tab_cons let_i (tab_cons digb_i (tab_cons has_i tab_nil)))))))) (tab_cons let_i (tab_cons digb_i (tab_cons has_i tab_nil))) mixed [.tmp 4] Try.func129 rfl rfl (by kernel_rfl) (by kernel_rfl) (fun _ => rfl) (by kernel_rfl) ?_
  rintro ⟨s, keep⟩ K ⟨hl, hl'⟩ hK
  dsimp only at *
  unfold entry
  repeat' (first
    | (refine s_seq ?_)
    | (refine s_block ?_)
    | (refine s_region ?_)
    | (refine a_nil ?_)
    | (refine a_some fun Kn hk => ?_; simp only [go_sem, Nat.reduceEqDiff, Nat.reduceAdd, Nat.reduceLeDiff, Nat.reduceLT, Nat.reduceSub, Int.reduceToNat, reduceIte, reduceCtorEq]; (repeat (refine And.intro ?_ ?_; focus (first | omega | assumption | with_reducible rfl | (simp only [go_sem, Nat.reduceEqDiff, Nat.reduceAdd, Nat.reduceLeDiff, Nat.reduceLT, Nat.reduceSub, Int.reduceToNat, reduceIte, reduceCtorEq]; done)))); refine hk _ _ _ ?_; clear hk Kn)
    | (refine a_none fun Kn hk => ?_; simp only [go_sem, Nat.reduceEqDiff, Nat.reduceAdd, Nat.reduceLeDiff, Nat.reduceLT, Nat.reduceSub, Int.reduceToNat, reduceIte, reduceCtorEq]; (repeat (refine And.intro ?_ ?_; focus (first | omega | assumption | with_reducible rfl | (simp only [go_sem, Nat.reduceEqDiff, Nat.reduceAdd, Nat.reduceLeDiff, Nat.reduceLT, Nat.reduceSub, Int.reduceToNat, reduceIte, reduceCtorEq]; done)))); refine hk _ _ _ ?_; clear hk Kn)
    | (refine q_then ?_)
    | (refine q_thenE ?_) | (refine q_thenR ?_) | (refine q_blk ?_) | (refine q_blkE ?_) | (refine q_blkO ?_ ?_; (focus decide)) | (refine q_blkR ?_)
    | (refine s_skip ?_) | (refine s_ret ?_) | (refine s_exit ?_)
    | (refine s_condT ?_ ?_; (focus (simp only [go_sem, Nat.reduceEqDiff, Nat.reduceAdd, Nat.reduceLeDiff, Nat.reduceLT, Nat.reduceSub, Int.reduceToNat, reduceIte, reduceCtorEq]; done))) | (refine s_condF ?_ ?_; (focus (simp only [go_sem, Nat.reduceEqDiff, Nat.reduceAdd, Nat.reduceLeDiff, Nat.reduceLT, Nat.reduceSub, Int.reduceToNat, reduceIte, reduceCtorEq]; done)))
    | (apply s_cond; (focus (simp only [go_sem, Nat.reduceEqDiff, Nat.reduceAdd, Nat.reduceLeDiff, Nat.reduceLT, Nat.reduceSub, Int.reduceToNat, reduceIte, reduceCtorEq]; exact rfl)); all_goals (intro hc; (try simp only [decide_eq_true_eq, decide_eq_false_iff_not, Bool.not_eq_true', Bool.not_eq_false', Bool.not_eq_true, reduceCtorEq] at hc); (try (exfalso; omega))))
    | (refine a_guardT (t := ?_) ?_ ?_ fun Kn hk => ?_; rotate_left; (focus exact rfl); (focus (simp only [go_sem, Nat.reduceEqDiff, Nat.reduceAdd, Nat.reduceLeDiff, Nat.reduceLT, Nat.reduceSub, Int.reduceToNat, reduceIte, reduceCtorEq]; done)); simp only [go_sem, Nat.reduceEqDiff, Nat.reduceAdd, Nat.reduceLeDiff, Nat.reduceLT, Nat.reduceSub, Int.reduceToNat, reduceIte, reduceCtorEq]; (repeat (refine And.intro ?_ ?_; focus (first | omega | assumption | with_reducible rfl | (simp only [go_sem, Nat.reduceEqDiff, Nat.reduceAdd, Nat.reduceLeDiff, Nat.reduceLT, Nat.reduceSub, Int.reduceToNat, reduceIte, reduceCtorEq]; done)))); refine hk _ _ _ ?_; clear hk Kn)
    | (refine a_guardF (t := ?_) (b := ?_) ?_ ?_ ?_ ?_; rotate_left 2; (focus exact rfl); (focus (simp only [go_sem, Nat.reduceEqDiff, Nat.reduceAdd, Nat.reduceLeDiff, Nat.reduceLT, Nat.reduceSub, Int.reduceToNat, reduceIte, reduceCtorEq]; exact rfl)); (focus decide))
    | (refine a_guardN (t := ?_) ?_ ?_ ?_; rotate_left; (focus exact rfl); (focus (simp only [go_sem, Nat.reduceEqDiff, Nat.reduceAdd, Nat.reduceLeDiff, Nat.reduceLT, Nat.reduceSub, Int.reduceToNat, reduceIte, reduceCtorEq]; done)))
    | (apply a_guardS; (focus exact rfl); (focus (simp only [go_sem, Nat.reduceEqDiff, Nat.reduceAdd, Nat.reduceLeDiff, Nat.reduceLT, Nat.reduceSub, Int.reduceToNat, reduceIte, reduceCtorEq]; exact rfl)); all_goals (intro hc; simp only [hc]; (try simp only [decide_eq_true_eq, decide_eq_false_iff_not, Bool.not_eq_true', Bool.not_eq_false', Bool.not_eq_true, reduceCtorEq] at hc); (try (exfalso; omega))))
    | (refine s_drawA ?_ ?_ ?_; (focus kernel_rfl); (focus kernel_rfl))
    | (refine c_nil ?_)
    | (refine c_guardT (t := ?_) ?_ ?_ fun Kn hk => ?_; rotate_left; (focus exact rfl); (focus (simp only [go_sem, Nat.reduceEqDiff, Nat.reduceAdd, Nat.reduceLeDiff, Nat.reduceLT, Nat.reduceSub, Int.reduceToNat, reduceIte, reduceCtorEq]; done)); simp only [go_sem, Nat.reduceEqDiff, Nat.reduceAdd, Nat.reduceLeDiff, Nat.reduceLT, Nat.reduceSub, Int.reduceToNat, reduceIte, reduceCtorEq]; (repeat (refine And.intro ?_ ?_; focus (first | omega | assumption | with_reducible rfl | (simp only [go_sem, Nat.reduceEqDiff, Nat.reduceAdd, Nat.reduceLeDiff, Nat.reduceLT, Nat.reduceSub, Int.reduceToNat, reduceIte, reduceCtorEq]; done)))); refine hk _ ?_; clear hk Kn)
    | (refine c_guardF (t := ?_) (b := ?_) ?_ ?_ ?_ ?_; rotate_left 2; (focus exact rfl); (focus (simp only [go_sem, Nat.reduceEqDiff, Nat.reduceAdd, Nat.reduceLeDiff, Nat.reduceLT, Nat.reduceSub, Int.reduceToNat, reduceIte, reduceCtorEq]; exact rfl)); (focus decide))
    | (refine c_guardN (t := ?_) ?_ ?_ ?_; rotate_left; (focus exact rfl); (focus (simp only [go_sem, Nat.reduceEqDiff, Nat.reduceAdd, Nat.reduceLeDiff, Nat.reduceLT, Nat.reduceSub, Int.reduceToNat, reduceIte, reduceCtorEq]; done)))
    | (apply c_guardS; (focus exact rfl); (focus (simp only [go_sem, Nat.reduceEqDiff, Nat.reduceAdd, Nat.reduceLeDiff, Nat.reduceLT, Nat.reduceSub, Int.reduceToNat, reduceIte, reduceCtorEq]; exact rfl)); all_goals (intro hc; simp only [hc]; (try simp only [decide_eq_true_eq, decide_eq_false_iff_not, Bool.not_eq_true', Bool.not_eq_false', Bool.not_eq_true, reduceCtorEq] at hc); (try (exfalso; omega))))
    | (refine c_some fun Kn hk => ?_; simp only [go_sem, Nat.reduceEqDiff, Nat.reduceAdd, Nat.reduceLeDiff, Nat.reduceLT, Nat.reduceSub, Int.reduceToNat, reduceIte, reduceCtorEq]; (repeat (refine And.intro ?_ ?_; focus (first | omega | assumption | with_reducible rfl | (simp only [go_sem, Nat.reduceEqDiff, Nat.reduceAdd, Nat.reduceLeDiff, Nat.reduceLT, Nat.reduceSub, Int.reduceToNat, reduceIte, reduceCtorEq]; done)))); refine hk _ ?_; clear hk Kn))
  refine s_loop (ι := Nat) (fun k => [(0, .str s), (1, .str keep), (5, .ref 0 0), (6, .int .i64 k)]) (fun k => [(0, .gen bld [.str (pctS keep (s.take k))])]) 1 (fun k => k ≤ s.length) (fun k => s.length - k) 0 (by omega) (by omega) ?_ ?_
  · simp [fits, fitsT, fitsM, upd_def, PV.nmb, nmbL, MB.nmb, List.getD_cons_zero, List.getD_cons_succ, pctS]
  intro k hk
  have hbl := byte_lt s k
  have hx1 := byte_lt hexU ((s.getD k 0).toNat / 16)
  have hx2 := byte_lt hexU ((s.getD k 0).toNat % 16)
  have hL1 := pctS_len keep (s.take k)
  rw [List.length_take_of_le hk] at hL1
  simp only [mkS, mkT, mkM]
  repeat' (first
    | (refine s_seq ?_)
    | (refine s_block ?_)
    | (refine s_region ?_)
    | (refine a_nil ?_)
    | (refine a_some fun Kn hk => ?_; simp only [go_sem, Nat.reduceEqDiff, Nat.reduceAdd, Nat.reduceLeDiff, Nat.reduceLT, Nat.reduceSub, Int.reduceToNat, reduceIte, reduceCtorEq, hexU_at, shr4, and15', List.length_append]; (repeat (refine And.intro ?_ ?_; focus (first | omega | assumption | with_reducible rfl | (simp only [go_sem, Nat.reduceEqDiff, Nat.reduceAdd, Nat.reduceLeDiff, Nat.reduceLT, Nat.reduceSub, Int.reduceToNat, reduceIte, reduceCtorEq, hexU_at, shr4, and15', List.length_append]; done)))); refine hk _ _ _ ?_; clear hk Kn)
    | (refine a_none fun Kn hk => ?_; simp only [go_sem, Nat.reduceEqDiff, Nat.reduceAdd, Nat.reduceLeDiff, Nat.reduceLT, Nat.reduceSub, Int.reduceToNat, reduceIte, reduceCtorEq, hexU_at, shr4, and15', List.length_append]; (repeat (refine And.intro ?_ ?_; focus (first | omega | assumption | with_reducible rfl | (simp only [go_sem, Nat.reduceEqDiff, Nat.reduceAdd, Nat.reduceLeDiff, Nat.reduceLT, Nat.reduceSub, Int.reduceToNat, reduceIte, reduceCtorEq, hexU_at, shr4, and15', List.length_append]; done)))); refine hk _ _ _ ?_; clear hk Kn)
    | (refine q_then ?_)
    | (refine q_thenE ?_) | (refine q_thenR ?_) | (refine q_blk ?_) | (refine q_blkE ?_) | (refine q_blkO ?_ ?_; (focus decide)) | (refine q_blkR ?_)
    | (refine s_skip ?_) | (refine s_ret ?_) | (refine s_exit ?_)
    | (refine s_condT ?_ ?_; (focus (simp only [go_sem, Nat.reduceEqDiff, Nat.reduceAdd, Nat.reduceLeDiff, Nat.reduceLT, Nat.reduceSub, Int.reduceToNat, reduceIte, reduceCtorEq, hexU_at, shr4, and15', List.length_append]; done))) | (refine s_condF ?_ ?_; (focus (simp only [go_sem, Nat.reduceEqDiff, Nat.reduceAdd, Nat.reduceLeDiff, Nat.reduceLT, Nat.reduceSub, Int.reduceToNat, reduceIte, reduceCtorEq, hexU_at, shr4, and15', List.length_append]; done)))
    | (apply s_cond; (focus (simp only [go_sem, Nat.reduceEqDiff, Nat.reduceAdd, Nat.reduceLeDiff, Nat.reduceLT, Nat.reduceSub, Int.reduceToNat, reduceIte, reduceCtorEq, hexU_at, shr4, and15', List.length_append]; exact rfl)); all_goals (intro hc; (try simp only [decide_eq_true_eq, decide_eq_false_iff_not, Bool.not_eq_true', Bool.not_eq_false', Bool.not_eq_true, reduceCtorEq] at hc); (try (exfalso; omega))))
    | (refine a_guardT (t := ?_) ?_ ?_ fun Kn hk => ?_; rotate_left; (focus exact rfl); (focus (simp only [go_sem, Nat.reduceEqDiff, Nat.reduceAdd, Nat.reduceLeDiff, Nat.reduceLT, Nat.reduceSub, Int.reduceToNat, reduceIte, reduceCtorEq, hexU_at, shr4, and15', List.length_append]; done)); simp only [go_sem, Nat.reduceEqDiff, Nat.reduceAdd, Nat.reduceLeDiff, Nat.reduceLT, Nat.reduceSub, Int.reduceToNat, reduceIte, reduceCtorEq, hexU_at, shr4, and15', List.length_append]; (repeat (refine And.intro ?_ ?_; focus (first | omega | assumption | with_reducible rfl | (simp only [go_sem, Nat.reduceEqDiff, Nat.reduceAdd, Nat.reduceLeDiff, Nat.reduceLT, Nat.reduceSub, Int.reduceToNat, reduceIte, reduceCtorEq, hexU_at, shr4, and15', List.length_append]; done)))); refine hk _ _ _ ?_; clear hk Kn)
    | (refine a_guardF (t := ?_) (b := ?_) ?_ ?_ ?_ ?_; rotate_left 2; (focus exact rfl); (focus (simp only [go_sem, Nat.reduceEqDiff, Nat.reduceAdd, Nat.reduceLeDiff, Nat.reduceLT, Nat.reduceSub, Int.reduceToNat, reduceIte, reduceCtorEq, hexU_at, shr4, and15', List.length_append]; exact rfl)); (focus decide))
    | (refine a_guardN (t := ?_) ?_ ?_ ?_; rotate_left; (focus exact rfl); (focus (simp only [go_sem, Nat.reduceEqDiff, Nat.reduceAdd, Nat.reduceLeDiff, Nat.reduceLT, Nat.reduceSub, Int.reduceToNat, reduceIte, reduceCtorEq, hexU_at, shr4, and15', List.length_append]; done)))
    | (apply a_guardS; (focus exact rfl); (focus (simp only [go_sem, Nat.reduceEqDiff, Nat.reduceAdd, Nat.reduceLeDiff, Nat.reduceLT, Nat.reduceSub, Int.reduceToNat, reduceIte, reduceCtorEq, hexU_at, shr4, and15', List.length_append]; exact rfl)); all_goals (intro hc; simp only [hc]; (try simp only [decide_eq_true_eq, decide_eq_false_iff_not, Bool.not_eq_true', Bool.not_eq_false', Bool.not_eq_true, reduceCtorEq] at hc); (try (exfalso; omega))))
    | (refine s_drawA ?_ ?_ ?_; (focus kernel_rfl); (focus kernel_rfl))
    | (refine c_nil ?_)
    | (refine c_guardT (t := ?_) ?_ ?_ fun Kn hk => ?_; rotate_left; (focus exact rfl); (focus (simp only [go_sem, Nat.reduceEqDiff, Nat.reduceAdd, Nat.reduceLeDiff, Nat.reduceLT, Nat.reduceSub, Int.reduceToNat, reduceIte, reduceCtorEq, hexU_at, shr4, and15', List.length_append]; done)); simp only [go_sem, Nat.reduceEqDiff, Nat.reduceAdd, Nat.reduceLeDiff, Nat.reduceLT, Nat.reduceSub, Int.reduceToNat, reduceIte, reduceCtorEq, hexU_at, shr4, and15', List.length_append]; (repeat (refine And.intro ?_ ?_; focus (first | omega | assumption | with_reducible rfl | (simp only [go_sem, Nat.reduceEqDiff, Nat.reduceAdd, Nat.reduceLeDiff, Nat.reduceLT, Nat.reduceSub, Int.reduceToNat, reduceIte, reduceCtorEq, hexU_at, shr4, and15', List.length_append]; done)))); refine hk _ ?_; clear hk Kn)
    | (refine c_guardF (t := ?_) (b := ?_) ?_ ?_ ?_ ?_; rotate_left 2; (focus exact rfl); (focus (simp only [go_sem, Nat.reduceEqDiff, Nat.reduceAdd, Nat.reduceLeDiff, Nat.reduceLT, Nat.reduceSub, Int.reduceToNat, reduceIte, reduceCtorEq, hexU_at, shr4, and15', List.length_append]; exact rfl)); (focus decide))
    | (refine c_guardN (t := ?_) ?_ ?_ ?_; rotate_left; (focus exact rfl); (focus (simp only [go_sem, Nat.reduceEqDiff, Nat.reduceAdd, Nat.reduceLeDiff, Nat.reduceLT, Nat.reduceSub, Int.reduceToNat, reduceIte, reduceCtorEq, hexU_at, shr4, and15', List.length_append]; done)))
    | (apply c_guardS; (focus exact rfl); (focus (simp only [go_sem, Nat.reduceEqDiff, Nat.reduceAdd, Nat.reduceLeDiff, Nat.reduceLT, Nat.reduceSub, Int.reduceToNat, reduceIte, reduceCtorEq, hexU_at, shr4, and15', List.length_append]; exact rfl)); all_goals (intro hc; simp only [hc]; (try simp only [decide_eq_true_eq, decide_eq_false_iff_not, Bool.not_eq_true', Bool.not_eq_false', Bool.not_eq_true, reduceCtorEq] at hc); (try (exfalso; omega))))
    | (refine c_some fun Kn hk => ?_; simp only [go_sem, Nat.reduceEqDiff, Nat.reduceAdd, Nat.reduceLeDiff, Nat.reduceLT, Nat.reduceSub, Int.reduceToNat, reduceIte, reduceCtorEq, hexU_at, shr4, and15', List.length_append]; (repeat (refine And.intro ?_ ?_; focus (first | omega | assumption | with_reducible rfl | (simp only [go_sem, Nat.reduceEqDiff, Nat.reduceAdd, Nat.reduceLeDiff, Nat.reduceLT, Nat.reduceSub, Int.reduceToNat, reduceIte, reduceCtorEq, hexU_at, shr4, and15', List.length_append]; done)))); refine hk _ ?_; clear hk Kn))
  all_goals first
    | (refine s_again (k + 1) ?_ ?_ ?_ <;> (first | omega | (dsimp only; omega) | skip)
       have hS : pctS keep (s.take (k + 1)) = pctS keep (s.take k) ++ pctW keep (s.getD k 0) := flatMap_snoc (by omega)
       rw [hS]
       clear hK
       generalize s.getD k 0 = b at *
       simp [fits, fitsT, fitsM, upd_def, PV.nmb, nmbL, MB.nmb, List.getD_cons_zero, List.getD_cons_succ, pctW, pct1, *]
       done)
    | (((first | refine fin_ret ?_ | refine fin_end ?_); simp only [go_sem, Nat.reduceEqDiff, Nat.reduceAdd, reduceIte, reduceCtorEq])
       rw [List.take_of_length_le (by omega)]
       exact hK)
theorem escP_i : PureOk Try.prog 110 (tC fun s => .str (pctS keep3 s)) := by
  refine pure_rel 1 (tab_cons pct_i tab_nil) mixed [.tmp 2] Try.func110 rfl rfl (by kernel_rfl) (by kernel_rfl) (fun _ => rfl) (by kernel_rfl) ?_
  rintro s K hl hK
  unfold entry
  repeat' (first
    | (refine s_seq ?_)
    | (refine s_block ?_)
    | (refine s_region ?_)
    | (refine a_nil ?_)
    | (refine a_some fun Kn hk => ?_; simp only [go_sem, Nat.reduceEqDiff, Nat.reduceAdd, Nat.reduceLeDiff, Nat.reduceLT, Nat.reduceSub, Int.reduceToNat, reduceIte, reduceCtorEq]; (repeat (refine And.intro ?_ ?_; focus (first | omega | assumption | with_reducible rfl | (simp only [go_sem, Nat.reduceEqDiff, Nat.reduceAdd, Nat.reduceLeDiff, Nat.reduceLT, Nat.reduceSub, Int.reduceToNat, reduceIte, reduceCtorEq]; done)))); refine hk _ _ _ ?_; clear hk Kn)
    | (refine a_none fun Kn hk => ?_; simp only [go_sem, Nat.reduceEqDiff, Nat.reduceAdd, Nat.reduceLeDiff, Nat.reduceLT, Nat.reduceSub, Int.reduceToNat, reduceIte, reduceCtorEq]; (repeat (refine And.intro ?_ ?_; focus (first | omega | assumption | with_reducible rfl | (simp only [go_sem, Nat.reduceEqDiff, Nat.reduceAdd, Nat.reduceLeDiff, Nat.reduceLT, Nat.reduceSub, Int.reduceToNat, reduceIte, reduceCtorEq]; done)))); refine hk _ _ _ ?_; clear hk Kn)
    | (refine q_then ?_)
    | (refine q_thenE ?_) | (refine q_thenR ?_) | (refine q_blk ?_) | (refine q_blkE ?_) | (refine q_blkO ?_ ?_; (focus decide)) | (refine q_blkR ?_)
    | (refine s_skip ?_) | (refine s_ret ?_) | (refine s_exit ?_)
    | (refine s_condT ?_ ?_; (focus (simp only [go_sem, Nat.reduceEqDiff, Nat.reduceAdd, Nat.reduceLeDiff, Nat.reduceLT, Nat.reduceSub, Int.reduceToNat, reduceIte, reduceCtorEq]; done))) | (refine s_condF ?_ ?_; (focus (simp only [go_sem, Nat.reduceEqDiff, Nat.reduceAdd, Nat.reduceLeDiff, Nat.reduceLT, Nat.reduceSub, Int.reduceToNat, reduceIte, reduceCtorEq]; done)))
    | (apply s_cond; (focus (simp only [go_sem, Nat.reduceEqDiff, Nat.reduceAdd, Nat.reduceLeDiff, Nat.reduceLT, Nat.reduceSub, Int.reduceToNat, reduceIte, reduceCtorEq]; exact rfl)); all_goals (intro hc; (try simp only [decide_eq_true_eq, decide_eq_false_iff_not, Bool.not_eq_true', Bool.not_eq_false', Bool.not_eq_true, reduceCtorEq] at hc); (try (exfalso; omega))))
    | (refine a_guardT (t := ?_) ?_ ?_ fun Kn hk => ?_; rotate_left; (focus exact rfl); (focus (simp only [go_sem, Nat.reduceEqDiff, Nat.reduceAdd, Nat.reduceLeDiff, Nat.reduceLT, Nat.reduceSub, Int.reduceToNat, reduceIte, reduceCtorEq]; done)); simp only [go_sem, Nat.reduceEqDiff, Nat.reduceAdd, Nat.reduceLeDiff, Nat.reduceLT, Nat.reduceSub, Int.reduceToNat, reduceIte, reduceCtorEq]; (repeat (refine And.intro ?_ ?_; focus (first | omega | assumption | with_reducible rfl | (simp only [go_sem, Nat.reduceEqDiff, Nat.reduceAdd, Nat.reduceLeDiff, Nat.reduceLT, Nat.reduceSub, Int.reduceToNat, reduceIte, reduceCtorEq]; done)))); refine hk _ _ _ ?_; clear hk Kn)
    | (refine a_guardF (t := ?_) (b := ?_) ?_ ?_ ?_ ?_; rotate_left 2; (focus exact rfl); (focus (simp only [go_sem, Nat.reduceEqDiff, Nat.reduceAdd, Nat.reduceLeDiff, Nat.reduceLT, Nat.reduceSub, Int.reduceToNat, reduceIte, reduceCtorEq]; exact rfl)); (focus decide))
    | (refine a_guardN (t := ?_) ?_ ?_ ?_; rotate_left; (focus exact rfl); (focus (simp only [go_sem, Nat.reduceEqDiff, Nat.reduceAdd, Nat.reduceLeDiff, Nat.reduceLT, Nat.reduceSub, Int.reduceToNat, reduceIte, reduceCtorEq]; done)))
    | (apply a_guardS; (focus exact rfl); (focus (simp only [go_sem, Nat.reduceEqDiff, Nat.reduceAdd, Nat.reduceLeDiff, Nat.reduceLT, Nat.reduceSub, Int.reduceToNat, reduceIte, reduceCtorEq]; exact rfl)); all_goals (intro hc; simp only [hc]; (try simp only [decide_eq_true_eq, decide_eq_false_iff_not, Bool.not_eq_true', Bool.not_eq_false', Bool.not_eq_true, reduceCtorEq] at hc); (try (exfalso; omega))))
    | (refine s_drawA ?_ ?_ ?_; (focus kernel_rfl); (focus kernel_rfl))
    | (refine c_nil ?_)
    | (refine c_guardT (t := ?_) ?_ ?_ fun Kn hk => ?_; rotate_left; (focus exact rfl); (focus (simp only [go_sem, Nat.reduceEqDiff, Nat.reduceAdd, Nat.reduceLeDiff, Nat.reduceLT, Nat.reduceSub, Int.reduceToNat, reduceIte, reduceCtorEq]; done)); simp only [go_sem, Nat.reduceEqDiff, Nat.reduceAdd, Nat.reduceLeDiff, Nat.reduceLT, Nat.reduceSub, Int.reduceToNat, reduceIte, reduceCtorEq]; (repeat (refine And.intro ?_ ?_; focus (first | omega | assumption | with_reducible rfl | (simp only [go_sem, Nat.reduceEqDiff, Nat.reduceAdd, Nat.reduceLeDiff, Nat.reduceLT, Nat.reduceSub, Int.reduceToNat, reduceIte, reduceCtorEq]; done)))); refine hk _ ?_; clear hk Kn)
    | (refine c_guardF (t := ?_) (b := ?_) ?_ ?_ ?_ ?_; rotate_left 2; (focus exact rfl); (focus (simp only [go_sem, Nat.reduceEqDiff, Nat.reduceAdd, Nat.reduceLeDiff, Nat.reduceLT, Nat.reduceSub, Int.reduceToNat, reduceIte, reduceCtorEq]; exact rfl)); (focus decide))
    | (refine c_guardN (t := ?_) ?_ ?_ ?_; rotate_left; (focus exact rfl); (focus (simp only [go_sem, Nat.reduceEqDiff, Nat.reduceAdd, Nat.reduceLeDiff, Nat.reduceLT, Nat.reduceSub, Int.reduceToNat, reduceIte, reduceCtorEq]; done)))
    | (apply c_guardS; (focus exact rfl); (focus (simp only [go_sem, Nat.reduceEqDiff, Nat.reduceAdd, Nat.reduceLeDiff, Nat.reduceLT, Nat.reduceSub, Int.reduceToNat, reduceIte, reduceCtorEq]; exact rfl)); all_goals (intro hc; simp only [hc]; (try simp only [decide_eq_true_eq, decide_eq_false_iff_not, Bool.not_eq_true', Bool.not_eq_false', Bool.not_eq_true, reduceCtorEq] at hc); (try (exfalso; omega))))
    | (refine c_some fun Kn hk => ?_; simp only [go_sem, Nat.reduceEqDiff, Nat.reduceAdd, Nat.reduceLeDiff, Nat.reduceLT, Nat.reduceSub, Int.reduceToNat, reduceIte, reduceCtorEq]; (repeat (refine And.intro ?_ ?_; focus (first | omega | assumption | with_reducible rfl | (simp only [go_sem, Nat.reduceEqDiff, Nat.reduceAdd, Nat.reduceLeDiff, Nat.reduceLT, Nat.reduceSub, Int.reduceToNat, reduceIte, reduceCtorEq]; done)))); refine hk _ ?_; clear hk Kn))
  ((first | refine fin_ret ?_ | refine fin_end ?_); simp only [go_sem, Nat.reduceEqDiff, Nat.reduceAdd, reduceIte, reduceCtorEq])
  exact hK
theorem cut1 {l : Bs} {n : Nat} {i : Int} (hi : i = n) (h : n < l.length) : List.drop i.toNat (List.take (i + 1).toNat l) = [l.getD n 0] := by
  subst hi
  rw [show ((n : Int) + 1).toNat = n + 1 by omega, Int.toNat_natCast, take_succ_getD h, List.drop_append_of_le_length (by simp; omega), List.drop_of_length_le (by simp; omega)]
  rfl
set_option maxHeartbeats 4000000 in
theorem hex3_s : PureOk Try.prog 102 (byC fun b => .str (pct1 b)) := by
  refine pure_rel 1 tab_nil mixed [.tmp 2] Try.func102 rfl rfl (by kernel_rfl) (by kernel_rfl) (fun _ => rfl) (by kernel_rfl) ?_
  rintro x K ⟨h0, h1⟩ hK
  obtain ⟨b, rfl⟩ := byte_of h0 h1
  simp only [ofI_nat] at hK
  have q1 := cut1 (l := hexU) (i := (b.toNat : Int) / 16) (n := b.toNat / 16) (by omega) (by show _ < 16; omega)
  have q2 := cut1 (l := hexU) (i := (b.toNat : Int) % 16) (n := b.toNat % 16) (by omega) (by show _ < 16; omega)
  unfold hexU at q1 q2
  unfold entry
  repeat' (first
    | (refine s_seq ?_)
    | (refine s_block ?_)
    | (refine s_region ?_)
    | (refine a_nil ?_)
    | (refine a_some fun Kn hk => ?_; simp only [go_sem, Nat.reduceEqDiff, Nat.reduceAdd, Nat.reduceLeDiff, Nat.reduceLT, Nat.reduceSub, Int.reduceToNat, reduceIte, reduceCtorEq, q1, q2]; (repeat (refine And.intro ?_ ?_; focus (first | omega | assumption | with_reducible rfl | (simp only [go_sem, Nat.reduceEqDiff, Nat.reduceAdd, Nat.reduceLeDiff, Nat.reduceLT, Nat.reduceSub, Int.reduceToNat, reduceIte, reduceCtorEq, q1, q2]; done)))); refine hk _ _ _ ?_; clear hk Kn)
    | (refine a_none fun Kn hk => ?_; simp only [go_sem, Nat.reduceEqDiff, Nat.reduceAdd, Nat.reduceLeDiff, Nat.reduceLT, Nat.reduceSub, Int.reduceToNat, reduceIte, reduceCtorEq, q1, q2]; (repeat (refine And.intro ?_ ?_; focus (first | omega | assumption | with_reducible rfl | (simp only [go_sem, Nat.reduceEqDiff, Nat.reduceAdd, Nat.reduceLeDiff, Nat.reduceLT, Nat.reduceSub, Int.reduceToNat, reduceIte, reduceCtorEq, q1, q2]; done)))); refine hk _ _ _ ?_; clear hk Kn)
    | (refine q_then ?_)
    | (refine q_thenE ?_) | (refine q_thenR ?_) | (refine q_blk ?_) | (refine q_blkE ?_) | (refine q_blkO ?_ ?_; (focus decide)) | (refine q_blkR ?_)
    | (refine s_skip ?_) | (refine s_ret ?_) | (refine s_exit ?_)
    | (refine s_condT ?_ ?_; (focus (simp only [go_sem, Nat.reduceEqDiff, Nat.reduceAdd, Nat.reduceLeDiff, Nat.reduceLT, Nat.reduceSub, Int.reduceToNat, reduceIte, reduceCtorEq, q1, q2]; done))) | (refine s_condF ?_ ?_; (focus (simp only [go_sem, Nat.reduceEqDiff, Nat.reduceAdd, Nat.reduceLeDiff, Nat.reduceLT, Nat.reduceSub, Int.reduceToNat, reduceIte, reduceCtorEq, q1, q2]; done)))
    | (apply s_cond; (focus (simp only [go_sem, Nat.reduceEqDiff, Nat.reduceAdd, Nat.reduceLeDiff, Nat.reduceLT, Nat.reduceSub, Int.reduceToNat, reduceIte, reduceCtorEq, q1, q2]; exact rfl)); all_goals (intro hc; (try simp only [decide_eq_true_eq, decide_eq_false_iff_not, Bool.not_eq_true', Bool.not_eq_false', Bool.not_eq_true, reduceCtorEq] at hc); (try (exfalso; omega))))
    | (refine a_guardT (t := ?_) ?_ ?_ fun Kn hk => ?_; rotate_left; (focus exact rfl); (focus (simp only [go_sem, Nat.reduceEqDiff, Nat.reduceAdd, Nat.reduceLeDiff, Nat.reduceLT, Nat.reduceSub, Int.reduceToNat, reduceIte, reduceCtorEq, q1, q2]; done)); simp only [go_sem, Nat.reduceEqDiff, Nat.reduceAdd, Nat.reduceLeDiff, Nat.reduceLT, Nat.reduceSub, Int.reduceToNat, reduceIte, reduceCtorEq, q1, q2]; (repeat (refine And.intro ?_ ?_; focus (first | omega | assumption | with_reducible rfl | (simp only [go_sem, Nat.reduceEqDiff, Nat.reduceAdd, Nat.reduceLeDiff, Nat.reduceLT, Nat.reduceSub, Int.reduceToNat, reduceIte, reduceCtorEq, q1, q2]; done)))); refine hk _ _ _ ?_; clear hk Kn)
    | (refine a_guardF (t := ?_) (b := ?_) ?_ ?_ ?_ ?_; rotate_left 2; (focus exact rfl); (focus (simp only [go_sem, Nat.reduceEqDiff, Nat.reduceAdd, Nat.reduceLeDiff, Nat.reduceLT, Nat.reduceSub, Int.reduceToNat, reduceIte, reduceCtorEq, q1, q2]; exact rfl)); (focus decide))
    | (refine a_guardN (t := ?_) ?_ ?_ ?_; rotate_left; (focus exact rfl); (focus (simp only [go_sem, Nat.reduceEqDiff, Nat.reduceAdd, Nat.reduceLeDiff, Nat.reduceLT, Nat.reduceSub, Int.reduceToNat, reduceIte, reduceCtorEq, q1, q2]; done)))
    | (apply a_guardS; (focus exact rfl); (focus (simp only [go_sem, Nat.reduceEqDiff, Nat.reduceAdd, Nat.reduceLeDiff, Nat.reduceLT, Nat.reduceSub, Int.reduceToNat, reduceIte, reduceCtorEq, q1, q2]; exact rfl)); all_goals (intro hc; simp only [hc]; (try simp only [decide_eq_true_eq, decide_eq_false_iff_not, Bool.not_eq_true', Bool.not_eq_false', Bool.not_eq_true, reduceCtorEq] at hc); (try (exfalso; omega))))
    | (refine s_drawA ?_ ?_ ?_; (focus kernel_rfl); (focus kernel_rfl))
    | (refine c_nil ?_)
    | (refine c_guardT (t := ?_) ?_ ?_ fun Kn hk => ?_; rotate_left; (focus exact rfl); (focus (simp only [go_sem, Nat.reduceEqDiff, Nat.reduceAdd, Nat.reduceLeDiff, Nat.reduceLT, Nat.reduceSub, Int.reduceToNat, reduceIte, reduceCtorEq, q1, q2]; done)); simp only [go_sem, Nat.reduceEqDiff, Nat.reduceAdd, Nat.reduceLeDiff, Nat.reduceLT, Nat.reduceSub, Int.reduceToNat, reduceIte, reduceCtorEq, q1, q2]; (repeat (refine And.intro ?_ ?_; focus (first | omega | assumption | with_reducible rfl | (simp only [go_sem, Nat.reduceEqDiff, Nat.reduceAdd, Nat.reduceLeDiff, Nat.reduceLT, Nat.reduceSub, Int.reduceToNat, reduceIte, reduceCtorEq, q1, q2]; done)))); refine hk _ ?_; clear hk Kn)
    | (refine c_guardF (t := ?_) (b := ?_) ?_ ?_ ?_ ?_; rotate_left 2; (focus exact rfl); (focus (simp only [go_sem, Nat.reduceEqDiff, Nat.reduceAdd, Nat.reduceLeDiff, Nat.reduceLT, Nat.reduceSub, Int.reduceToNat, reduceIte, reduceCtorEq, q1, q2]; exact rfl)); (focus decide))
    | (refine c_guardN (t := ?_) ?_ ?_ ?_; rotate_left; (focus exact rfl); (focus (simp only [go_sem, Nat.reduceEqDiff, Nat.reduceAdd, Nat.reduceLeDiff, Nat.reduceLT, Nat.reduceSub, Int.reduceToNat, reduceIte, reduceCtorEq, q1, q2]; done)))
    | (apply c_guardS; (focus exact rfl); (focus (simp only [go_sem, Nat.reduceEqDiff, Nat.reduceAdd, Nat.reduceLeDiff, Nat.reduceLT, Nat.reduceSub, Int.reduceToNat, reduceIte, reduceCtorEq, q1, q2]; exact rfl)); all_goals (intro hc; simp only [hc]; (try simp only [decide_eq_true_eq, decide_eq_false_iff_not, Bool.not_eq_true', Bool.not_eq_false', Bool.not_eq_true, reduceCtorEq] at hc); (try (exfalso; omega))))
    | (refine c_some fun Kn hk => ?_; simp only [go_sem, Nat.reduceEqDiff, Nat.reduceAdd, Nat.reduceLeDiff, Nat.reduceLT, Nat.reduceSub, Int.reduceToNat, reduceIte, reduceCtorEq, q1, q2]; (repeat (refine And.intro ?_ ?_; focus (first | omega | assumption | with_reducible rfl | (simp only [go_sem, Nat.reduceEqDiff, Nat.reduceAdd, Nat.reduceLeDiff, Nat.reduceLT, Nat.reduceSub, Int.reduceToNat, reduceIte, reduceCtorEq, q1, q2]; done)))); refine hk _ ?_; clear hk Kn))
  all_goals
    ((first | refine fin_ret ?_ | refine fin_end ?_); simp only [go_sem, Nat.reduceEqDiff, Nat.reduceAdd, reduceIte, reduceCtorEq])
    exact hK
set_option maxHeartbeats 4000000 in
theorem plain3_s : PureOk Try.prog 103 (byC fun b => .bool (plain3 b)) := by
  refine pure_rel 1 (tab_cons let_s (tab_cons digb_s tab_nil)) mixed [.tmp 2] Try.func103 rfl rfl (by kernel_rfl) (by kernel_rfl) (fun _ => rfl) (by kernel_rfl) ?_
  rintro x K ⟨h0, h1⟩ hK
  obtain ⟨b, rfl⟩ := byte_of h0 h1
  simp only [ofI_nat] at hK
  unfold entry
  repeat' (first
    | (refine s_seq ?_)
    | (refine s_block ?_)
    | (refine s_region ?_)
    | (refine a_nil ?_)
    | (refine a_some fun Kn hk => ?_; simp only [go_sem, Nat.reduceEqDiff, Nat.reduceAdd, Nat.reduceLeDiff, Nat.reduceLT, Nat.reduceSub, Int.reduceToNat, reduceIte, reduceCtorEq]; (repeat (refine And.intro ?_ ?_; focus (first | omega | assumption | with_reducible rfl | (simp only [go_sem, Nat.reduceEqDiff, Nat.reduceAdd, Nat.reduceLeDiff, Nat.reduceLT, Nat.reduceSub, Int.reduceToNat, reduceIte, reduceCtorEq]; done)))); refine hk _ _ _ ?_; clear hk Kn)
    | (refine a_none fun Kn hk => ?_; simp only [go_sem, Nat.reduceEqDiff, Nat.reduceAdd, Nat.reduceLeDiff, Nat.reduceLT, Nat.reduceSub, Int.reduceToNat, reduceIte, reduceCtorEq]; (repeat (refine And.intro ?_ ?_; focus (first | omega | assumption | with_reducible rfl | (simp only [go_sem, Nat.reduceEqDiff, Nat.reduceAdd, Nat.reduceLeDiff, Nat.reduceLT, Nat.reduceSub, Int.reduceToNat, reduceIte, reduceCtorEq]; done)))); refine hk _ _ _ ?_; clear hk Kn)
    | (refine q_then ?_)
    | (refine q_thenE ?_) | (refine q_thenR ?_) | (refine q_blk ?_) | (refine q_blkE ?_) | (refine q_blkO ?_ ?_; (focus decide)) | (refine q_blkR ?_)
    | (refine s_skip ?_) | (refine s_ret ?_) | (refine s_exit ?_)
    | (refine s_condT ?_ ?_; (focus (simp only [go_sem, Nat.reduceEqDiff, Nat.reduceAdd, Nat.reduceLeDiff, Nat.reduceLT, Nat.reduceSub, Int.reduceToNat, reduceIte, reduceCtorEq]; done))) | (refine s_condF ?_ ?_; (focus (simp only [go_sem, Nat.reduceEqDiff, Nat.reduceAdd, Nat.reduceLeDiff, Nat.reduceLT, Nat.reduceSub, Int.reduceToNat, reduceIte, reduceCtorEq]; done)))
    | (apply s_cond; (focus (simp only [go_sem, Nat.reduceEqDiff, Nat.reduceAdd, Nat.reduceLeDiff, Nat.reduceLT, Nat.reduceSub, Int.reduceToNat, reduceIte, reduceCtorEq]; exact rfl)); all_goals (intro hc; (try simp only [decide_eq_true_eq, decide_eq_false_iff_not, Bool.not_eq_true', Bool.not_eq_false', Bool.not_eq_true, reduceCtorEq] at hc); (try (exfalso; omega))))
    | (refine a_guardT (t := ?_) ?_ ?_ fun Kn hk => ?_; rotate_left; (focus exact rfl); (focus (simp only [go_sem, Nat.reduceEqDiff, Nat.reduceAdd, Nat.reduceLeDiff, Nat.reduceLT, Nat.reduceSub, Int.reduceToNat, reduceIte, reduceCtorEq]; done)); simp only [go_sem, Nat.reduceEqDiff, Nat.reduceAdd, Nat.reduceLeDiff, Nat.reduceLT, Nat.reduceSub, Int.reduceToNat, reduceIte, reduceCtorEq]; (repeat (refine And.intro ?_ ?_; focus (first | omega | assumption | with_reducible rfl | (simp only [go_sem, Nat.reduceEqDiff, Nat.reduceAdd, Nat.reduceLeDiff, Nat.reduceLT, Nat.reduceSub, Int.reduceToNat, reduceIte, reduceCtorEq]; done)))); refine hk _ _ _ ?_; clear hk Kn)
    | (refine a_guardF (t := ?_) (b := ?_) ?_ ?_ ?_ ?_; rotate_left 2; (focus exact rfl); (focus (simp only [go_sem, Nat.reduceEqDiff, Nat.reduceAdd, Nat.reduceLeDiff, Nat.reduceLT, Nat.reduceSub, Int.reduceToNat, reduceIte, reduceCtorEq]; exact rfl)); (focus decide))
    | (refine a_guardN (t := ?_) ?_ ?_ ?_; rotate_left; (focus exact rfl); (focus (simp only [go_sem, Nat.reduceEqDiff, Nat.reduceAdd, Nat.reduceLeDiff, Nat.reduceLT, Nat.reduceSub, Int.reduceToNat, reduceIte, reduceCtorEq]; done)))
    | (apply a_guardS; (focus exact rfl); (focus (simp only [go_sem, Nat.reduceEqDiff, Nat.reduceAdd, Nat.reduceLeDiff, Nat.reduceLT, Nat.reduceSub, Int.reduceToNat, reduceIte, reduceCtorEq]; exact rfl)); all_goals (intro hc; simp only [hc]; (try simp only [decide_eq_true_eq, decide_eq_false_iff_not, Bool.not_eq_true', Bool.not_eq_false', Bool.not_eq_true, reduceCtorEq] at hc); (try (exfalso; omega))))
    | (refine s_drawA ?_ ?_ ?_; (focus kernel_rfl); (focus kernel_rfl))
    | (refine c_nil ?_)
    | (refine c_guardT (t := ?_) ?_ ?_ fun Kn hk => ?_; rotate_left; (focus exact rfl); (focus (simp only [go_sem, Nat.reduceEqDiff, Nat.reduceAdd, Nat.reduceLeDiff, Nat.reduceLT, Nat.reduceSub, Int.reduceToNat, reduceIte, reduceCtorEq]; done)); simp only [go_sem, Nat.reduceEqDiff, Nat.reduceAdd, Nat.reduceLeDiff, Nat.reduceLT, Nat.reduceSub, Int.reduceToNat, reduceIte, reduceCtorEq]; (repeat (refine And.intro ?_ ?_; focus (first | omega | assumption | with_reducible rfl | (simp only [go_sem, Nat.reduceEqDiff, Nat.reduceAdd, Nat.reduceLeDiff, Nat.reduceLT, Nat.reduceSub, Int.reduceToNat, reduceIte, reduceCtorEq]; done)))); refine hk _ ?_; clear hk Kn)
    | (refine c_guardF (t := ?_) (b := ?_) ?_ ?_ ?_ ?_; rotate_left 2; (focus exact rfl); (focus (simp only [go_sem, Nat.reduceEqDiff, Nat.reduceAdd, Nat.reduceLeDiff, Nat.reduceLT, Nat.reduceSub, Int.reduceToNat, reduceIte, reduceCtorEq]; exact rfl)); (focus decide))
    | (refine c_guardN (t := ?_) ?_ ?_ ?_; rotate_left; (focus exact rfl); (focus (simp only [go_sem, Nat.reduceEqDiff, Nat.reduceAdd, Nat.reduceLeDiff, Nat.reduceLT, Nat.reduceSub, Int.reduceToNat, reduceIte, reduceCtorEq]; done)))
    | (apply c_guardS; (focus exact rfl); (focus (simp only [go_sem, Nat.reduceEqDiff, Nat.reduceAdd, Nat.reduceLeDiff, Nat.reduceLT, Nat.reduceSub, Int.reduceToNat, reduceIte, reduceCtorEq]; exact rfl)); all_goals (intro hc; simp only [hc]; (try simp only [decide_eq_true_eq, decide_eq_false_iff_not, Bool.not_eq_true', Bool.not_eq_false', Bool.not_eq_true, reduceCtorEq] at hc); (try (exfalso; omega))))
    | (refine c_some fun Kn hk => ?_; simp only [go_sem, Nat.reduceEqDiff, Nat.reduceAdd, Nat.reduceLeDiff, Nat.reduceLT, Nat.reduceSub, Int.reduceToNat, reduceIte, reduceCtorEq]; (repeat (refine And.intro ?_ ?_; focus (first | omega | assumption | with_reducible rfl | (simp only [go_sem, Nat.reduceEqDiff, Nat.reduceAdd, Nat.reduceLeDiff, Nat.reduceLT, Nat.reduceSub, Int.reduceToNat, reduceIte, reduceCtorEq]; done)))); refine hk _ ?_; clear hk Kn))
  all_goals
    ((first | refine fin_ret ?_ | refine fin_end ?_); simp only [go_sem, Nat.reduceEqDiff, Nat.reduceAdd, reduceIte, reduceCtorEq])
    refine K_bool hK ?_
    unfold plain3 hasB
    clear hK
    simp [*]
    try omega
    try simp only [decide_eq_decide, ← Bool.decide_or, eq_iff_iff]; omega
end Go.Proofs.Ytdehpafflbhadaa
