/- Contracts: entities read back, percent signs, script texts. -/
import Derived.Test.YtcagfbgplpokkaaX2
namespace Go.Proofs.Ytcagfbgplpokkaa
attribute [local irreducible] awp arun acalm FinP Fin AX.then AX.inBlock Again aG gsel amix amixN amixC aop aopc aopd cutK
attribute [local go_sem] aop aopc aopd aBSliceD aSlice aSliceC boundOf aMk evT upd_def aCall aCallC aLenL aLen aPick_t aPick_f aNil aAlloc aBox aBuild bldPV aBSlice bsPV aApp newsOf destOf drp aConvX aConv aConvInt aLoad cellsAt aStore cellsPV setAt aFld aField aIdx aIndex aUn aBin' aBin aMax aExtract pvOf PV.isCell nmbL PV.nmb List.map_cons List.map_nil List.all_cons List.all_nil Bool.and_true Bool.true_and if_true if_false List.getD_cons_zero List.getD_cons_succ List.getD_nil Option.isSome_some true_and and_true and_self eq_self true_or or_true List.drop_zero List.drop_succ_cons List.drop_nil List.take_zero List.take_succ_cons List.take_nil List.length_cons List.length_nil List.length_map Option.getD_some Option.getD_none List.nil_append List.cons_append List.append_nil Option.some.injEq exists_eq_left' List.getElem?_cons_zero List.getElem?_cons_succ Int.toNat_natCast Int.natCast_inj toNat_succ Nat.zero_add res res1 resC owns owns1 ownsC List.flatMap_cons List.flatMap_nil List.flatten_cons List.flatten_nil List.mem_cons List.not_mem_nil or_false false_or forall_eq forall_eq_or_imp isFro frz frz1 pureC tabA isBld List.cons.injEq PV.seq.injEq PV.int.injEq PV.str.injEq PV.bool.injEq PV.agg.injEq inR tab Γof aRes packR Option.map_some Option.map_none rel Prod.exists exists_and_left exists_eq_left and_assoc beq_self_eq_true Bool.not_true Bool.not_false decide_true decide_false List.set_cons_zero List.set_cons_succ rst_nil rst_cons
set_option maxRecDepth 100000
set_option linter.unusedVariables false
set_option linter.unusedSimpArgs false
open Go.RowKit

theorem unT_drop {s : Bs} {k : Nat} (h : k < s.length) : unT (s.drop k) = if (entAt (s.drop k)).2 = 0 then s.getD k 0 :: unT (s.drop (k + 1)) else (entAt (s.drop k)).1 :: unT (s.drop (k + (entAt (s.drop k)).2)) := by
  have e := drop_getD h
  rw [e, unT_cons, ← e, List.drop_drop]
theorem unT_end {s : Bs} {k : Nat} (h : ¬ k < s.length) : unT (s.drop k) = [] := by
  rw [List.drop_of_length_le (by omega)]; rfl
theorem entAt_drop (s : Bs) (k : Nat) : (entAt (s.drop k)).2 ≤ s.length - k ∧ (entAt (s.drop k)).2 ≤ 6 := by
  have := entAt_len (s.drop k)
  rwa [List.length_drop] at this
set_option maxHeartbeats 4000000 in
theorem un_i : PureOk Try.prog 102 (tC fun s => .str (unT s)) := by
  refine pure_relA 1 (tabA_cons wbyte_ok (tabA_cons bstr_ok (tabA_nil (Γof_ok (tab_cons at_i tab_nil))))) (tab_cons at_i tab_nil) mixed [.tmp 2] Try.func102 rfl rfl (by kernel_rfl) (by kernel_rfl) (fun _ => rfl) (by kernel_rfl) ?_
  rintro s K hl hK
  unfold entry
  repeat' (first | refine qw8 ?_ | refine qw1 ?_ | refine qw6 ?_ | refine qt1 ?_ | refine qw5 ?_ | refine qw2 ?_ | refine qw9 ?_ | refine qt2 ?_ | refine qt3 ?_ | refine qt4 ?_ | refine qt5 ?_ | refine qt6 ?_ | refine qw3 ?_ | refine qw4 ?_ | refine qj1 ?_ | refine qj2 ?_ | refine qj3 ?_ | refine qj4 ?_ | refine qj5 ?_ | refine qu1 ?_ | refine qu2 ?_ | refine qne ?_ | refine qyn ?_ | refine qyz ?_ | refine qy0 ?_ | refine qnt rfl rfl ?_ | refine qnf rfl rfl ?_ | refine qyc rfl ?_ | refine qy1 rfl ?_ | refine qy2 rfl ?_ ?_ | ((first | refine qa1 fun K hk => ?_ | refine qa2 fun K hk => ?_ | refine qa3 fun K hk => ?_ | refine qh1 fun K hk => ?_ | refine qh2 fun K hk => ?_ | refine qm1 fun K hk => ?_ | refine qm2 fun K hk => ?_ | refine qm3 fun K hk => ?_); simp only [go_sem, ↓upd_def, ↓evT, ↓aop, ↓aopc, ↓aopd, Nat.reduceEqDiff, Nat.reduceAdd, Nat.reduceLeDiff, Nat.reduceLT, Nat.reduceSub, Int.reduceToNat, ↓reduceIte, reduceCtorEq]; (repeat (refine And.intro ?_ ?_; focus (first | omega | assumption | with_reducible rfl | (simp only [go_sem, ↓upd_def, ↓evT, ↓aop, ↓aopc, ↓aopd, Nat.reduceEqDiff, Nat.reduceAdd, Nat.reduceLeDiff, Nat.reduceLT, Nat.reduceSub, Int.reduceToNat, ↓reduceIte, reduceCtorEq]; done)))); intros; apply hk; clear hk K) | ((first | apply qg1 rfl | apply qcd); focus (simp only [go_sem, ↓upd_def, ↓evT, ↓aop, ↓aopc, ↓aopd, Nat.reduceEqDiff, Nat.reduceAdd, Nat.reduceLeDiff, Nat.reduceLT, Nat.reduceSub, Int.reduceToNat, ↓reduceIte, reduceCtorEq]; exact rfl)) | (refine qj6 ?_ ?_ <;> intro hc <;> (try simp only [hc]) <;> (try simp only [decide_eq_true_eq, decide_eq_false_iff_not, Bool.not_eq_true', Bool.not_eq_false', Bool.not_eq_true, reduceCtorEq] at hc) <;> (try (exfalso; omega))) | (refine qk1 ?_ ?_; focus (repeat (first | exact qsub0 | (refine qsub1 ?_ ?_; focus (simp only [go_sem, ↓upd_def, ↓evT, ↓aop, ↓aopc, ↓aopd, Nat.reduceEqDiff, Nat.reduceAdd, Nat.reduceLeDiff, Nat.reduceLT, Nat.reduceSub, Int.reduceToNat, ↓reduceIte, reduceCtorEq]))))) | (refine qt7 ?_ ?_; focus decide) | (refine qw7 ?_ ?_ ?_; (focus (decide +kernel)); (focus (decide +kernel))))
  refine s_loop (ι := Nat × Bs) (fun i => [(0, .str s), (3, .ref 0 0), (4, .int .i64 i.1)]) (fun i => [(0, .gen bld [.str i.2])]) 1 (fun i => i.1 ≤ s.length ∧ i.2.length ≤ i.1 ∧ unT s = i.2 ++ unT (s.drop i.1)) (fun i => s.length - i.1) (0, []) (by omega) ⟨by simp, by simp, by simp⟩ ?_ ?_
  · simp [fits, fitsT, fitsM, upd_def, PV.nmb, nmbL, MB.nmb, List.getD_cons_zero, List.getD_cons_succ]
  rintro ⟨k, out⟩ ⟨hk, ho, hu⟩
  dsimp only at *
  have hbl := byte_lt s k
  have hel := entAt_drop s k
  have hel1 := byte_lt' (entAt (s.drop k)).1
  simp only [mkS, mkT, mkM]
  repeat' (first | refine qw8 ?_ | refine qw1 ?_ | refine qw6 ?_ | refine qt1 ?_ | refine qw5 ?_ | refine qw2 ?_ | refine qw9 ?_ | refine qt2 ?_ | refine qt3 ?_ | refine qt4 ?_ | refine qt5 ?_ | refine qt6 ?_ | refine qw3 ?_ | refine qw4 ?_ | refine qj1 ?_ | refine qj2 ?_ | refine qj3 ?_ | refine qj4 ?_ | refine qj5 ?_ | refine qu1 ?_ | refine qu2 ?_ | refine qne ?_ | refine qyn ?_ | refine qyz ?_ | refine qy0 ?_ | refine qnt rfl rfl ?_ | refine qnf rfl rfl ?_ | refine qyc rfl ?_ | refine qy1 rfl ?_ | refine qy2 rfl ?_ ?_ | ((first | refine qa1 fun K hk => ?_ | refine qa2 fun K hk => ?_ | refine qa3 fun K hk => ?_ | refine qh1 fun K hk => ?_ | refine qh2 fun K hk => ?_ | refine qm1 fun K hk => ?_ | refine qm2 fun K hk => ?_ | refine qm3 fun K hk => ?_); simp only [go_sem, ↓upd_def, ↓evT, ↓aop, ↓aopc, ↓aopd, Nat.reduceEqDiff, Nat.reduceAdd, Nat.reduceLeDiff, Nat.reduceLT, Nat.reduceSub, Int.reduceToNat, ↓reduceIte, reduceCtorEq, List.length_drop, List.length_take, List.take_length]; (repeat (refine And.intro ?_ ?_; focus (first | omega | assumption | with_reducible rfl | (simp only [go_sem, ↓upd_def, ↓evT, ↓aop, ↓aopc, ↓aopd, Nat.reduceEqDiff, Nat.reduceAdd, Nat.reduceLeDiff, Nat.reduceLT, Nat.reduceSub, Int.reduceToNat, ↓reduceIte, reduceCtorEq, List.length_drop, List.length_take, List.take_length]; done)))); intros; apply hk; clear hk K) | ((first | apply qg1 rfl | apply qcd); focus (simp only [go_sem, ↓upd_def, ↓evT, ↓aop, ↓aopc, ↓aopd, Nat.reduceEqDiff, Nat.reduceAdd, Nat.reduceLeDiff, Nat.reduceLT, Nat.reduceSub, Int.reduceToNat, ↓reduceIte, reduceCtorEq, List.length_drop, List.length_take, List.take_length]; exact rfl)) | (refine qj6 ?_ ?_ <;> intro hc <;> (try simp only [hc]) <;> (try simp only [decide_eq_true_eq, decide_eq_false_iff_not, Bool.not_eq_true', Bool.not_eq_false', Bool.not_eq_true, reduceCtorEq] at hc) <;> (try (exfalso; omega))) | (refine qk1 ?_ ?_; focus (repeat (first | exact qsub0 | (refine qsub1 ?_ ?_; focus (simp only [go_sem, ↓upd_def, ↓evT, ↓aop, ↓aopc, ↓aopd, Nat.reduceEqDiff, Nat.reduceAdd, Nat.reduceLeDiff, Nat.reduceLT, Nat.reduceSub, Int.reduceToNat, ↓reduceIte, reduceCtorEq, List.length_drop, List.length_take, List.take_length]))))) | (refine qt7 ?_ ?_; focus decide) | (refine qw7 ?_ ?_ ?_; (focus (decide +kernel)); (focus (decide +kernel))))
  · refine s_again ((k + (entAt (s.drop k)).2, out ++ [(entAt (s.drop k)).1])) ?_ ?_ ?_ <;> (first | omega | (dsimp only; omega) | skip)
    · exact ⟨by dsimp only; omega, by simp; omega, by rw [hu, unT_drop (by omega), if_neg (by omega)]; simp⟩
    · simp [fits, fitsT, fitsM, upd_def, PV.nmb, nmbL, MB.nmb, List.getD_cons_zero, List.getD_cons_succ]
  · refine s_again ((k + 1, out ++ [s.getD k 0])) ?_ ?_ ?_ <;> (first | omega | (dsimp only; omega) | skip)
    · exact ⟨by dsimp only; omega, by simp; omega, by rw [hu, unT_drop (by omega), if_pos (by omega)]; simp⟩
    · simp [fits, fitsT, fitsM, upd_def, PV.nmb, nmbL, MB.nmb, List.getD_cons_zero, List.getD_cons_succ]
  · ((first | refine fin_ret ?_ | refine fin_end ?_); simp only [go_sem, ↓upd_def, Nat.reduceEqDiff, Nat.reduceAdd, ↓reduceIte, reduceCtorEq])
    rw [unT_end (by omega), List.append_nil] at hu
    rw [← hu]
    exact hK
theorem pre_no {p s : Bs} {k n : Nat} (hk : k ≤ s.length) (hn : n = p.length) (h : ¬ ((k : Nat) : Int) + ((n : Nat) : Int) ≤ (s.length : Nat) ∨ ¬ List.drop k (List.take (((k : Nat) : Int) + ((n : Nat) : Int)).toNat s) = p) : p.isPrefixOf (s.drop k) = false := by
  subst hn
  rw [prefix_iff, List.length_drop]
  refine decide_eq_false ?_
  rw [show ((k : Int) + (p.length : Int)).toNat = k + p.length by omega, List.drop_take, Nat.add_sub_cancel_left] at h
  rintro ⟨h1, h2⟩
  rcases h with h | h
  · have := congrArg List.length h2
    simp only [List.length_take, List.length_drop] at this
    omega
  · exact h h2
theorem pre_yes {p s : Bs} {k n : Nat} (hn : n = p.length) (h1 : ((k : Nat) : Int) + ((n : Nat) : Int) ≤ (s.length : Nat)) (h : List.drop k (List.take (((k : Nat) : Int) + ((n : Nat) : Int)).toNat s) = p) : p.isPrefixOf (s.drop k) = true := by
  subst hn
  rw [prefix_iff, List.length_drop]
  refine decide_eq_true ?_
  rw [show ((k : Int) + (p.length : Int)).toNat = k + p.length by omega, List.drop_take, Nat.add_sub_cancel_left] at h
  exact ⟨by omega, h⟩
@[go_sem] def l2C : PC := rel (α := Bs × Nat) (fun x => [.str x.1, .int .i64 x.2]) (fun x => x.1.length ≤ 1099511627776 ∧ x.2 ≤ x.1.length) (fun x => .tup [.int .u8 ((entAt (x.1.drop x.2)).1.toNat : Int), .int .i64 ((entAt (x.1.drop x.2)).2 : Int)])
set_option maxHeartbeats 4000000 in
theorem l2At_s : PureOk Try.prog 143 l2C := by
  refine pure_rel 2 (tab_cons ent_s tab_nil) mixed [.tmp 4, .tmp 5] Try.func143 rfl rfl (by kernel_rfl) (by kernel_rfl) (fun _ => rfl) (by kernel_rfl) ?_
  rintro ⟨s, j⟩ K ⟨hl, hj⟩ hK
  dsimp only at *
  unfold entry
  repeat' (first | refine qw8 ?_ | refine qw1 ?_ | refine qw6 ?_ | refine qt1 ?_ | refine qw5 ?_ | refine qw2 ?_ | refine qw9 ?_ | refine qt2 ?_ | refine qt3 ?_ | refine qt4 ?_ | refine qt5 ?_ | refine qt6 ?_ | refine qw3 ?_ | refine qw4 ?_ | refine qj1 ?_ | refine qj2 ?_ | refine qj3 ?_ | refine qj4 ?_ | refine qj5 ?_ | refine qu1 ?_ | refine qu2 ?_ | refine qne ?_ | refine qyn ?_ | refine qyz ?_ | refine qy0 ?_ | refine qnt rfl rfl ?_ | refine qnf rfl rfl ?_ | refine qyc rfl ?_ | refine qy1 rfl ?_ | refine qy2 rfl ?_ ?_ | ((first | refine qa1 fun K hk => ?_ | refine qa2 fun K hk => ?_ | refine qa3 fun K hk => ?_ | refine qh1 fun K hk => ?_ | refine qh2 fun K hk => ?_ | refine qm1 fun K hk => ?_ | refine qm2 fun K hk => ?_ | refine qm3 fun K hk => ?_); simp only [go_sem, ↓upd_def, ↓evT, ↓aop, ↓aopc, ↓aopd, Nat.reduceEqDiff, Nat.reduceAdd, Nat.reduceLeDiff, Nat.reduceLT, Nat.reduceSub, Int.reduceToNat, ↓reduceIte, reduceCtorEq]; (repeat (refine And.intro ?_ ?_; focus (first | omega | assumption | with_reducible rfl | (simp only [go_sem, ↓upd_def, ↓evT, ↓aop, ↓aopc, ↓aopd, Nat.reduceEqDiff, Nat.reduceAdd, Nat.reduceLeDiff, Nat.reduceLT, Nat.reduceSub, Int.reduceToNat, ↓reduceIte, reduceCtorEq]; done)))); intros; apply hk; clear hk K) | ((first | apply qg1 rfl | apply qcd); focus (simp only [go_sem, ↓upd_def, ↓evT, ↓aop, ↓aopc, ↓aopd, Nat.reduceEqDiff, Nat.reduceAdd, Nat.reduceLeDiff, Nat.reduceLT, Nat.reduceSub, Int.reduceToNat, ↓reduceIte, reduceCtorEq]; exact rfl)) | (refine qj6 ?_ ?_ <;> intro hc <;> (try simp only [hc]) <;> (try simp only [decide_eq_true_eq, decide_eq_false_iff_not, Bool.not_eq_true', Bool.not_eq_false', Bool.not_eq_true, reduceCtorEq] at hc) <;> (try (exfalso; omega))) | (refine qk1 ?_ ?_; focus (repeat (first | exact qsub0 | (refine qsub1 ?_ ?_; focus (simp only [go_sem, ↓upd_def, ↓evT, ↓aop, ↓aopc, ↓aopd, Nat.reduceEqDiff, Nat.reduceAdd, Nat.reduceLeDiff, Nat.reduceLT, Nat.reduceSub, Int.reduceToNat, ↓reduceIte, reduceCtorEq]))))) | (refine qt7 ?_ ?_; focus decide) | (refine qw7 ?_ ?_ ?_; (focus (decide +kernel)); (focus (decide +kernel))))
  refine s_loop (ι := Nat) (fun k => [(0, .str s), (1, .int .i64 j), (6, .str specials), (7, .int .i64 k)]) (fun _ => []) 0 (fun k => k ≤ 5 ∧ noEnt (s.drop j) k) (fun k => 5 - k) 0 (by omega) ⟨by omega, by simp [noEnt]⟩ ?_ ?_
  · simp [fits, fitsT, fitsM, upd_def, PV.nmb, nmbL, MB.nmb, List.getD_cons_zero, List.getD_cons_succ, specials]
  rintro k ⟨hk, hp⟩
  have t38 : ((UInt8.toNat 38 : Nat) : Int) = 38 := rfl
  have t60 : ((UInt8.toNat 60 : Nat) : Int) = 60 := rfl
  have t62 : ((UInt8.toNat 62 : Nat) : Int) = 62 := rfl
  have t34 : ((UInt8.toNat 34 : Nat) : Int) = 34 := rfl
  have t39 : ((UInt8.toNat 39 : Nat) : Int) = 39 := rfl
  have he38 : ent1 (ofI 38) = [38, 97, 109, 112, 59] := by decide
  have he60 : ent1 (ofI 60) = [38, 108, 116, 59] := by decide
  have he62 : ent1 (ofI 62) = [38, 103, 116, 59] := by decide
  have he34 : ent1 (ofI 34) = [38, 113, 117, 111, 116, 59] := by decide
  have he39 : ent1 (ofI 39) = [38, 35, 51, 57, 59] := by decide
  simp only [mkS, mkT, mkM, specials]
  obtain rfl | rfl | rfl | rfl | rfl | rfl : k = 0 ∨ k = 1 ∨ k = 2 ∨ k = 3 ∨ k = 4 ∨ k = 5 := by omega
  all_goals repeat' (first | refine qw8 ?_ | refine qw1 ?_ | refine qw6 ?_ | refine qt1 ?_ | refine qw5 ?_ | refine qw2 ?_ | refine qw9 ?_ | refine qt2 ?_ | refine qt3 ?_ | refine qt4 ?_ | refine qt5 ?_ | refine qt6 ?_ | refine qw3 ?_ | refine qw4 ?_ | refine qj1 ?_ | refine qj2 ?_ | refine qj3 ?_ | refine qj4 ?_ | refine qj5 ?_ | refine qu1 ?_ | refine qu2 ?_ | refine qne ?_ | refine qyn ?_ | refine qyz ?_ | refine qy0 ?_ | refine qnt rfl rfl ?_ | refine qnf rfl rfl ?_ | refine qyc rfl ?_ | refine qy1 rfl ?_ | refine qy2 rfl ?_ ?_ | ((first | refine qa1 fun K hk => ?_ | refine qa2 fun K hk => ?_ | refine qa3 fun K hk => ?_ | refine qh1 fun K hk => ?_ | refine qh2 fun K hk => ?_ | refine qm1 fun K hk => ?_ | refine qm2 fun K hk => ?_ | refine qm3 fun K hk => ?_); simp only [go_sem, ↓upd_def, ↓evT, ↓aop, ↓aopc, ↓aopd, Nat.reduceEqDiff, Nat.reduceAdd, Nat.reduceLeDiff, Nat.reduceLT, Nat.reduceSub, Int.reduceToNat, ↓reduceIte, reduceCtorEq, he38, he60, he62, he34, he39, t38, t60, t62, t34, t39]; (repeat (refine And.intro ?_ ?_; focus (first | omega | assumption | with_reducible rfl | (simp only [go_sem, ↓upd_def, ↓evT, ↓aop, ↓aopc, ↓aopd, Nat.reduceEqDiff, Nat.reduceAdd, Nat.reduceLeDiff, Nat.reduceLT, Nat.reduceSub, Int.reduceToNat, ↓reduceIte, reduceCtorEq, he38, he60, he62, he34, he39, t38, t60, t62, t34, t39]; done)))); intros; apply hk; clear hk K) | ((first | apply qg1 rfl | apply qcd); focus (simp only [go_sem, ↓upd_def, ↓evT, ↓aop, ↓aopc, ↓aopd, Nat.reduceEqDiff, Nat.reduceAdd, Nat.reduceLeDiff, Nat.reduceLT, Nat.reduceSub, Int.reduceToNat, ↓reduceIte, reduceCtorEq, he38, he60, he62, he34, he39, t38, t60, t62, t34, t39]; exact rfl)) | (refine qj6 ?_ ?_ <;> intro hc <;> (try simp only [hc]) <;> (try simp only [decide_eq_true_eq, decide_eq_false_iff_not, Bool.not_eq_true', Bool.not_eq_false', Bool.not_eq_true, reduceCtorEq] at hc) <;> (try (exfalso; omega))) | (refine qk1 ?_ ?_; focus (repeat (first | exact qsub0 | (refine qsub1 ?_ ?_; focus (simp only [go_sem, ↓upd_def, ↓evT, ↓aop, ↓aopc, ↓aopd, Nat.reduceEqDiff, Nat.reduceAdd, Nat.reduceLeDiff, Nat.reduceLT, Nat.reduceSub, Int.reduceToNat, ↓reduceIte, reduceCtorEq, he38, he60, he62, he34, he39, t38, t60, t62, t34, t39]))))) | (refine qt7 ?_ ?_; focus decide) | (refine qw7 ?_ ?_ ?_; (focus (decide +kernel)); (focus (decide +kernel))))
  all_goals unfold noEnt at hp
  all_goals first
    | (((first | refine fin_ret ?_ | refine fin_end ?_); simp only [go_sem, ↓upd_def, Nat.reduceEqDiff, Nat.reduceAdd, ↓reduceIte, reduceCtorEq])
       have e := pre_yes (p := [38, 97, 109, 112, 59]) (n := 5) (s := s) (k := j) rfl ‹_› ‹_›
       refine K_eq hK ?_
       clear hK
       simp [entAt, *]
       done)
    | (refine s_again 1 ⟨by omega, ?_⟩ (by first | omega | (dsimp only; omega)) ?_
       · unfold noEnt
         refine ⟨fun _ => ?_, fun _ => ?_, fun _ => ?_, fun _ => ?_, fun _ => ?_⟩ <;> first | (exfalso; omega) | exact hp.1 (by omega) | exact hp.2.1 (by omega) | exact hp.2.2.1 (by omega) | exact hp.2.2.2.1 (by omega) | exact pre_no hj (n := 5) rfl (.inl ‹_›) | exact pre_no hj (n := 5) rfl (.inr ‹_›)
       · simp [fits, fitsT, fitsM, upd_def, PV.nmb, nmbL, MB.nmb, List.getD_cons_zero, List.getD_cons_succ]
       done)
    | (((first | refine fin_ret ?_ | refine fin_end ?_); simp only [go_sem, ↓upd_def, Nat.reduceEqDiff, Nat.reduceAdd, ↓reduceIte, reduceCtorEq])
       have e := pre_yes (p := [38, 108, 116, 59]) (n := 4) (s := s) (k := j) rfl ‹_› ‹_›
       refine K_eq hK ?_
       clear hK
       simp [entAt, *]
       done)
    | (refine s_again 2 ⟨by omega, ?_⟩ (by first | omega | (dsimp only; omega)) ?_
       · unfold noEnt
         refine ⟨fun _ => ?_, fun _ => ?_, fun _ => ?_, fun _ => ?_, fun _ => ?_⟩ <;> first | (exfalso; omega) | exact hp.1 (by omega) | exact hp.2.1 (by omega) | exact hp.2.2.1 (by omega) | exact hp.2.2.2.1 (by omega) | exact pre_no hj (n := 4) rfl (.inl ‹_›) | exact pre_no hj (n := 4) rfl (.inr ‹_›)
       · simp [fits, fitsT, fitsM, upd_def, PV.nmb, nmbL, MB.nmb, List.getD_cons_zero, List.getD_cons_succ]
       done)
    | (((first | refine fin_ret ?_ | refine fin_end ?_); simp only [go_sem, ↓upd_def, Nat.reduceEqDiff, Nat.reduceAdd, ↓reduceIte, reduceCtorEq])
       have e := pre_yes (p := [38, 103, 116, 59]) (n := 4) (s := s) (k := j) rfl ‹_› ‹_›
       refine K_eq hK ?_
       clear hK
       simp [entAt, *]
       done)
    | (refine s_again 3 ⟨by omega, ?_⟩ (by first | omega | (dsimp only; omega)) ?_
       · unfold noEnt
         refine ⟨fun _ => ?_, fun _ => ?_, fun _ => ?_, fun _ => ?_, fun _ => ?_⟩ <;> first | (exfalso; omega) | exact hp.1 (by omega) | exact hp.2.1 (by omega) | exact hp.2.2.1 (by omega) | exact hp.2.2.2.1 (by omega) | exact pre_no hj (n := 4) rfl (.inl ‹_›) | exact pre_no hj (n := 4) rfl (.inr ‹_›)
       · simp [fits, fitsT, fitsM, upd_def, PV.nmb, nmbL, MB.nmb, List.getD_cons_zero, List.getD_cons_succ]
       done)
    | (((first | refine fin_ret ?_ | refine fin_end ?_); simp only [go_sem, ↓upd_def, Nat.reduceEqDiff, Nat.reduceAdd, ↓reduceIte, reduceCtorEq])
       have e := pre_yes (p := [38, 113, 117, 111, 116, 59]) (n := 6) (s := s) (k := j) rfl ‹_› ‹_›
       refine K_eq hK ?_
       clear hK
       simp [entAt, *]
       done)
    | (refine s_again 4 ⟨by omega, ?_⟩ (by first | omega | (dsimp only; omega)) ?_
       · unfold noEnt
         refine ⟨fun _ => ?_, fun _ => ?_, fun _ => ?_, fun _ => ?_, fun _ => ?_⟩ <;> first | (exfalso; omega) | exact hp.1 (by omega) | exact hp.2.1 (by omega) | exact hp.2.2.1 (by omega) | exact hp.2.2.2.1 (by omega) | exact pre_no hj (n := 6) rfl (.inl ‹_›) | exact pre_no hj (n := 6) rfl (.inr ‹_›)
       · simp [fits, fitsT, fitsM, upd_def, PV.nmb, nmbL, MB.nmb, List.getD_cons_zero, List.getD_cons_succ]
       done)
    | (((first | refine fin_ret ?_ | refine fin_end ?_); simp only [go_sem, ↓upd_def, Nat.reduceEqDiff, Nat.reduceAdd, ↓reduceIte, reduceCtorEq])
       have e := pre_yes (p := [38, 35, 51, 57, 59]) (n := 5) (s := s) (k := j) rfl ‹_› ‹_›
       refine K_eq hK ?_
       clear hK
       simp [entAt, *]
       done)
    | (refine s_again 5 ⟨by omega, ?_⟩ (by first | omega | (dsimp only; omega)) ?_
       · unfold noEnt
         refine ⟨fun _ => ?_, fun _ => ?_, fun _ => ?_, fun _ => ?_, fun _ => ?_⟩ <;> first | (exfalso; omega) | exact hp.1 (by omega) | exact hp.2.1 (by omega) | exact hp.2.2.1 (by omega) | exact hp.2.2.2.1 (by omega) | exact pre_no hj (n := 5) rfl (.inl ‹_›) | exact pre_no hj (n := 5) rfl (.inr ‹_›)
       · simp [fits, fitsT, fitsM, upd_def, PV.nmb, nmbL, MB.nmb, List.getD_cons_zero, List.getD_cons_succ]
       done)
    | (((first | refine fin_ret ?_ | refine fin_end ?_); simp only [go_sem, ↓upd_def, Nat.reduceEqDiff, Nat.reduceAdd, ↓reduceIte, reduceCtorEq])
       refine K_eq hK ?_
       clear hK
       simp [entAt, *]
       done)
end Go.Proofs.Ytcagfbgplpokkaa
