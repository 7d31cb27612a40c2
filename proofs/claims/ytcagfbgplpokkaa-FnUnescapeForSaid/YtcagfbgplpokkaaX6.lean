/- Contracts: parts of addresses read back. -/
import Derived.Test.YtcagfbgplpokkaaX5
namespace Go.Proofs.Ytcagfbgplpokkaa
attribute [local irreducible] awp arun acalm FinP Fin AX.then AX.inBlock Again aG gsel amix amixN amixC aop aopc aopd cutK
attribute [local go_sem] aop aopc aopd aBSliceD aSlice aSliceC boundOf aMk evT upd_def aCall aCallC aLenL aLen aPick_t aPick_f aNil aAlloc aBox aBuild bldPV aBSlice bsPV aApp newsOf destOf drp aConvX aConv aConvInt aLoad cellsAt aStore cellsPV setAt aFld aField aIdx aIndex aUn aBin' aBin aMax aExtract pvOf PV.isCell nmbL PV.nmb List.map_cons List.map_nil List.all_cons List.all_nil Bool.and_true Bool.true_and if_true if_false List.getD_cons_zero List.getD_cons_succ List.getD_nil Option.isSome_some true_and and_true and_self eq_self true_or or_true List.drop_zero List.drop_succ_cons List.drop_nil List.take_zero List.take_succ_cons List.take_nil List.length_cons List.length_nil List.length_map Option.getD_some Option.getD_none List.nil_append List.cons_append List.append_nil Option.some.injEq exists_eq_left' List.getElem?_cons_zero List.getElem?_cons_succ Int.toNat_natCast Int.natCast_inj toNat_succ Nat.zero_add res res1 resC owns owns1 ownsC List.flatMap_cons List.flatMap_nil List.flatten_cons List.flatten_nil List.mem_cons List.not_mem_nil or_false false_or forall_eq forall_eq_or_imp isFro frz frz1 pureC tabA isBld List.cons.injEq PV.seq.injEq PV.int.injEq PV.str.injEq PV.bool.injEq PV.agg.injEq inR tab Γof aRes packR Option.map_some Option.map_none rel Prod.exists exists_and_left exists_eq_left and_assoc beq_self_eq_true Bool.not_true Bool.not_false decide_true decide_false List.set_cons_zero List.set_cons_succ rst_nil rst_cons
set_option maxRecDepth 100000
set_option linter.unusedVariables false
set_option linter.unusedSimpArgs false
open Go.RowKit

theorem toNat_3 (k : Nat) : ((k : Int) + 3).toNat = k + 3 := by omega
theorem toNat_4 (k : Nat) : ((k : Int) + 4).toNat = k + 4 := by omega
theorem hexU_lit : ([48, 49, 50, 51, 52, 53, 54, 55, 56, 57, 65, 66, 67, 68, 69, 70] : Bs) = hexU := rfl
theorem hexL_lit : ([48, 49, 50, 51, 52, 53, 54, 55, 56, 57, 97, 98, 99, 100, 101, 102] : Bs) = hexL := rfl
theorem hexOk_t {hx : Bs} {a b : UInt8} (h1 : ¬ ixB hx a < 0) (h2 : ¬ ixB hx b < 0) : hexOk hx a b = true := by
  unfold hexOk; rw [decide_eq_true (by omega), decide_eq_true (by omega)]; rfl
theorem hexOk_f {hx : Bs} {a b : UInt8} (h : ixB hx a < 0 ∨ ixB hx b < 0) : ¬ hexOk hx a b = true := by
  unfold hexOk
  simp only [Bool.and_eq_true, decide_eq_true_eq]
  omega
theorem unP_none {s : Bs} (h : rawP s = none) : unP s = none := by unfold unP; rw [h]
theorem unP_some {s o : Bs} (h : rawP s = some o) (h2 : pctS keep3 o = s) : unP s = some o := by unfold unP; rw [h]; exact if_pos h2
theorem unP_diff {s o : Bs} (h : rawP s = some o) (h2 : ¬ pctS keep3 o = s) : unP s = none := by unfold unP; rw [h]; exact if_neg h2
theorem map_map {c : UInt8} {o : Bs} {r : Option Bs} : (r.map (c :: ·)).map (o ++ ·) = r.map ((o ++ [c]) ++ ·) := by cases r <;> simp
set_option maxHeartbeats 4000000 in
theorem unP_i : PureOk Try.prog 103 (tC fun s => encO (unP s)) := by
  refine pure_rel 1 (tab_cons ix_any (tab_cons escP_i tab_nil)) mixed [.tmp 2, .tmp 3] Try.func103 rfl rfl (by kernel_rfl) (by kernel_rfl) (fun _ => rfl) (by kernel_rfl) ?_
  rintro s K hl hK
  unfold entry
  repeat' (first | refine qw8 ?_ | refine qw1 ?_ | refine qw6 ?_ | refine qt1 ?_ | refine qw5 ?_ | refine qw2 ?_ | refine qw9 ?_ | refine qt2 ?_ | refine qt3 ?_ | refine qt4 ?_ | refine qt5 ?_ | refine qt6 ?_ | refine qw3 ?_ | refine qw4 ?_ | refine qj1 ?_ | refine qj2 ?_ | refine qj3 ?_ | refine qj4 ?_ | refine qj5 ?_ | refine qu1 ?_ | refine qu2 ?_ | refine qne ?_ | refine qyn ?_ | refine qyz ?_ | refine qy0 ?_ | refine qnt rfl rfl ?_ | refine qnf rfl rfl ?_ | refine qyc rfl ?_ | refine qy1 rfl ?_ | refine qy2 rfl ?_ ?_ | ((first | refine qa1 fun K hk => ?_ | refine qa2 fun K hk => ?_ | refine qa3 fun K hk => ?_ | refine qh1 fun K hk => ?_ | refine qh2 fun K hk => ?_ | refine qm1 fun K hk => ?_ | refine qm2 fun K hk => ?_ | refine qm3 fun K hk => ?_); simp only [go_sem, ↓upd_def, ↓evT, ↓aop, ↓aopc, ↓aopd, Nat.reduceEqDiff, Nat.reduceAdd, Nat.reduceLeDiff, Nat.reduceLT, Nat.reduceSub, Int.reduceToNat, ↓reduceIte, reduceCtorEq]; (repeat (refine And.intro ?_ ?_; focus (first | omega | assumption | with_reducible rfl | (simp only [go_sem, ↓upd_def, ↓evT, ↓aop, ↓aopc, ↓aopd, Nat.reduceEqDiff, Nat.reduceAdd, Nat.reduceLeDiff, Nat.reduceLT, Nat.reduceSub, Int.reduceToNat, ↓reduceIte, reduceCtorEq]; done)))); intros; apply hk; clear hk K) | ((first | apply qg1 rfl | apply qcd); focus (simp only [go_sem, ↓upd_def, ↓evT, ↓aop, ↓aopc, ↓aopd, Nat.reduceEqDiff, Nat.reduceAdd, Nat.reduceLeDiff, Nat.reduceLT, Nat.reduceSub, Int.reduceToNat, ↓reduceIte, reduceCtorEq]; exact rfl)) | (refine qj6 ?_ ?_ <;> intro hc <;> (try simp only [hc]) <;> (try simp only [decide_eq_true_eq, decide_eq_false_iff_not, Bool.not_eq_true', Bool.not_eq_false', Bool.not_eq_true, reduceCtorEq] at hc) <;> (try (exfalso; omega))) | (refine qk1 ?_ ?_; focus (repeat (first | exact qsub0 | (refine qsub1 ?_ ?_; focus (simp only [go_sem, ↓upd_def, ↓evT, ↓aop, ↓aopc, ↓aopd, Nat.reduceEqDiff, Nat.reduceAdd, Nat.reduceLeDiff, Nat.reduceLT, Nat.reduceSub, Int.reduceToNat, ↓reduceIte, reduceCtorEq]))))) | (refine qt7 ?_ ?_; focus decide) | (refine qw7 ?_ ?_ ?_; (focus (decide +kernel)); (focus (decide +kernel))))
  refine s_loop (ι := Nat × Bs) (fun i => [(0, .str s), (4, .own 0), (5, .int .i64 i.1)]) (fun i => [(0, .row 5 1 (i.2.map bc))]) 1 (fun i => i.1 ≤ s.length ∧ i.2.length ≤ i.1 ∧ rawP s = (rawP (s.drop i.1)).map (i.2 ++ ·)) (fun i => s.length - i.1) (0, []) (by omega) ⟨by simp, by simp, by simp⟩ ?_ ?_
  · simp [fits, fitsT, fitsM, upd_def, PV.nmb, nmbL, MB.nmb, List.getD_cons_zero, List.getD_cons_succ]
  rintro ⟨k, out⟩ ⟨hk, ho, hu⟩
  dsimp only at *
  have hb0 := byte_lt s k
  have hb1 := byte_lt s (k + 1)
  have hb2 := byte_lt s (k + 2)
  have x1 := ixU_bd (s.getD (k + 1) 0)
  have x2 := ixU_bd (s.getD (k + 2) 0)
  simp only [mkS, mkT, mkM]
  repeat' (first | refine qw8 ?_ | refine qw1 ?_ | refine qw6 ?_ | refine qt1 ?_ | refine qw5 ?_ | refine qw2 ?_ | refine qw9 ?_ | refine qt2 ?_ | refine qt3 ?_ | refine qt4 ?_ | refine qt5 ?_ | refine qt6 ?_ | refine qw3 ?_ | refine qw4 ?_ | refine qj1 ?_ | refine qj2 ?_ | refine qj3 ?_ | refine qj4 ?_ | refine qj5 ?_ | refine qu1 ?_ | refine qu2 ?_ | refine qne ?_ | refine qyn ?_ | refine qyz ?_ | refine qy0 ?_ | refine qnt rfl rfl ?_ | refine qnf rfl rfl ?_ | refine qyc rfl ?_ | refine qy1 rfl ?_ | refine qy2 rfl ?_ ?_ | ((first | refine qa1 fun K hk => ?_ | refine qa2 fun K hk => ?_ | refine qa3 fun K hk => ?_ | refine qh1 fun K hk => ?_ | refine qh2 fun K hk => ?_ | refine qm1 fun K hk => ?_ | refine qm2 fun K hk => ?_ | refine qm3 fun K hk => ?_); simp only [go_sem, ↓upd_def, ↓evT, ↓aop, ↓aopc, ↓aopd, Nat.reduceEqDiff, Nat.reduceAdd, Nat.reduceLeDiff, Nat.reduceLT, Nat.reduceSub, Int.reduceToNat, ↓reduceIte, reduceCtorEq, toNat_2, hexU_lit]; (repeat (refine And.intro ?_ ?_; focus (first | omega | assumption | with_reducible rfl | (simp only [go_sem, ↓upd_def, ↓evT, ↓aop, ↓aopc, ↓aopd, Nat.reduceEqDiff, Nat.reduceAdd, Nat.reduceLeDiff, Nat.reduceLT, Nat.reduceSub, Int.reduceToNat, ↓reduceIte, reduceCtorEq, toNat_2, hexU_lit]; done)))); intros; apply hk; clear hk K) | ((first | apply qg1 rfl | apply qcd); focus (simp only [go_sem, ↓upd_def, ↓evT, ↓aop, ↓aopc, ↓aopd, Nat.reduceEqDiff, Nat.reduceAdd, Nat.reduceLeDiff, Nat.reduceLT, Nat.reduceSub, Int.reduceToNat, ↓reduceIte, reduceCtorEq, toNat_2, hexU_lit]; exact rfl)) | (refine qj6 ?_ ?_ <;> intro hc <;> (try simp only [hc]) <;> (try simp only [decide_eq_true_eq, decide_eq_false_iff_not, Bool.not_eq_true', Bool.not_eq_false', Bool.not_eq_true, reduceCtorEq] at hc) <;> (try (exfalso; omega))) | (refine qk1 ?_ ?_; focus (repeat (first | exact qsub0 | (refine qsub1 ?_ ?_; focus (simp only [go_sem, ↓upd_def, ↓evT, ↓aop, ↓aopc, ↓aopd, Nat.reduceEqDiff, Nat.reduceAdd, Nat.reduceLeDiff, Nat.reduceLT, Nat.reduceSub, Int.reduceToNat, ↓reduceIte, reduceCtorEq, toNat_2, hexU_lit]))))) | (refine qt7 ?_ ?_; focus decide) | (refine qw7 ?_ ?_ ?_; (focus (decide +kernel)); (focus (decide +kernel))))
  · refine s_againR ((k + 1, out ++ [s.getD k 0])) (fun i => if i = 0 then 2 else i) ?_ ?_ ?_ ?_ ?_ ?_ <;> (first | omega | (dsimp only; omega) | (intro i hi; (try dsimp only); (repeat' split) <;> omega) | (intro i j hi hj h; (try dsimp only at h); (repeat' split at h) <;> omega) | skip)
    · exact ⟨by dsimp only; omega, by simp; omega, by rw [hu, rawP_plain (by omega) (by omega), map_map]⟩
    · simp [fitsTR, fitsMR, PV.ren, renL, MB.ren, upd_def, PV.nmb, nmbL, MB.nmb, List.getD_cons_zero, List.getD_cons_succ, frz, drp]
    · simp [fitsTR, fitsMR, PV.ren, renL, MB.ren, upd_def, PV.nmb, nmbL, MB.nmb, List.getD_cons_zero, List.getD_cons_succ, frz, drp, bc]
  · ((first | refine fin_ret ?_ | refine fin_end ?_); simp only [go_sem, ↓upd_def, Nat.reduceEqDiff, Nat.reduceAdd, ↓reduceIte, reduceCtorEq])
    refine K_eq hK ?_
    rw [unP_none (by rw [hu, rawP_short (by omega) (by omega) (by omega)]; rfl)]; rfl
  · ((first | refine fin_ret ?_ | refine fin_end ?_); simp only [go_sem, ↓upd_def, Nat.reduceEqDiff, Nat.reduceAdd, ↓reduceIte, reduceCtorEq])
    refine K_eq hK ?_
    rw [unP_none (by rw [hu, rawP_hex (by omega) (by omega), if_neg (hexOk_f (by omega))]; rfl)]; rfl
  · ((first | refine fin_ret ?_ | refine fin_end ?_); simp only [go_sem, ↓upd_def, Nat.reduceEqDiff, Nat.reduceAdd, ↓reduceIte, reduceCtorEq])
    refine K_eq hK ?_
    rw [unP_none (by rw [hu, rawP_hex (by omega) (by omega), if_neg (hexOk_f (by omega))]; rfl)]; rfl
  · have hv : ((hexV hexU (s.getD (k + 1) 0) (s.getD (k + 2) 0)).toNat : Int) = ixB hexU (s.getD (k + 1) 0) * 16 + ixB hexU (s.getD (k + 2) 0) := by
      rw [hexV_nat (by omega) (by omega)]; omega
    refine s_againR ((k + 3, out ++ [hexV hexU (s.getD (k + 1) 0) (s.getD (k + 2) 0)])) (fun i => if i = 0 then 2 else i) ?_ ?_ ?_ ?_ ?_ ?_ <;> (first | omega | (dsimp only; omega) | (intro i hi; (try dsimp only); (repeat' split) <;> omega) | (intro i j hi hj h; (try dsimp only at h); (repeat' split at h) <;> omega) | skip)
    · exact ⟨by dsimp only; omega, by simp; omega, by rw [hu, rawP_hex (by omega) (by omega), if_pos (hexOk_t (by omega) (by omega)), map_map]⟩
    · simp [fitsTR, fitsMR, PV.ren, renL, MB.ren, upd_def, PV.nmb, nmbL, MB.nmb, List.getD_cons_zero, List.getD_cons_succ, frz, drp]; omega
    · simp only [fitsTR, fitsMR, PV.ren, renL, MB.ren, upd_def, PV.nmb, nmbL, MB.nmb, List.getD_cons_zero, List.getD_cons_succ, frz, drp, List.map_append, List.map_cons, List.map_nil, bc, hv, and_true, true_and]
      simp
  all_goals
    rw [List.drop_of_length_le (by omega), rawP] at hu
    simp only [Option.map_some, List.append_nil] at hu
    ((first | refine fin_ret ?_ | refine fin_end ?_); simp only [go_sem, ↓upd_def, Nat.reduceEqDiff, Nat.reduceAdd, ↓reduceIte, reduceCtorEq])
    refine K_eq hK ?_
    first | rw [unP_some hu ‹_›] | rw [unP_diff hu ‹_›]
    rfl
theorem cutN {s : Bs} {k n : Nat} : List.drop k (List.take (k + n) s) = (s.drop k).take n := by
  rw [List.drop_take, Nat.add_sub_cancel_left]
theorem cut3 {s : Bs} {k : Nat} (h : k + 2 < s.length) : List.drop k (List.take (k + 3) s) = [s.getD k 0, s.getD (k + 1) 0, s.getD (k + 2) 0] := by
  rw [cutN, drop3 h]; rfl
theorem b37 {c : UInt8} (h : (c.toNat : Int) = 37) : c = 37 := by apply UInt8.toNat_inj.1; show c.toNat = 37; omega
/-- What the reference finds among the first c bytes. -/
def fnd (ok : Bool) (v : UInt8) (c : Nat) : Bool := ok && decide (v.toNat < c)
def fndV (ok : Bool) (v d : UInt8) (c : Nat) : UInt8 := if fnd ok v c = true then v else d
theorem fnd_0 (ok : Bool) (v : UInt8) : fnd ok v 0 = false := by simp [fnd]
theorem fnd_all (ok : Bool) (v : UInt8) : fnd ok v 256 = ok := by unfold fnd; rw [decide_eq_true v.toNat_lt]; simp
theorem fnd_yes {ok : Bool} {v : UInt8} {c : Nat} (h : ok = true) (h2 : v.toNat = c) : fnd ok v (c + 1) = true := by unfold fnd; rw [h, decide_eq_true (by omega)]; rfl
theorem fnd_no {ok : Bool} {v : UInt8} {c : Nat} (h : ok = false ∨ v.toNat ≠ c) : fnd ok v (c + 1) = fnd ok v c := by
  unfold fnd
  rcases h with h | h
  · rw [h]; rfl
  · congr 1; rw [decide_eq_decide]; omega
theorem ofI_cast {c : Nat} (h : c < 256) : (ofI (c : Int)).toNat = c := by
  unfold ofI; rw [Int.toNat_natCast, UInt8.toNat_ofNat_of_lt' (by show _ < 256; omega)]
set_option maxHeartbeats 4000000 in
theorem unP_s : PureOk Try.prog 107 (tC fun s => encO (unP s)) := by
  refine pure_rel 1 (tab_cons hex3_s (tab_cons plain3_s tab_nil)) mixed [.tmp 2, .tmp 3] Try.func107 rfl rfl (by kernel_rfl) (by kernel_rfl) (fun _ => rfl) (by kernel_rfl) ?_
  rintro s K hl hK
  unfold entry
  repeat' (first | refine qw8 ?_ | refine qw1 ?_ | refine qw6 ?_ | refine qt1 ?_ | refine qw5 ?_ | refine qw2 ?_ | refine qw9 ?_ | refine qt2 ?_ | refine qt3 ?_ | refine qt4 ?_ | refine qt5 ?_ | refine qt6 ?_ | refine qw3 ?_ | refine qw4 ?_ | refine qj1 ?_ | refine qj2 ?_ | refine qj3 ?_ | refine qj4 ?_ | refine qj5 ?_ | refine qu1 ?_ | refine qu2 ?_ | refine qne ?_ | refine qyn ?_ | refine qyz ?_ | refine qy0 ?_ | refine qnt rfl rfl ?_ | refine qnf rfl rfl ?_ | refine qyc rfl ?_ | refine qy1 rfl ?_ | refine qy2 rfl ?_ ?_ | ((first | refine qa1 fun K hk => ?_ | refine qa2 fun K hk => ?_ | refine qa3 fun K hk => ?_ | refine qh1 fun K hk => ?_ | refine qh2 fun K hk => ?_ | refine qm1 fun K hk => ?_ | refine qm2 fun K hk => ?_ | refine qm3 fun K hk => ?_); simp only [go_sem, ↓upd_def, ↓evT, ↓aop, ↓aopc, ↓aopd, Nat.reduceEqDiff, Nat.reduceAdd, Nat.reduceLeDiff, Nat.reduceLT, Nat.reduceSub, Int.reduceToNat, ↓reduceIte, reduceCtorEq]; (repeat (refine And.intro ?_ ?_; focus (first | omega | assumption | with_reducible rfl | (simp only [go_sem, ↓upd_def, ↓evT, ↓aop, ↓aopc, ↓aopd, Nat.reduceEqDiff, Nat.reduceAdd, Nat.reduceLeDiff, Nat.reduceLT, Nat.reduceSub, Int.reduceToNat, ↓reduceIte, reduceCtorEq]; done)))); intros; apply hk; clear hk K) | ((first | apply qg1 rfl | apply qcd); focus (simp only [go_sem, ↓upd_def, ↓evT, ↓aop, ↓aopc, ↓aopd, Nat.reduceEqDiff, Nat.reduceAdd, Nat.reduceLeDiff, Nat.reduceLT, Nat.reduceSub, Int.reduceToNat, ↓reduceIte, reduceCtorEq]; exact rfl)) | (refine qj6 ?_ ?_ <;> intro hc <;> (try simp only [hc]) <;> (try simp only [decide_eq_true_eq, decide_eq_false_iff_not, Bool.not_eq_true', Bool.not_eq_false', Bool.not_eq_true, reduceCtorEq] at hc) <;> (try (exfalso; omega))) | (refine qk1 ?_ ?_; focus (repeat (first | exact qsub0 | (refine qsub1 ?_ ?_; focus (simp only [go_sem, ↓upd_def, ↓evT, ↓aop, ↓aopc, ↓aopd, Nat.reduceEqDiff, Nat.reduceAdd, Nat.reduceLeDiff, Nat.reduceLT, Nat.reduceSub, Int.reduceToNat, ↓reduceIte, reduceCtorEq]))))) | (refine qt7 ?_ ?_; focus decide) | (refine qw7 ?_ ?_ ?_; (focus (decide +kernel)); (focus (decide +kernel))))
  refine s_loop (ι := Nat × Bs) (fun i => [(0, .str s), (4, .own 0), (5, .int .i64 i.1)]) (fun i => [(0, .row 5 1 (i.2.map bc))]) 1 (fun i => i.1 ≤ s.length ∧ i.2.length ≤ i.1 ∧ spcP s = (spcP (s.drop i.1)).map (i.2 ++ ·)) (fun i => s.length - i.1) (0, []) (by omega) ⟨by simp, by simp, by simp⟩ ?_ ?_
  · simp [fits, fitsT, fitsM, upd_def, PV.nmb, nmbL, MB.nmb, List.getD_cons_zero, List.getD_cons_succ]
  rintro ⟨k, out⟩ ⟨hk, ho, hu⟩
  dsimp only at *
  have hb0 := byte_lt s k
  simp only [mkS, mkT, mkM]
  repeat' (first | refine qw8 ?_ | refine qw1 ?_ | refine qw6 ?_ | refine qt1 ?_ | refine qw5 ?_ | refine qw2 ?_ | refine qw9 ?_ | refine qt2 ?_ | refine qt3 ?_ | refine qt4 ?_ | refine qt5 ?_ | refine qt6 ?_ | refine qw3 ?_ | refine qw4 ?_ | refine qj1 ?_ | refine qj2 ?_ | refine qj3 ?_ | refine qj4 ?_ | refine qj5 ?_ | refine qu1 ?_ | refine qu2 ?_ | refine qne ?_ | refine qyn ?_ | refine qyz ?_ | refine qy0 ?_ | refine qnt rfl rfl ?_ | refine qnf rfl rfl ?_ | refine qyc rfl ?_ | refine qy1 rfl ?_ | refine qy2 rfl ?_ ?_ | ((first | refine qa1 fun K hk => ?_ | refine qa2 fun K hk => ?_ | refine qa3 fun K hk => ?_ | refine qh1 fun K hk => ?_ | refine qh2 fun K hk => ?_ | refine qm1 fun K hk => ?_ | refine qm2 fun K hk => ?_ | refine qm3 fun K hk => ?_); simp only [go_sem, ↓upd_def, ↓evT, ↓aop, ↓aopc, ↓aopd, Nat.reduceEqDiff, Nat.reduceAdd, Nat.reduceLeDiff, Nat.reduceLT, Nat.reduceSub, Int.reduceToNat, ↓reduceIte, reduceCtorEq]; (repeat (refine And.intro ?_ ?_; focus (first | omega | assumption | with_reducible rfl | (simp only [go_sem, ↓upd_def, ↓evT, ↓aop, ↓aopc, ↓aopd, Nat.reduceEqDiff, Nat.reduceAdd, Nat.reduceLeDiff, Nat.reduceLT, Nat.reduceSub, Int.reduceToNat, ↓reduceIte, reduceCtorEq]; done)))); intros; apply hk; clear hk K) | ((first | apply qg1 rfl | apply qcd); focus (simp only [go_sem, ↓upd_def, ↓evT, ↓aop, ↓aopc, ↓aopd, Nat.reduceEqDiff, Nat.reduceAdd, Nat.reduceLeDiff, Nat.reduceLT, Nat.reduceSub, Int.reduceToNat, ↓reduceIte, reduceCtorEq]; exact rfl)) | (refine qj6 ?_ ?_ <;> intro hc <;> (try simp only [hc]) <;> (try simp only [decide_eq_true_eq, decide_eq_false_iff_not, Bool.not_eq_true', Bool.not_eq_false', Bool.not_eq_true, reduceCtorEq] at hc) <;> (try (exfalso; omega))) | (refine qk1 ?_ ?_; focus (repeat (first | exact qsub0 | (refine qsub1 ?_ ?_; focus (simp only [go_sem, ↓upd_def, ↓evT, ↓aop, ↓aopc, ↓aopd, Nat.reduceEqDiff, Nat.reduceAdd, Nat.reduceLeDiff, Nat.reduceLT, Nat.reduceSub, Int.reduceToNat, ↓reduceIte, reduceCtorEq]))))) | (refine qt7 ?_ ?_; focus decide) | (refine qw7 ?_ ?_ ?_; (focus (decide +kernel)); (focus (decide +kernel))))
  · have h37 := b37 ‹_›
    generalize hv : hexV hexU (s.getD (k + 1) 0) (s.getD (k + 2) 0) = v
    generalize hok : (decide (k + 2 < s.length) && hexOk hexU (s.getD (k + 1) 0) (s.getD (k + 2) 0)) = ok
    have hvl := v.toNat_lt
    refine s_loop (ι := Nat) (fun c => [(0, .str s), (4, .own 0), (5, .int .i64 k), (6, .int .u8 (fndV ok v 37 c).toNat), (8, .bool (fnd ok v c)), (9, .int .i64 c)]) (fun _ => [(0, .row 5 1 (out.map bc))]) 1 (fun c => c ≤ 256) (fun c => 256 - c) 0 (by omega) (by omega) ?_ ?_
    · simp [fits, fitsT, fitsM, upd_def, PV.nmb, nmbL, MB.nmb, List.getD_cons_zero, List.getD_cons_succ, fnd_0, fndV, h37, -List.getD_eq_getElem?_getD]
    intro c hc9
    have hV := (fndV ok v 37 c).toNat_lt
    simp only [mkS, mkT, mkM]
    repeat' (first | refine qw8 ?_ | refine qw1 ?_ | refine qw6 ?_ | refine qt1 ?_ | refine qw5 ?_ | refine qw2 ?_ | refine qw9 ?_ | refine qt2 ?_ | refine qt3 ?_ | refine qt4 ?_ | refine qt5 ?_ | refine qt6 ?_ | refine qw3 ?_ | refine qw4 ?_ | refine qj1 ?_ | refine qj2 ?_ | refine qj3 ?_ | refine qj4 ?_ | refine qj5 ?_ | refine qu1 ?_ | refine qu2 ?_ | refine qne ?_ | refine qyn ?_ | refine qyz ?_ | refine qy0 ?_ | refine qnt rfl rfl ?_ | refine qnf rfl rfl ?_ | refine qyc rfl ?_ | refine qy1 rfl ?_ | refine qy2 rfl ?_ ?_ | ((first | refine qa1 fun K hk => ?_ | refine qa2 fun K hk => ?_ | refine qa3 fun K hk => ?_ | refine qh1 fun K hk => ?_ | refine qh2 fun K hk => ?_ | refine qm1 fun K hk => ?_ | refine qm2 fun K hk => ?_ | refine qm3 fun K hk => ?_); simp only [go_sem, ↓upd_def, ↓evT, ↓aop, ↓aopc, ↓aopd, Nat.reduceEqDiff, Nat.reduceAdd, Nat.reduceLeDiff, Nat.reduceLT, Nat.reduceSub, Int.reduceToNat, ↓reduceIte, reduceCtorEq, toNat_3]; (repeat (refine And.intro ?_ ?_; focus (first | omega | assumption | with_reducible rfl | (simp only [go_sem, ↓upd_def, ↓evT, ↓aop, ↓aopc, ↓aopd, Nat.reduceEqDiff, Nat.reduceAdd, Nat.reduceLeDiff, Nat.reduceLT, Nat.reduceSub, Int.reduceToNat, ↓reduceIte, reduceCtorEq, toNat_3]; done)))); intros; apply hk; clear hk K) | ((first | apply qg1 rfl | apply qcd); focus (simp only [go_sem, ↓upd_def, ↓evT, ↓aop, ↓aopc, ↓aopd, Nat.reduceEqDiff, Nat.reduceAdd, Nat.reduceLeDiff, Nat.reduceLT, Nat.reduceSub, Int.reduceToNat, ↓reduceIte, reduceCtorEq, toNat_3]; exact rfl)) | (refine qj6 ?_ ?_ <;> intro hc <;> (try simp only [hc]) <;> (try simp only [decide_eq_true_eq, decide_eq_false_iff_not, Bool.not_eq_true', Bool.not_eq_false', Bool.not_eq_true, reduceCtorEq] at hc) <;> (try (exfalso; omega))) | (refine qk1 ?_ ?_; focus (repeat (first | exact qsub0 | (refine qsub1 ?_ ?_; focus (simp only [go_sem, ↓upd_def, ↓evT, ↓aop, ↓aopc, ↓aopd, Nat.reduceEqDiff, Nat.reduceAdd, Nat.reduceLeDiff, Nat.reduceLT, Nat.reduceSub, Int.reduceToNat, ↓reduceIte, reduceCtorEq, toNat_3]))))) | (refine qt7 ?_ ?_; focus decide) | (refine qw7 ?_ ?_ ?_; (focus (decide +kernel)); (focus (decide +kernel))))
    all_goals first
      | (have e : List.drop k (List.take (k + 3) s) = pct1 (ofI ↑c) := ‹_›
         rw [cut3 (by omega), h37] at e
         obtain ⟨e1, e2⟩ := pct1_inv e.symm
         rw [hv] at e2
         have hvc : v.toNat = c := by rw [← e2]; exact ofI_cast (by omega)
         have hok' : ok = true := by rw [← hok, e1, decide_eq_true (by omega)]; rfl
         refine s_again (c + 1) ?_ ?_ ?_ <;> (first | omega | (dsimp only; omega) | skip)
         simp [fits, fitsT, fitsM, upd_def, PV.nmb, nmbL, MB.nmb, List.getD_cons_zero, List.getD_cons_succ, fndV, fnd_yes hok' hvc, hvc]
         done)
      | (have e : ¬ List.drop k (List.take (k + 3) s) = pct1 (ofI ↑c) := ‹_›
         have hn : ok = false ∨ v.toNat ≠ c := by
           cases hq : ok with
           | false => exact .inl rfl
           | true =>
             right; intro h; apply e
             rw [hq, Bool.and_eq_true, decide_eq_true_eq] at hok
             rw [cut3 (by omega), h37, ← pct1_hex hok.2, hv, ← h, ofI_nat]
         refine s_again (c + 1) ?_ ?_ ?_ <;> (first | omega | (dsimp only; omega) | skip)
         simp [fits, fitsT, fitsM, upd_def, PV.nmb, nmbL, MB.nmb, List.getD_cons_zero, List.getD_cons_succ, fndV, fnd_no hn]
         done)
      | (have e : ¬ (k : Int) + 3 ≤ (s.length : Nat) := ‹_›
         have hn : ok = false ∨ v.toNat ≠ c := .inl (by rw [← hok, decide_eq_false (by omega)]; rfl)
         refine s_again (c + 1) ?_ ?_ ?_ <;> (first | omega | (dsimp only; omega) | skip)
         simp [fits, fitsT, fitsM, upd_def, PV.nmb, nmbL, MB.nmb, List.getD_cons_zero, List.getD_cons_succ, fndV, fnd_no hn]
         done)
      | (obtain rfl : c = 256 := by omega
         simp only [fndV, fnd_all] at *
         first
           | (have hq : ok = false := ‹_›
              ((first | refine fin_ret ?_ | refine fin_end ?_); simp only [go_sem, ↓upd_def, Nat.reduceEqDiff, Nat.reduceAdd, ↓reduceIte, reduceCtorEq])
              refine K_eq hK ?_
              rw [← spcP_un, hu]
              by_cases h3 : k + 2 < s.length
              · rw [spcP_hex h3 (by omega), if_neg]
                · rfl
                · rintro ⟨h4, _⟩; rw [← hok, h4, decide_eq_true h3] at hq; cases hq
              · rw [spcP_short (by omega) (by omega) (by omega)]; rfl)
           | (have hq : ok = true := ‹_›
              subst hq
              rw [Bool.and_eq_true, decide_eq_true_eq] at hok
              simp only [if_true] at *
              first
                | (have hq2 : plain3 v = true := ‹_›
                   ((first | refine fin_ret ?_ | refine fin_end ?_); simp only [go_sem, ↓upd_def, Nat.reduceEqDiff, Nat.reduceAdd, ↓reduceIte, reduceCtorEq])
                   refine K_eq hK ?_
                   rw [← spcP_un, hu, spcP_hex hok.1 (by omega), if_neg (by rw [hv, hq2]; simp)]; rfl)
                | (have hq2 : plain3 v = false := ‹_›
                   refine s_againR ((k + 3, out ++ [v])) (fun i => if i = 0 then 2 else i) ?_ ?_ ?_ ?_ ?_ ?_ <;> (first | omega | (dsimp only; omega) | (intro i hi; (try dsimp only); (repeat' split) <;> omega) | (intro i j hi hj h; (try dsimp only at h); (repeat' split at h) <;> omega) | skip)
                   · exact ⟨by dsimp only; omega, by simp; omega, by rw [hu, spcP_hex hok.1 (by omega), hv, if_pos ⟨hok.2, hq2⟩, map_map]⟩
                   · simp [fitsTR, fitsMR, PV.ren, renL, MB.ren, upd_def, PV.nmb, nmbL, MB.nmb, List.getD_cons_zero, List.getD_cons_succ, frz, drp]
                   · simp [fitsTR, fitsMR, PV.ren, renL, MB.ren, upd_def, PV.nmb, nmbL, MB.nmb, List.getD_cons_zero, List.getD_cons_succ, frz, drp, bc])))
  · ((first | refine fin_ret ?_ | refine fin_end ?_); simp only [go_sem, ↓upd_def, Nat.reduceEqDiff, Nat.reduceAdd, ↓reduceIte, reduceCtorEq])
    refine K_eq hK ?_
    rw [← spcP_un, hu, spcP_plain (by omega) (by omega), if_neg (by simp only [*]; decide)]; rfl
  · refine s_againR ((k + 1, out ++ [s.getD k 0])) (fun i => if i = 0 then 2 else i) ?_ ?_ ?_ ?_ ?_ ?_ <;> (first | omega | (dsimp only; omega) | (intro i hi; (try dsimp only); (repeat' split) <;> omega) | (intro i j hi hj h; (try dsimp only at h); (repeat' split at h) <;> omega) | skip)
    · exact ⟨by dsimp only; omega, by simp; omega, by rw [hu, spcP_plain (by omega) (by omega), if_pos (by assumption), map_map]⟩
    · simp [fitsTR, fitsMR, PV.ren, renL, MB.ren, upd_def, PV.nmb, nmbL, MB.nmb, List.getD_cons_zero, List.getD_cons_succ, frz, drp]
    · simp [fitsTR, fitsMR, PV.ren, renL, MB.ren, upd_def, PV.nmb, nmbL, MB.nmb, List.getD_cons_zero, List.getD_cons_succ, frz, drp, bc]
  · rw [List.drop_of_length_le (by omega), spcP] at hu
    simp only [Option.map_some, List.append_nil] at hu
    ((first | refine fin_ret ?_ | refine fin_end ?_); simp only [go_sem, ↓upd_def, Nat.reduceEqDiff, Nat.reduceAdd, ↓reduceIte, reduceCtorEq])
    refine K_eq hK ?_
    rw [← spcP_un, hu]; rfl
end Go.Proofs.Ytcagfbgplpokkaa
