/- Contracts: walkHoles with its closures; HolePlaces, NamePlaces. -/
import Derived.Test.YtdedddmnacomfaaZFG
import Derived.Test.YtdedddmnacomfaaZK3
import Derived.Test.YtdedddmnacomfaaZS10

namespace Go.Proofs.Ytdedddmnacomfaa
attribute [local irreducible] awp arun acalm FinP Fin AX.then AX.inBlock Again aG gsel amix amixN amixC aop aopc aopd cutK
attribute [local go_sem] aBSliceD aSlice aSliceC boundOf aMk aCall aCallC aLenL aLen aPick_t aPick_f aNil aAlloc aBox aBuild bldPV aBSlice bsPV aApp newsOf destOf drp aConvX aConv aConvInt aLoad cellsAt aStore cellsPV setAt aFld aField aIdx aIndex aUn aBin' aBin aMax aExtract pvOf PV.isCell nmbL PV.nmb List.map_cons List.map_nil List.all_cons List.all_nil Bool.and_true Bool.true_and if_true if_false List.getD_cons_zero List.getD_cons_succ List.getD_nil Option.isSome_some true_and and_true and_self eq_self true_or or_true List.drop_zero List.drop_succ_cons List.drop_nil List.take_zero List.take_succ_cons List.take_nil List.length_cons List.length_nil List.length_map Option.getD_some Option.getD_none List.nil_append List.cons_append List.append_nil Option.some.injEq exists_eq_left' List.getElem?_cons_zero List.getElem?_cons_succ Int.toNat_natCast Int.natCast_inj toNat_succ Nat.zero_add res res1 resC owns owns1 ownsC List.flatMap_cons List.flatMap_nil List.flatten_cons List.flatten_nil List.mem_cons List.not_mem_nil or_false false_or forall_eq forall_eq_or_imp isFro frz frz1 pureC tabA isBld List.cons.injEq PV.seq.injEq PV.int.injEq PV.str.injEq PV.bool.injEq PV.agg.injEq inR tab Γof aRes packR Option.map_some Option.map_none rel Prod.exists exists_and_left exists_eq_left and_assoc beq_self_eq_true Bool.not_true Bool.not_false decide_true decide_false List.set_cons_zero List.set_cons_succ rst_nil rst_cons
attribute [local go_sem ↓] evT upd_def aop aopc aopd
set_option maxRecDepth 100000
set_option linter.unusedVariables false
set_option linter.unusedSimpArgs false
open Go.RowKit
def lvX20_67 : Nat → List Nat
  | 0 => [1, 2, 3, 6]
  | 1 => [2, 3, 6, 10, 11, 12]
  | 2 => [2, 3, 6, 10, 11, 12, 13]
  | 3 => [2, 3, 6, 8, 10, 11, 12]
  | 4 => [2, 3, 6, 8, 10, 11, 12, 17]
  | 5 => [2, 3, 6, 8, 10, 11, 12, 17, 18]
  | 6 => [2, 3, 6, 10, 11, 12]
  | 7 => [2, 3, 6, 8, 10, 11, 12, 17, 24]
  | 8 => [2, 3, 6, 10, 11, 12]
  | 9 => [2, 3, 6, 10, 11, 12]
  | 10 => [2, 3, 6, 8, 10, 11, 12, 17, 33]
  | 11 => [2, 3, 6, 8, 9, 10, 11, 12]
  | 12 => [2, 3, 6, 9, 10, 11, 12]
  | 13 => [2, 3, 6, 10, 11, 12]
  | 14 => [2, 3, 6, 8, 10, 11, 12, 46]
  | 15 => [2, 3, 6, 10, 11, 12]
  | 16 => [2, 3, 6, 10, 11, 12]
  | 17 => [6]
  | _ => []
--LV=X20
def rowI (l : List Int) : MB := .gen (rowP 3 1) [.seq (ints l)]
theorem exl9 {α : Type} {p : α → Prop} {a : α} : (∃ x, a = x ∧ p x) ↔ p a := ⟨fun ⟨_, rfl, h⟩ => h, fun h => ⟨a, rfl, h⟩⟩
theorem pl_one (s : St) (l : List Int) : ints l ++ [[.int .i64 (placeM s)]] = ints (l ++ [placeM s]) := by rw [ints_append, ints_one]
theorem cb_h0 : ACok Try.prog 68 (locG (α := List (Bs × St) × Bs × St) (fun x => [.str x.2.1, .agg (encS x.2.2), .ref 0 0]) (fun x => .gen (rowP 3 1) [.seq (ints (plcs x.1))]) (fun x => x.1.length ≤ 1099511627776 ∧ stV x.2.2 = true ∧ x.2.1.length ≤ 9223372036854775807) (fun x r b' => ∃ es, b' = .gen (rowP 3 1) [.seq es] ∧ (r = .tup [] ∧ es = ints (plcs (x.1 ++ [x.2]))))) := by
  refine locB_ok 3 (tabA_nil (Γof_ok (tab_cons place_i tab_nil))) (tab_cons place_i tab_nil) mixed [] Try.func68 rfl rfl (by kernel_rfl) (by kernel_rfl) (fun _ => rfl) (by kernel_rfl) (fun x => by first | rfl | simp [nmbL, PV.nmb]) ?_
  rintro ⟨ev, nm, s⟩ K ⟨hl, hv, hnm⟩ hK
  dsimp only at *
  have ho := okS_of hv
  have hpb := placeM_bd s
  have hpl := plcs_len ev
  have hpn := fun m => plcN_len m ev
  have hal := ints_all
  unfold entry
  simp only [mkM]
  repeat' (first | (refine qw10 [2] [1, 2, 3] [1, 2, 3, 0, 4, 5] ?_ ?_; focus (decide +kernel)) | (first | ((first | apply qa1 | apply qa2 | apply qa3 | apply qh1 | apply qh2 | apply qm1 | apply qm2 | apply qm3 | apply qg1 rfl | apply qcd); (try intro K hk); focus (simp only [go_sem, Nat.reduceEqDiff, Nat.reduceAdd, Nat.reduceLeDiff, Nat.reduceLT, Nat.reduceSub, Int.reduceToNat, ↓reduceIte, reduceCtorEq, encS_eq, ex_St, St_eta, ints_length, hal, pl_one]; first | exact rfl | ((repeat (refine And.intro ?_ ?_; focus (first | omega | assumption | with_reducible rfl))); intros; apply hk; clear hk K))) | apply qw8 | apply qw1 | apply qw6 | apply qt1 | apply qw5 | apply qw2 | apply qw9 | apply qt2 | apply qt3 | apply qt4 | apply qt5 | apply qt6 | apply qw3 | apply qw4 | apply qj1 | apply qj2 | apply qj3 | apply qj4 | apply qj5 | apply qu1 | apply qu2 | apply qne | apply qyn | apply qyz | apply qy0 | refine qnt rfl rfl ?_ | refine qnf rfl rfl ?_ | refine qyc rfl ?_ | refine qy1 rfl ?_ | refine qy2 rfl ?_ ?_ | (refine qj6 ?_ ?_ <;> intro hc <;> (try simp only [hc]) <;> (try simp only [decide_eq_true_eq, decide_eq_false_iff_not, Bool.not_eq_true', Bool.not_eq_false', Bool.not_eq_true, reduceCtorEq] at hc) <;> (try (exfalso; omega))) | (refine qk1 ?_ ?_; focus (repeat (first | exact qsub0 | (refine qsub1 ?_ ?_; focus (simp only [go_sem, Nat.reduceEqDiff, Nat.reduceAdd, Nat.reduceLeDiff, Nat.reduceLT, Nat.reduceSub, Int.reduceToNat, ↓reduceIte, reduceCtorEq, encS_eq, ex_St, St_eta, ints_length, hal, pl_one]))))) | (refine qt7 ?_ ?_; focus decide) | (refine qw7 ?_ ?_ ?_; (focus (decide +kernel)); (focus (decide +kernel)))))
  ((first | refine fin_V ?_ | refine fin_Ve ?_ | refine fin_O ?_ | refine fin_Oe ?_ | refine fin_X ?_ | refine fin_Xe ?_ | refine fin_B ?_ | refine fin_Be ?_); simp only [go_sem, PV.own.injEq, MB.row.injEq, MB.nmb, not_false_eq_true, ne_eq, ↓upd_def, Nat.reduceEqDiff, Nat.reduceAdd, ↓reduceIte, reduceCtorEq])
  refine ⟨rfl, 3, rfl, _, rfl, ints_plain _, hK _ _ ⟨rfl, ?_⟩⟩
  rw [plcs_append]; rfl
theorem cb_h  : ACok Try.prog 68 (locG (α := List (Bs × St) × Bs × St) (fun x => [.str x.2.1, .agg (encS x.2.2), .ref 0 0]) (fun x => rowI (plcs x.1)) (fun x => x.1.length ≤ 1099511627776 ∧ stV x.2.2 = true ∧ x.2.1.length ≤ 9223372036854775807) (fun x r b' => r = .tup [] ∧ b' = rowI (plcs (x.1 ++ [x.2])))) := (cb_h0).via fun args mem n K h => by
  obtain ⟨x, i, h1, h2, h3, h4⟩ := h
  refine ⟨x, i, h1, h2, h3, ?_⟩
  rintro r b' ⟨es, rfl, rfl, rfl⟩
  exact h4 _ _ ⟨rfl, rfl⟩
@[go_sem] def whCh  (n : Nat) : AC := locG (α := List (Bs × St) × St × List PartD) (fun x => [.agg (encS x.2.1), .seq (encPs x.2.2), .clo 68 [.ref 0 0]]) (fun x => rowI (plcs x.1)) (fun x => wtL x.2.2 < n ∧ wtL x.2.2 ≤ 1073741824 ∧ stV x.2.1 = true ∧ x.1.length + (wkL x.2.1 x.2.2).1.length ≤ 1073741824) (fun x r b' => r = .agg (encS (wkL x.2.1 x.2.2).2) ∧ b' = rowI (plcs (x.1 ++ (wkL x.2.1 x.2.2).1)))
set_option maxHeartbeats 16000000 in
theorem wh_h  : ∀ n, ACok Try.prog 67 (whCh  n) := by
  intro n
  induction n with
  | zero => exact locG_never ⟨_, Try.func67, by kernel_rfl, by kernel_rfl⟩ (fun x h => absurd h.1 (Nat.not_lt_zero _))
  | succ n ih =>
  refine locG_ok 3 (tabA_cons ih (tabA_cons cb_h (tabA_nil (Γof_ok (tab_cons after_i (tab_cons beh_i tab_nil)))))) (tab_cons after_i (tab_cons beh_i tab_nil)) mixed [.cell 6 75] Try.func67 rfl rfl (by kernel_rfl) (by kernel_rfl) (fun _ => rfl) (by kernel_rfl) (fun x => by first | rfl | simp [nmbL, PV.nmb]) (fun x => by first | rfl | simp [go_sem, MB.nmb, nmbL, PV.nmb]) ?_
  rintro ⟨ev, s, xs⟩ K ⟨hn, hb, hv, hle⟩ hK
  dsimp only at *
  clear ih
  have hlw := len_le_wtL xs
  unfold entry
  repeat' (first | ((first | apply qwd | apply qa1 | apply qa2 | apply qa3 | apply qh1 | apply qh2 | apply qg1 rfl | apply qcd); (try intro K hk); focus (simp only [lvX20_67, mkT, go_sem, Nat.reduceEqDiff, Nat.reduceAdd, Nat.reduceLeDiff, Nat.reduceLT, Nat.reduceSub, Int.reduceToNat, ↓reduceIte, reduceCtorEq, encS_eq, ex_St, St_eta, encPs_length]; first | exact rfl | ((repeat (refine And.intro ?_ ?_; focus (first | omega | assumption | with_reducible rfl))); intros; apply hk; clear hk K))) | apply qw8 | apply qw1 | refine qwc lvX20_67 ?_ | apply qt1 | apply qw5 | apply qw2 | apply qw9 | apply qt2 | apply qt3 | apply qt4 | apply qt5 | apply qt6 | apply qw3 | apply qw4 | apply qj1 | apply qj2 | apply qj3 | apply qj4 | apply qj5 | apply qu1 | apply qu2 | (refine qj6 ?_ ?_ <;> intro hc <;> (try simp only [hc]) <;> (try simp only [decide_eq_true_eq, decide_eq_false_iff_not, Bool.not_eq_true', Bool.not_eq_false', Bool.not_eq_true, reduceCtorEq] at hc) <;> (try (exfalso; omega))) | (refine qt7 ?_ ?_; focus decide) | (refine qw7 ?_ ?_ ?_; (focus (decide +kernel)); (focus (decide +kernel))))
  refine s_loop (ι := Nat) (fun k => [(2, .clo 68 [.ref 0 0]), (3, .ref 1 0), (6, .ref 2 0), (10, .seq (encPs xs)), (11, .int .i64 xs.length), (12, .int .i64 k)]) (fun k => [(0, rowI (plcs (ev ++ (wkL s (xs.take k)).1))), (1, .box (encS (wkL s (xs.take k)).2)), (2, .box (encS st0))]) 3 (fun k => k ≤ xs.length) (fun k => xs.length - k) 0 (by omega) (Nat.zero_le _) ?_ ?_
  · simp [fits, fitsT, fitsM, upd_def, PV.nmb, nmbL, MB.nmb, List.getD_cons_zero, List.getD_cons_succ, mkM, rowI, wkL_nil, encS, st0]
  intro k hk
  have hvk := stV_wkL (xs.take k) s hv
  simp only [mkS, mkT, mkM]
  by_cases hkl : k < xs.length
  · obtain ⟨⟨kd, t, nm, ps, os⟩, hx⟩ := get_some (xs := xs) (k := k) (by omega)
    have htk := take_snoc' hx
    have ws := wtL_split hx
    rw [wtP_mk] at ws
    have hget := encPs_get xs
    have hs := wkL_snoc (s := s) hx
    have hpre := wk_pre s xs (k + 1)
    rw [wkP_mk] at hs
    have ho := okS_of hvk
    have hlp := len_le_wtL ps
    have hlo := len_le_wtL os
    generalize hcur : wkL s (xs.take k) = cur at *
    obtain ⟨evk, cu⟩ := cur
    dsimp only at hs hvk ho
    have hla : (ev ++ evk).length = ev.length + evk.length := List.length_append
    have wp := wk_leL ps cu
    have wo := wk_leL os cu
    have wp2 := wk_wt ps cu
    have wo2 := wk_wt os cu
    by_cases k1 : kd = 1
    · rw [if_pos k1] at hs
      repeat' (first | ((first | apply qwd | apply qa1 | apply qa2 | apply qa3 | apply qh1 | apply qh2 | apply qg1 rfl | apply qcd); (try intro K hk); focus (simp only [lvX20_67, mkT, go_sem, Nat.reduceEqDiff, Nat.reduceAdd, Nat.reduceLeDiff, Nat.reduceLT, Nat.reduceSub, Int.reduceToNat, ↓reduceIte, reduceCtorEq, encPs_length, hget, hx, encP_mk, encS_eq, ex_St, St_eta, k1, decide_true]; first | exact rfl | ((repeat (refine And.intro ?_ ?_; focus (first | omega | assumption | with_reducible rfl))); intros; apply hk; clear hk K))) | apply qw8 | apply qw1 | refine qwc lvX20_67 ?_ | apply qt1 | apply qw5 | apply qw2 | apply qw9 | apply qt2 | apply qt3 | apply qt4 | apply qt5 | apply qt6 | apply qw3 | apply qw4 | apply qj1 | apply qj2 | apply qj3 | apply qj4 | apply qj5 | apply qu1 | apply qu2 | (refine qj6 ?_ ?_ <;> intro hc <;> (try simp only [hc]) <;> (try simp only [decide_eq_true_eq, decide_eq_false_iff_not, Bool.not_eq_true', Bool.not_eq_false', Bool.not_eq_true, reduceCtorEq] at hc) <;> (try (exfalso; omega))) | (refine qt7 ?_ ?_; focus decide) | (refine qw7 ?_ ?_ ?_; (focus (decide +kernel)); (focus (decide +kernel))))
      refine s_again (k + 1) ?_ ?_ ?_ <;> (first | omega | (dsimp only; omega) | skip)
      simp [fits, fitsT, fitsM, upd_def, PV.nmb, nmbL, MB.nmb, List.getD_cons_zero, List.getD_cons_succ, rowI, hs, encS, st0]
    rw [if_neg k1] at hs
    by_cases k2 : kd = 2
    · rw [if_pos k2] at hs
      rw [hs] at hpre
      simp only [List.length_append, List.length_cons, List.length_nil] at hpre
      repeat' (first | ((first | apply qwd | apply qa1 | apply qa2 | apply qa3 | apply qh1 | apply qh2 | apply qg1 rfl | apply qcd); (try intro K hk); focus (simp only [lvX20_67, mkT, go_sem, Nat.reduceEqDiff, Nat.reduceAdd, Nat.reduceLeDiff, Nat.reduceLT, Nat.reduceSub, Int.reduceToNat, ↓reduceIte, reduceCtorEq, encPs_length, hget, hx, encP_mk, encS_eq, ex_St, St_eta, k1, k2, decide_true, decide_false]; first | exact rfl | ((repeat (refine And.intro ?_ ?_; focus (first | omega | assumption | with_reducible rfl))); intros; apply hk; clear hk K))) | apply qw8 | apply qw1 | refine qwc lvX20_67 ?_ | apply qt1 | apply qw5 | apply qw2 | apply qw9 | apply qt2 | apply qt3 | apply qt4 | apply qt5 | apply qt6 | apply qw3 | apply qw4 | apply qj1 | apply qj2 | apply qj3 | apply qj4 | apply qj5 | apply qu1 | apply qu2 | (refine qj6 ?_ ?_ <;> intro hc <;> (try simp only [hc]) <;> (try simp only [decide_eq_true_eq, decide_eq_false_iff_not, Bool.not_eq_true', Bool.not_eq_false', Bool.not_eq_true, reduceCtorEq] at hc) <;> (try (exfalso; omega))) | (refine qt7 ?_ ?_; focus decide) | (refine qw7 ?_ ?_ ?_; (focus (decide +kernel)); (focus (decide +kernel))))
      (refine qa1 fun K hk => ?_); simp only [go_sem, ↓upd_def, ↓evT, Nat.reduceEqDiff, Nat.reduceAdd, Nat.reduceLeDiff, Nat.reduceLT, Nat.reduceSub, Int.reduceToNat, ↓reduceIte, reduceCtorEq, ↓aop, ↓aopc, ↓aopd, encPs_length, hget, hx, encP_mk, encS_eq, ex_St, St_eta]; repeat (refine And.intro ?_ ?_; focus (first | omega | assumption | with_reducible rfl | (simp only [go_sem, ↓upd_def, ↓evT, Nat.reduceEqDiff, Nat.reduceAdd, Nat.reduceLeDiff, Nat.reduceLT, Nat.reduceSub, Int.reduceToNat, ↓reduceIte, reduceCtorEq, ↓aop, ↓aopc, ↓aopd, encPs_length, hget, hx, encP_mk, encS_eq, ex_St, St_eta]; done)))
      unfold locG
      refine ⟨(ev ++ evk, nm, cu), 0, rfl, rfl, ⟨by dsimp only; omega, hvk, by dsimp only; omega⟩, ?_⟩
      rintro r b' ⟨rfl, rfl⟩
      apply hk; clear hk K
      dsimp only
      repeat' (first | ((first | apply qwd | apply qa1 | apply qa2 | apply qa3 | apply qh1 | apply qh2 | apply qg1 rfl | apply qcd); (try intro K hk); focus (simp only [lvX20_67, mkT, go_sem, Nat.reduceEqDiff, Nat.reduceAdd, Nat.reduceLeDiff, Nat.reduceLT, Nat.reduceSub, Int.reduceToNat, ↓reduceIte, reduceCtorEq, encPs_length, hget, hx, encP_mk, encS_eq, ex_St, St_eta, k1, k2]; first | exact rfl | ((repeat (refine And.intro ?_ ?_; focus (first | omega | assumption | with_reducible rfl))); intros; apply hk; clear hk K))) | apply qw8 | apply qw1 | refine qwc lvX20_67 ?_ | apply qt1 | apply qw5 | apply qw2 | apply qw9 | apply qt2 | apply qt3 | apply qt4 | apply qt5 | apply qt6 | apply qw3 | apply qw4 | apply qj1 | apply qj2 | apply qj3 | apply qj4 | apply qj5 | apply qu1 | apply qu2 | (refine qj6 ?_ ?_ <;> intro hc <;> (try simp only [hc]) <;> (try simp only [decide_eq_true_eq, decide_eq_false_iff_not, Bool.not_eq_true', Bool.not_eq_false', Bool.not_eq_true, reduceCtorEq] at hc) <;> (try (exfalso; omega))) | (refine qt7 ?_ ?_; focus decide) | (refine qw7 ?_ ?_ ?_; (focus (decide +kernel)); (focus (decide +kernel))))
      refine s_again (k + 1) ?_ ?_ ?_ <;> (first | omega | (dsimp only; omega) | skip)
      simp [fits, fitsT, fitsM, upd_def, PV.nmb, nmbL, MB.nmb, List.getD_cons_zero, List.getD_cons_succ, rowI, hs, List.append_assoc, encS, st0]
    rw [if_neg k2] at hs
    by_cases k3 : kd = 3
    · rw [if_pos k3] at hs
      rw [hs] at hpre
      simp only [List.length_append] at hpre
      repeat' (first | ((first | apply qwd | apply qa1 | apply qa2 | apply qa3 | apply qh1 | apply qh2 | apply qg1 rfl | apply qcd); (try intro K hk); focus (simp only [lvX20_67, mkT, go_sem, Nat.reduceEqDiff, Nat.reduceAdd, Nat.reduceLeDiff, Nat.reduceLT, Nat.reduceSub, Int.reduceToNat, ↓reduceIte, reduceCtorEq, encPs_length, hget, hx, encP_mk, encS_eq, ex_St, St_eta, k1, k2, k3, decide_true, decide_false]; first | exact rfl | ((repeat (refine And.intro ?_ ?_; focus (first | omega | assumption | with_reducible rfl))); intros; apply hk; clear hk K))) | apply qw8 | apply qw1 | refine qwc lvX20_67 ?_ | apply qt1 | apply qw5 | apply qw2 | apply qw9 | apply qt2 | apply qt3 | apply qt4 | apply qt5 | apply qt6 | apply qw3 | apply qw4 | apply qj1 | apply qj2 | apply qj3 | apply qj4 | apply qj5 | apply qu1 | apply qu2 | (refine qj6 ?_ ?_ <;> intro hc <;> (try simp only [hc]) <;> (try simp only [decide_eq_true_eq, decide_eq_false_iff_not, Bool.not_eq_true', Bool.not_eq_false', Bool.not_eq_true, reduceCtorEq] at hc) <;> (try (exfalso; omega))) | (refine qt7 ?_ ?_; focus decide) | (refine qw7 ?_ ?_ ?_; (focus (decide +kernel)); (focus (decide +kernel))))
      (refine qa1 fun K hk => ?_); simp only [go_sem, ↓upd_def, ↓evT, Nat.reduceEqDiff, Nat.reduceAdd, Nat.reduceLeDiff, Nat.reduceLT, Nat.reduceSub, Int.reduceToNat, ↓reduceIte, reduceCtorEq, ↓aop, ↓aopc, ↓aopd, encPs_length, hget, hx, encP_mk, encS_eq, ex_St, St_eta]; repeat (refine And.intro ?_ ?_; focus (first | omega | assumption | with_reducible rfl | (simp only [go_sem, ↓upd_def, ↓evT, Nat.reduceEqDiff, Nat.reduceAdd, Nat.reduceLeDiff, Nat.reduceLT, Nat.reduceSub, Int.reduceToNat, ↓reduceIte, reduceCtorEq, ↓aop, ↓aopc, ↓aopd, encPs_length, hget, hx, encP_mk, encS_eq, ex_St, St_eta]; done)))
      unfold locG
      refine ⟨(ev ++ evk, cu, ps), 0, rfl, rfl, ⟨by dsimp only; omega, by dsimp only; omega, hvk, by dsimp only; omega⟩, ?_⟩
      rintro r b' ⟨rfl, rfl⟩
      apply hk; clear hk K
      dsimp only
      have hlb : (ev ++ evk ++ (wkL cu ps).1).length = (ev ++ evk).length + (wkL cu ps).1.length := List.length_append
      repeat' (first | ((first | apply qwd | apply qa1 | apply qa2 | apply qa3 | apply qh1 | apply qh2 | apply qg1 rfl | apply qcd); (try intro K hk); focus (simp only [lvX20_67, mkT, go_sem, Nat.reduceEqDiff, Nat.reduceAdd, Nat.reduceLeDiff, Nat.reduceLT, Nat.reduceSub, Int.reduceToNat, ↓reduceIte, reduceCtorEq, encPs_length, hget, hx, encP_mk, encS_eq, ex_St, St_eta, k1, k2, k3]; first | exact rfl | ((repeat (refine And.intro ?_ ?_; focus (first | omega | assumption | with_reducible rfl))); intros; apply hk; clear hk K))) | apply qw8 | apply qw1 | refine qwc lvX20_67 ?_ | apply qt1 | apply qw5 | apply qw2 | apply qw9 | apply qt2 | apply qt3 | apply qt4 | apply qt5 | apply qt6 | apply qw3 | apply qw4 | apply qj1 | apply qj2 | apply qj3 | apply qj4 | apply qj5 | apply qu1 | apply qu2 | (refine qj6 ?_ ?_ <;> intro hc <;> (try simp only [hc]) <;> (try simp only [decide_eq_true_eq, decide_eq_false_iff_not, Bool.not_eq_true', Bool.not_eq_false', Bool.not_eq_true, reduceCtorEq] at hc) <;> (try (exfalso; omega))) | (refine qt7 ?_ ?_; focus decide) | (refine qw7 ?_ ?_ ?_; (focus (decide +kernel)); (focus (decide +kernel))))
      (refine qa1 fun K hk => ?_); simp only [go_sem, ↓upd_def, ↓evT, Nat.reduceEqDiff, Nat.reduceAdd, Nat.reduceLeDiff, Nat.reduceLT, Nat.reduceSub, Int.reduceToNat, ↓reduceIte, reduceCtorEq, ↓aop, ↓aopc, ↓aopd, encPs_length, hget, hx, encP_mk, encS_eq, ex_St, St_eta]; repeat (refine And.intro ?_ ?_; focus (first | omega | assumption | with_reducible rfl | (simp only [go_sem, ↓upd_def, ↓evT, Nat.reduceEqDiff, Nat.reduceAdd, Nat.reduceLeDiff, Nat.reduceLT, Nat.reduceSub, Int.reduceToNat, ↓reduceIte, reduceCtorEq, ↓aop, ↓aopc, ↓aopd, encPs_length, hget, hx, encP_mk, encS_eq, ex_St, St_eta]; done)))
      unfold locG
      refine ⟨(ev ++ evk ++ (wkL cu ps).1, cu, os), 0, rfl, rfl, ⟨by dsimp only; omega, by dsimp only; omega, hvk, by dsimp only; omega⟩, ?_⟩
      rintro r b' ⟨rfl, rfl⟩
      apply hk; clear hk K
      dsimp only
      repeat' (first | ((first | apply qwd | apply qa1 | apply qa2 | apply qa3 | apply qh1 | apply qh2 | apply qg1 rfl | apply qcd); (try intro K hk); focus (simp only [lvX20_67, mkT, go_sem, Nat.reduceEqDiff, Nat.reduceAdd, Nat.reduceLeDiff, Nat.reduceLT, Nat.reduceSub, Int.reduceToNat, ↓reduceIte, reduceCtorEq, encPs_length, hget, hx, encP_mk, encS_eq, ex_St, St_eta, k1, k2, k3]; first | exact rfl | ((repeat (refine And.intro ?_ ?_; focus (first | omega | assumption | with_reducible rfl))); intros; apply hk; clear hk K))) | apply qw8 | apply qw1 | refine qwc lvX20_67 ?_ | apply qt1 | apply qw5 | apply qw2 | apply qw9 | apply qt2 | apply qt3 | apply qt4 | apply qt5 | apply qt6 | apply qw3 | apply qw4 | apply qj1 | apply qj2 | apply qj3 | apply qj4 | apply qj5 | apply qu1 | apply qu2 | (refine qj6 ?_ ?_ <;> intro hc <;> (try simp only [hc]) <;> (try simp only [decide_eq_true_eq, decide_eq_false_iff_not, Bool.not_eq_true', Bool.not_eq_false', Bool.not_eq_true, reduceCtorEq] at hc) <;> (try (exfalso; omega))) | (refine qt7 ?_ ?_; focus decide) | (refine qw7 ?_ ?_ ?_; (focus (decide +kernel)); (focus (decide +kernel))))
      refine s_again (k + 1) ?_ ?_ ?_ <;> (first | omega | (dsimp only; omega) | skip)
      simp [fits, fitsT, fitsM, upd_def, PV.nmb, nmbL, MB.nmb, List.getD_cons_zero, List.getD_cons_succ, rowI, hs, List.append_assoc, encS, st0]
    rw [if_neg k3] at hs
    by_cases k4 : kd = 4
    · rw [if_pos k4] at hs
      rw [hs] at hpre
      simp only [List.length_append] at hpre
      repeat' (first | ((first | apply qwd | apply qa1 | apply qa2 | apply qa3 | apply qh1 | apply qh2 | apply qg1 rfl | apply qcd); (try intro K hk); focus (simp only [lvX20_67, mkT, go_sem, Nat.reduceEqDiff, Nat.reduceAdd, Nat.reduceLeDiff, Nat.reduceLT, Nat.reduceSub, Int.reduceToNat, ↓reduceIte, reduceCtorEq, encPs_length, hget, hx, encP_mk, encS_eq, ex_St, St_eta, k1, k2, k3, k4, decide_true, decide_false]; first | exact rfl | ((repeat (refine And.intro ?_ ?_; focus (first | omega | assumption | with_reducible rfl))); intros; apply hk; clear hk K))) | apply qw8 | apply qw1 | refine qwc lvX20_67 ?_ | apply qt1 | apply qw5 | apply qw2 | apply qw9 | apply qt2 | apply qt3 | apply qt4 | apply qt5 | apply qt6 | apply qw3 | apply qw4 | apply qj1 | apply qj2 | apply qj3 | apply qj4 | apply qj5 | apply qu1 | apply qu2 | (refine qj6 ?_ ?_ <;> intro hc <;> (try simp only [hc]) <;> (try simp only [decide_eq_true_eq, decide_eq_false_iff_not, Bool.not_eq_true', Bool.not_eq_false', Bool.not_eq_true, reduceCtorEq] at hc) <;> (try (exfalso; omega))) | (refine qt7 ?_ ?_; focus decide) | (refine qw7 ?_ ?_ ?_; (focus (decide +kernel)); (focus (decide +kernel))))
      (refine qa1 fun K hk => ?_); simp only [go_sem, ↓upd_def, ↓evT, Nat.reduceEqDiff, Nat.reduceAdd, Nat.reduceLeDiff, Nat.reduceLT, Nat.reduceSub, Int.reduceToNat, ↓reduceIte, reduceCtorEq, ↓aop, ↓aopc, ↓aopd, encPs_length, hget, hx, encP_mk, encS_eq, ex_St, St_eta]; repeat (refine And.intro ?_ ?_; focus (first | omega | assumption | with_reducible rfl | (simp only [go_sem, ↓upd_def, ↓evT, Nat.reduceEqDiff, Nat.reduceAdd, Nat.reduceLeDiff, Nat.reduceLT, Nat.reduceSub, Int.reduceToNat, ↓reduceIte, reduceCtorEq, ↓aop, ↓aopc, ↓aopd, encPs_length, hget, hx, encP_mk, encS_eq, ex_St, St_eta]; done)))
      unfold locG
      refine ⟨(ev ++ evk, cu, ps), 0, rfl, rfl, ⟨by dsimp only; omega, by dsimp only; omega, hvk, by dsimp only; omega⟩, ?_⟩
      rintro r b' ⟨rfl, rfl⟩
      apply hk; clear hk K
      dsimp only
      repeat' (first | ((first | apply qwd | apply qa1 | apply qa2 | apply qa3 | apply qh1 | apply qh2 | apply qg1 rfl | apply qcd); (try intro K hk); focus (simp only [lvX20_67, mkT, go_sem, Nat.reduceEqDiff, Nat.reduceAdd, Nat.reduceLeDiff, Nat.reduceLT, Nat.reduceSub, Int.reduceToNat, ↓reduceIte, reduceCtorEq, encPs_length, hget, hx, encP_mk, encS_eq, ex_St, St_eta, k1, k2, k3, k4]; first | exact rfl | ((repeat (refine And.intro ?_ ?_; focus (first | omega | assumption | with_reducible rfl))); intros; apply hk; clear hk K))) | apply qw8 | apply qw1 | refine qwc lvX20_67 ?_ | apply qt1 | apply qw5 | apply qw2 | apply qw9 | apply qt2 | apply qt3 | apply qt4 | apply qt5 | apply qt6 | apply qw3 | apply qw4 | apply qj1 | apply qj2 | apply qj3 | apply qj4 | apply qj5 | apply qu1 | apply qu2 | (refine qj6 ?_ ?_ <;> intro hc <;> (try simp only [hc]) <;> (try simp only [decide_eq_true_eq, decide_eq_false_iff_not, Bool.not_eq_true', Bool.not_eq_false', Bool.not_eq_true, reduceCtorEq] at hc) <;> (try (exfalso; omega))) | (refine qt7 ?_ ?_; focus decide) | (refine qw7 ?_ ?_ ?_; (focus (decide +kernel)); (focus (decide +kernel))))
      refine s_again (k + 1) ?_ ?_ ?_ <;> (first | omega | (dsimp only; omega) | skip)
      simp [fits, fitsT, fitsM, upd_def, PV.nmb, nmbL, MB.nmb, List.getD_cons_zero, List.getD_cons_succ, rowI, hs, List.append_assoc, encS, st0]
    · rw [if_neg k4] at hs
      repeat' (first | ((first | apply qwd | apply qa1 | apply qa2 | apply qa3 | apply qh1 | apply qh2 | apply qg1 rfl | apply qcd); (try intro K hk); focus (simp only [lvX20_67, mkT, go_sem, Nat.reduceEqDiff, Nat.reduceAdd, Nat.reduceLeDiff, Nat.reduceLT, Nat.reduceSub, Int.reduceToNat, ↓reduceIte, reduceCtorEq, encPs_length, hget, hx, encP_mk, encS_eq, ex_St, St_eta, k1, k2, k3, k4, decide_false]; first | exact rfl | ((repeat (refine And.intro ?_ ?_; focus (first | omega | assumption | with_reducible rfl))); intros; apply hk; clear hk K))) | apply qw8 | apply qw1 | refine qwc lvX20_67 ?_ | apply qt1 | apply qw5 | apply qw2 | apply qw9 | apply qt2 | apply qt3 | apply qt4 | apply qt5 | apply qt6 | apply qw3 | apply qw4 | apply qj1 | apply qj2 | apply qj3 | apply qj4 | apply qj5 | apply qu1 | apply qu2 | (refine qj6 ?_ ?_ <;> intro hc <;> (try simp only [hc]) <;> (try simp only [decide_eq_true_eq, decide_eq_false_iff_not, Bool.not_eq_true', Bool.not_eq_false', Bool.not_eq_true, reduceCtorEq] at hc) <;> (try (exfalso; omega))) | (refine qt7 ?_ ?_; focus decide) | (refine qw7 ?_ ?_ ?_; (focus (decide +kernel)); (focus (decide +kernel))))
      refine s_again (k + 1) ?_ ?_ ?_ <;> (first | omega | (dsimp only; omega) | skip)
      simp [fits, fitsT, fitsM, upd_def, PV.nmb, nmbL, MB.nmb, List.getD_cons_zero, List.getD_cons_succ, rowI, hs, encS, st0]
  · obtain rfl : k = xs.length := by omega
    repeat' (first | ((first | apply qwd | apply qa1 | apply qa2 | apply qa3 | apply qh1 | apply qh2 | apply qg1 rfl | apply qcd); (try intro K hk); focus (simp only [lvX20_67, mkT, go_sem, Nat.reduceEqDiff, Nat.reduceAdd, Nat.reduceLeDiff, Nat.reduceLT, Nat.reduceSub, Int.reduceToNat, ↓reduceIte, reduceCtorEq, encPs_length, encS_eq, ex_St, St_eta]; first | exact rfl | ((repeat (refine And.intro ?_ ?_; focus (first | omega | assumption | with_reducible rfl))); intros; apply hk; clear hk K))) | apply qw8 | apply qw1 | refine qwc lvX20_67 ?_ | apply qt1 | apply qw5 | apply qw2 | apply qw9 | apply qt2 | apply qt3 | apply qt4 | apply qt5 | apply qt6 | apply qw3 | apply qw4 | apply qj1 | apply qj2 | apply qj3 | apply qj4 | apply qj5 | apply qu1 | apply qu2 | (refine qj6 ?_ ?_ <;> intro hc <;> (try simp only [hc]) <;> (try simp only [decide_eq_true_eq, decide_eq_false_iff_not, Bool.not_eq_true', Bool.not_eq_false', Bool.not_eq_true, reduceCtorEq] at hc) <;> (try (exfalso; omega))) | (refine qt7 ?_ ?_; focus decide) | (refine qw7 ?_ ?_ ?_; (focus (decide +kernel)); (focus (decide +kernel))))
    ((first | refine fin_V ?_ | refine fin_Ve ?_ | refine fin_O ?_ | refine fin_Oe ?_ | refine fin_X ?_ | refine fin_Xe ?_ | refine fin_B ?_ | refine fin_Be ?_); simp only [go_sem, PV.own.injEq, MB.row.injEq, MB.nmb, not_false_eq_true, ne_eq, ↓upd_def, Nat.reduceEqDiff, Nat.reduceAdd, ↓reduceIte, reduceCtorEq])
    rw [List.take_length] at *
    exact ⟨Nat.le_refl _, rfl, hK _ _ ⟨rfl, rfl⟩⟩
@[go_sem] def whQh  : AC := locG (α := List (Bs × St) × St × List PartD) (fun x => [.agg (encS x.2.1), .seq (encPs x.2.2), .clo 68 [.ref 0 0]]) (fun x => rowI (plcs x.1)) (fun x => wtL x.2.2 ≤ 1073741824 ∧ stV x.2.1 = true ∧ x.1.length + (wkL x.2.1 x.2.2).1.length ≤ 1073741824) (fun x r b' => r = .agg (encS (wkL x.2.1 x.2.2).2) ∧ b' = rowI (plcs (x.1 ++ (wkL x.2.1 x.2.2).1)))
theorem whQ_h  : ACok Try.prog 67 (whQh ) := ⟨(wh_h  0).fn, fun c mem n av vs K hI hn hr hC => by
  obtain ⟨x, i, h1, h2, h3, h4⟩ := hC
  exact (wh_h  (wtL x.2.2 + 1)).run c mem n av vs K hI hn hr ⟨x, i, h1, h2, ⟨Nat.lt_succ_self _, h3⟩, h4⟩⟩
@[go_sem] def whOh : AC := fun args mem n K => match args with
  | [.agg c, .seq es, .clo f [.ref i o]] => (match mem i with
    | some (.box [.own j]) => (match mem j with
      | some (.row e s rs) => f = 68 ∧ o = 0 ∧ e = 3 ∧ s = 1 ∧ rs = [] ∧ c = encS st0 ∧ ∃ xs, es = encPs xs ∧ wtL xs ≤ 1073741824 ∧ K (.agg (encS (wkL st0 xs).2)) (upd (upd (upd mem j none) i (some (.box [.own n]))) n (some (.row 3 1 (ints (plcs (wkL st0 xs).1))))) (n + 1)
      | _ => False)
    | _ => False)
  | _ => False
theorem whO_h : ACok Try.prog 67 whOh := (seenR_ok (e := 3) (s := 1) whQ_h).via fun args mem n K h => by
  unfold whOh at h
  split at h
  · rename_i c es f i o
    split at h
    · rename_i j hi
      split at h
      · rename_i e s rs hj
        obtain ⟨rfl, rfl, rfl, rfl, rfl, rfl, xs, rfl, hw, hK⟩ := h
        refine ⟨i, j, [], hi, hj, rfl, ([], st0, xs), i, rfl, upd_same _ _ _, ⟨hw, stV_st0, ?_⟩, ?_⟩
        · have := wk_wt xs st0
          dsimp only [List.length_nil]; omega
        rintro r b' ⟨rfl, rfl⟩
        refine ⟨_, upd_same _ _ _, ?_⟩
        have em : upd (upd (upd (upd (upd mem j none) i (some (MB.gen (rowP 3 1) [.seq []]))) i (some (rowI (plcs ([] ++ (wkL st0 xs).1))))) i (some (.box [.own n]))) n (some (.row 3 1 (ints (plcs ([] ++ (wkL st0 xs).1))))) = upd (upd (upd mem j none) i (some (.box [.own n]))) n (some (.row 3 1 (ints (plcs (wkL st0 xs).1)))) := by
          funext l
          simp only [upd, List.nil_append]
          (repeat' split) <;> rfl
        exact em ▸ hK
      · exact h.elim
    · exact h.elim
  · exact h.elim
theorem cb_n0 (m : Bs) : ACok Try.prog 71 (locG (α := List (Bs × St) × Bs × St) (fun x => [.str x.2.1, .agg (encS x.2.2), .eref [.str m], .ref 0 0]) (fun x => .gen (rowP 3 1) [.seq (ints (plcN m x.1))]) (fun x => x.1.length ≤ 1099511627776 ∧ stV x.2.2 = true ∧ x.2.1.length ≤ 9223372036854775807 ∧ m.length ≤ 9223372036854775807) (fun x r b' => ∃ es, b' = .gen (rowP 3 1) [.seq es] ∧ (r = .tup [] ∧ es = ints (plcN m (x.1 ++ [x.2]))))) := by
  refine locB_ok 4 (tabA_nil (Γof_ok (tab_cons place_i tab_nil))) (tab_cons place_i tab_nil) mixed [] Try.func71 rfl rfl (by kernel_rfl) (by kernel_rfl) (fun _ => rfl) (by kernel_rfl) (fun x => by first | rfl | simp [nmbL, PV.nmb]) ?_
  rintro ⟨ev, nm, s⟩ K ⟨hl, hv, hnm, hml⟩ hK
  dsimp only at *
  have ho := okS_of hv
  have hpb := placeM_bd s
  have hpl := plcs_len ev
  have hpn := fun m => plcN_len m ev
  have hal := ints_all
  unfold entry
  simp only [mkM]
  have hone := plcN_one m nm s
  have hpm := plcN_len m ev
  by_cases hq : nm = m
  · repeat' (first | (refine qw10 [2] [1, 2, 3] [1, 2, 3, 0, 4, 5] ?_ ?_; focus (decide +kernel)) | (first | ((first | apply qa1 | apply qa2 | apply qa3 | apply qh1 | apply qh2 | apply qm1 | apply qm2 | apply qm3 | apply qg1 rfl | apply qcd); (try intro K hk); focus (simp only [go_sem, Nat.reduceEqDiff, Nat.reduceAdd, Nat.reduceLeDiff, Nat.reduceLT, Nat.reduceSub, Int.reduceToNat, ↓reduceIte, reduceCtorEq, encS_eq, ex_St, St_eta, ints_length, hal, pl_one, hq, decide_true]; first | exact rfl | ((repeat (refine And.intro ?_ ?_; focus (first | omega | assumption | with_reducible rfl))); intros; apply hk; clear hk K))) | apply qw8 | apply qw1 | apply qw6 | apply qt1 | apply qw5 | apply qw2 | apply qw9 | apply qt2 | apply qt3 | apply qt4 | apply qt5 | apply qt6 | apply qw3 | apply qw4 | apply qj1 | apply qj2 | apply qj3 | apply qj4 | apply qj5 | apply qu1 | apply qu2 | apply qne | apply qyn | apply qyz | apply qy0 | refine qnt rfl rfl ?_ | refine qnf rfl rfl ?_ | refine qyc rfl ?_ | refine qy1 rfl ?_ | refine qy2 rfl ?_ ?_ | (refine qj6 ?_ ?_ <;> intro hc <;> (try simp only [hc]) <;> (try simp only [decide_eq_true_eq, decide_eq_false_iff_not, Bool.not_eq_true', Bool.not_eq_false', Bool.not_eq_true, reduceCtorEq] at hc) <;> (try (exfalso; omega))) | (refine qk1 ?_ ?_; focus (repeat (first | exact qsub0 | (refine qsub1 ?_ ?_; focus (simp only [go_sem, Nat.reduceEqDiff, Nat.reduceAdd, Nat.reduceLeDiff, Nat.reduceLT, Nat.reduceSub, Int.reduceToNat, ↓reduceIte, reduceCtorEq, encS_eq, ex_St, St_eta, ints_length, hal, pl_one, hq, decide_true]))))) | (refine qt7 ?_ ?_; focus decide) | (refine qw7 ?_ ?_ ?_; (focus (decide +kernel)); (focus (decide +kernel)))))
    ((first | refine fin_V ?_ | refine fin_Ve ?_ | refine fin_O ?_ | refine fin_Oe ?_ | refine fin_X ?_ | refine fin_Xe ?_ | refine fin_B ?_ | refine fin_Be ?_); simp only [go_sem, PV.own.injEq, MB.row.injEq, MB.nmb, not_false_eq_true, ne_eq, ↓upd_def, Nat.reduceEqDiff, Nat.reduceAdd, ↓reduceIte, reduceCtorEq])
    refine ⟨rfl, 3, rfl, _, rfl, ints_plain _, hK _ _ ⟨rfl, ?_⟩⟩
    rw [plcN_append, hone, if_pos hq]
  · repeat' (first | ((first | apply qa1 | apply qa2 | apply qa3 | apply qh1 | apply qh2 | apply qm1 | apply qm2 | apply qm3 | apply qg1 rfl | apply qcd); (try intro K hk); focus (simp only [go_sem, Nat.reduceEqDiff, Nat.reduceAdd, Nat.reduceLeDiff, Nat.reduceLT, Nat.reduceSub, Int.reduceToNat, ↓reduceIte, reduceCtorEq, encS_eq, ex_St, St_eta, ints_length, hal, hq, decide_false]; first | exact rfl | ((repeat (refine And.intro ?_ ?_; focus (first | omega | assumption | with_reducible rfl))); intros; apply hk; clear hk K))) | apply qw8 | apply qw1 | apply qw6 | apply qt1 | apply qw5 | apply qw2 | apply qw9 | apply qt2 | apply qt3 | apply qt4 | apply qt5 | apply qt6 | apply qw3 | apply qw4 | apply qj1 | apply qj2 | apply qj3 | apply qj4 | apply qj5 | apply qu1 | apply qu2 | apply qne | apply qyn | apply qyz | apply qy0 | refine qnt rfl rfl ?_ | refine qnf rfl rfl ?_ | refine qyc rfl ?_ | refine qy1 rfl ?_ | refine qy2 rfl ?_ ?_ | (refine qj6 ?_ ?_ <;> intro hc <;> (try simp only [hc]) <;> (try simp only [decide_eq_true_eq, decide_eq_false_iff_not, Bool.not_eq_true', Bool.not_eq_false', Bool.not_eq_true, reduceCtorEq] at hc) <;> (try (exfalso; omega))) | (refine qk1 ?_ ?_; focus (repeat (first | exact qsub0 | (refine qsub1 ?_ ?_; focus (simp only [go_sem, Nat.reduceEqDiff, Nat.reduceAdd, Nat.reduceLeDiff, Nat.reduceLT, Nat.reduceSub, Int.reduceToNat, ↓reduceIte, reduceCtorEq, encS_eq, ex_St, St_eta, ints_length, hal, hq, decide_false]))))) | (refine qt7 ?_ ?_; focus decide) | (refine qw7 ?_ ?_ ?_; (focus (decide +kernel)); (focus (decide +kernel))))
    ((first | refine fin_V ?_ | refine fin_Ve ?_ | refine fin_O ?_ | refine fin_Oe ?_ | refine fin_X ?_ | refine fin_Xe ?_ | refine fin_B ?_ | refine fin_Be ?_); simp only [go_sem, PV.own.injEq, MB.row.injEq, MB.nmb, not_false_eq_true, ne_eq, ↓upd_def, Nat.reduceEqDiff, Nat.reduceAdd, ↓reduceIte, reduceCtorEq])
    refine ⟨rfl, 1, rfl, _, rfl, ints_plain _, hK _ _ ⟨rfl, ?_⟩⟩
    rw [plcN_append, hone, if_neg hq, List.append_nil]
theorem cb_n (m : Bs) : ACok Try.prog 71 (locG (α := List (Bs × St) × Bs × St) (fun x => [.str x.2.1, .agg (encS x.2.2), .eref [.str m], .ref 0 0]) (fun x => rowI (plcN m x.1)) (fun x => x.1.length ≤ 1099511627776 ∧ stV x.2.2 = true ∧ x.2.1.length ≤ 9223372036854775807 ∧ m.length ≤ 9223372036854775807) (fun x r b' => r = .tup [] ∧ b' = rowI (plcN m (x.1 ++ [x.2])))) := (cb_n0 m).via fun args mem n K h => by
  obtain ⟨x, i, h1, h2, h3, h4⟩ := h
  refine ⟨x, i, h1, h2, h3, ?_⟩
  rintro r b' ⟨es, rfl, rfl, rfl⟩
  exact h4 _ _ ⟨rfl, rfl⟩
@[go_sem] def whCn (m : Bs) (n : Nat) : AC := locG (α := List (Bs × St) × St × List PartD) (fun x => [.agg (encS x.2.1), .seq (encPs x.2.2), .clo 71 [.eref [.str m], .ref 0 0]]) (fun x => rowI (plcN m x.1)) (fun x => wtL x.2.2 < n ∧ wtL x.2.2 ≤ 1073741824 ∧ stV x.2.1 = true ∧ x.1.length + (wkL x.2.1 x.2.2).1.length ≤ 1073741824 ∧ m.length ≤ 9223372036854775807) (fun x r b' => r = .agg (encS (wkL x.2.1 x.2.2).2) ∧ b' = rowI (plcN m (x.1 ++ (wkL x.2.1 x.2.2).1)))
set_option maxHeartbeats 16000000 in
theorem wh_n (m : Bs) : ∀ n, ACok Try.prog 67 (whCn  m n) := by
  intro n
  induction n with
  | zero => exact locG_never ⟨_, Try.func67, by kernel_rfl, by kernel_rfl⟩ (fun x h => absurd h.1 (Nat.not_lt_zero _))
  | succ n ih =>
  refine locG_ok 3 (tabA_cons ih (tabA_cons (cb_n m) (tabA_nil (Γof_ok (tab_cons after_i (tab_cons beh_i tab_nil)))))) (tab_cons after_i (tab_cons beh_i tab_nil)) mixed [.cell 6 75] Try.func67 rfl rfl (by kernel_rfl) (by kernel_rfl) (fun _ => rfl) (by kernel_rfl) (fun x => by first | rfl | simp [nmbL, PV.nmb]) (fun x => by first | rfl | simp [go_sem, MB.nmb, nmbL, PV.nmb]) ?_
  rintro ⟨ev, s, xs⟩ K ⟨hn, hb, hv, hle, hml⟩ hK
  dsimp only at *
  clear ih
  have hlw := len_le_wtL xs
  unfold entry
  repeat' (first | ((first | apply qwd | apply qa1 | apply qa2 | apply qa3 | apply qh1 | apply qh2 | apply qg1 rfl | apply qcd); (try intro K hk); focus (simp only [lvX20_67, mkT, go_sem, Nat.reduceEqDiff, Nat.reduceAdd, Nat.reduceLeDiff, Nat.reduceLT, Nat.reduceSub, Int.reduceToNat, ↓reduceIte, reduceCtorEq, encS_eq, ex_St, St_eta, encPs_length]; first | exact rfl | ((repeat (refine And.intro ?_ ?_; focus (first | omega | assumption | with_reducible rfl))); intros; apply hk; clear hk K))) | apply qw8 | apply qw1 | refine qwc lvX20_67 ?_ | apply qt1 | apply qw5 | apply qw2 | apply qw9 | apply qt2 | apply qt3 | apply qt4 | apply qt5 | apply qt6 | apply qw3 | apply qw4 | apply qj1 | apply qj2 | apply qj3 | apply qj4 | apply qj5 | apply qu1 | apply qu2 | (refine qj6 ?_ ?_ <;> intro hc <;> (try simp only [hc]) <;> (try simp only [decide_eq_true_eq, decide_eq_false_iff_not, Bool.not_eq_true', Bool.not_eq_false', Bool.not_eq_true, reduceCtorEq] at hc) <;> (try (exfalso; omega))) | (refine qt7 ?_ ?_; focus decide) | (refine qw7 ?_ ?_ ?_; (focus (decide +kernel)); (focus (decide +kernel))))
  refine s_loop (ι := Nat) (fun k => [(2, .clo 71 [.eref [.str m], .ref 0 0]), (3, .ref 1 0), (6, .ref 2 0), (10, .seq (encPs xs)), (11, .int .i64 xs.length), (12, .int .i64 k)]) (fun k => [(0, rowI (plcN m (ev ++ (wkL s (xs.take k)).1))), (1, .box (encS (wkL s (xs.take k)).2)), (2, .box (encS st0))]) 3 (fun k => k ≤ xs.length) (fun k => xs.length - k) 0 (by omega) (Nat.zero_le _) ?_ ?_
  · simp [fits, fitsT, fitsM, upd_def, PV.nmb, nmbL, MB.nmb, List.getD_cons_zero, List.getD_cons_succ, mkM, rowI, wkL_nil, encS, st0]
  intro k hk
  have hvk := stV_wkL (xs.take k) s hv
  simp only [mkS, mkT, mkM]
  by_cases hkl : k < xs.length
  · obtain ⟨⟨kd, t, nm, ps, os⟩, hx⟩ := get_some (xs := xs) (k := k) (by omega)
    have htk := take_snoc' hx
    have ws := wtL_split hx
    rw [wtP_mk] at ws
    have hget := encPs_get xs
    have hs := wkL_snoc (s := s) hx
    have hpre := wk_pre s xs (k + 1)
    rw [wkP_mk] at hs
    have ho := okS_of hvk
    have hlp := len_le_wtL ps
    have hlo := len_le_wtL os
    generalize hcur : wkL s (xs.take k) = cur at *
    obtain ⟨evk, cu⟩ := cur
    dsimp only at hs hvk ho
    have hla : (ev ++ evk).length = ev.length + evk.length := List.length_append
    have wp := wk_leL ps cu
    have wo := wk_leL os cu
    have wp2 := wk_wt ps cu
    have wo2 := wk_wt os cu
    by_cases k1 : kd = 1
    · rw [if_pos k1] at hs
      repeat' (first | ((first | apply qwd | apply qa1 | apply qa2 | apply qa3 | apply qh1 | apply qh2 | apply qg1 rfl | apply qcd); (try intro K hk); focus (simp only [lvX20_67, mkT, go_sem, Nat.reduceEqDiff, Nat.reduceAdd, Nat.reduceLeDiff, Nat.reduceLT, Nat.reduceSub, Int.reduceToNat, ↓reduceIte, reduceCtorEq, encPs_length, hget, hx, encP_mk, encS_eq, ex_St, St_eta, k1, decide_true]; first | exact rfl | ((repeat (refine And.intro ?_ ?_; focus (first | omega | assumption | with_reducible rfl))); intros; apply hk; clear hk K))) | apply qw8 | apply qw1 | refine qwc lvX20_67 ?_ | apply qt1 | apply qw5 | apply qw2 | apply qw9 | apply qt2 | apply qt3 | apply qt4 | apply qt5 | apply qt6 | apply qw3 | apply qw4 | apply qj1 | apply qj2 | apply qj3 | apply qj4 | apply qj5 | apply qu1 | apply qu2 | (refine qj6 ?_ ?_ <;> intro hc <;> (try simp only [hc]) <;> (try simp only [decide_eq_true_eq, decide_eq_false_iff_not, Bool.not_eq_true', Bool.not_eq_false', Bool.not_eq_true, reduceCtorEq] at hc) <;> (try (exfalso; omega))) | (refine qt7 ?_ ?_; focus decide) | (refine qw7 ?_ ?_ ?_; (focus (decide +kernel)); (focus (decide +kernel))))
      refine s_again (k + 1) ?_ ?_ ?_ <;> (first | omega | (dsimp only; omega) | skip)
      simp [fits, fitsT, fitsM, upd_def, PV.nmb, nmbL, MB.nmb, List.getD_cons_zero, List.getD_cons_succ, rowI, hs, encS, st0]
    rw [if_neg k1] at hs
    by_cases k2 : kd = 2
    · rw [if_pos k2] at hs
      rw [hs] at hpre
      simp only [List.length_append, List.length_cons, List.length_nil] at hpre
      repeat' (first | ((first | apply qwd | apply qa1 | apply qa2 | apply qa3 | apply qh1 | apply qh2 | apply qg1 rfl | apply qcd); (try intro K hk); focus (simp only [lvX20_67, mkT, go_sem, Nat.reduceEqDiff, Nat.reduceAdd, Nat.reduceLeDiff, Nat.reduceLT, Nat.reduceSub, Int.reduceToNat, ↓reduceIte, reduceCtorEq, encPs_length, hget, hx, encP_mk, encS_eq, ex_St, St_eta, k1, k2, decide_true, decide_false]; first | exact rfl | ((repeat (refine And.intro ?_ ?_; focus (first | omega | assumption | with_reducible rfl))); intros; apply hk; clear hk K))) | apply qw8 | apply qw1 | refine qwc lvX20_67 ?_ | apply qt1 | apply qw5 | apply qw2 | apply qw9 | apply qt2 | apply qt3 | apply qt4 | apply qt5 | apply qt6 | apply qw3 | apply qw4 | apply qj1 | apply qj2 | apply qj3 | apply qj4 | apply qj5 | apply qu1 | apply qu2 | (refine qj6 ?_ ?_ <;> intro hc <;> (try simp only [hc]) <;> (try simp only [decide_eq_true_eq, decide_eq_false_iff_not, Bool.not_eq_true', Bool.not_eq_false', Bool.not_eq_true, reduceCtorEq] at hc) <;> (try (exfalso; omega))) | (refine qt7 ?_ ?_; focus decide) | (refine qw7 ?_ ?_ ?_; (focus (decide +kernel)); (focus (decide +kernel))))
      (refine qa1 fun K hk => ?_); simp only [go_sem, ↓upd_def, ↓evT, Nat.reduceEqDiff, Nat.reduceAdd, Nat.reduceLeDiff, Nat.reduceLT, Nat.reduceSub, Int.reduceToNat, ↓reduceIte, reduceCtorEq, ↓aop, ↓aopc, ↓aopd, encPs_length, hget, hx, encP_mk, encS_eq, ex_St, St_eta]; repeat (refine And.intro ?_ ?_; focus (first | omega | assumption | with_reducible rfl | (simp only [go_sem, ↓upd_def, ↓evT, Nat.reduceEqDiff, Nat.reduceAdd, Nat.reduceLeDiff, Nat.reduceLT, Nat.reduceSub, Int.reduceToNat, ↓reduceIte, reduceCtorEq, ↓aop, ↓aopc, ↓aopd, encPs_length, hget, hx, encP_mk, encS_eq, ex_St, St_eta]; done)))
      unfold locG
      refine ⟨(ev ++ evk, nm, cu), 0, rfl, rfl, ⟨by dsimp only; omega, hvk, by dsimp only; omega, hml⟩, ?_⟩
      rintro r b' ⟨rfl, rfl⟩
      apply hk; clear hk K
      dsimp only
      repeat' (first | ((first | apply qwd | apply qa1 | apply qa2 | apply qa3 | apply qh1 | apply qh2 | apply qg1 rfl | apply qcd); (try intro K hk); focus (simp only [lvX20_67, mkT, go_sem, Nat.reduceEqDiff, Nat.reduceAdd, Nat.reduceLeDiff, Nat.reduceLT, Nat.reduceSub, Int.reduceToNat, ↓reduceIte, reduceCtorEq, encPs_length, hget, hx, encP_mk, encS_eq, ex_St, St_eta, k1, k2]; first | exact rfl | ((repeat (refine And.intro ?_ ?_; focus (first | omega | assumption | with_reducible rfl))); intros; apply hk; clear hk K))) | apply qw8 | apply qw1 | refine qwc lvX20_67 ?_ | apply qt1 | apply qw5 | apply qw2 | apply qw9 | apply qt2 | apply qt3 | apply qt4 | apply qt5 | apply qt6 | apply qw3 | apply qw4 | apply qj1 | apply qj2 | apply qj3 | apply qj4 | apply qj5 | apply qu1 | apply qu2 | (refine qj6 ?_ ?_ <;> intro hc <;> (try simp only [hc]) <;> (try simp only [decide_eq_true_eq, decide_eq_false_iff_not, Bool.not_eq_true', Bool.not_eq_false', Bool.not_eq_true, reduceCtorEq] at hc) <;> (try (exfalso; omega))) | (refine qt7 ?_ ?_; focus decide) | (refine qw7 ?_ ?_ ?_; (focus (decide +kernel)); (focus (decide +kernel))))
      refine s_again (k + 1) ?_ ?_ ?_ <;> (first | omega | (dsimp only; omega) | skip)
      simp [fits, fitsT, fitsM, upd_def, PV.nmb, nmbL, MB.nmb, List.getD_cons_zero, List.getD_cons_succ, rowI, hs, List.append_assoc, encS, st0]
    rw [if_neg k2] at hs
    by_cases k3 : kd = 3
    · rw [if_pos k3] at hs
      rw [hs] at hpre
      simp only [List.length_append] at hpre
      repeat' (first | ((first | apply qwd | apply qa1 | apply qa2 | apply qa3 | apply qh1 | apply qh2 | apply qg1 rfl | apply qcd); (try intro K hk); focus (simp only [lvX20_67, mkT, go_sem, Nat.reduceEqDiff, Nat.reduceAdd, Nat.reduceLeDiff, Nat.reduceLT, Nat.reduceSub, Int.reduceToNat, ↓reduceIte, reduceCtorEq, encPs_length, hget, hx, encP_mk, encS_eq, ex_St, St_eta, k1, k2, k3, decide_true, decide_false]; first | exact rfl | ((repeat (refine And.intro ?_ ?_; focus (first | omega | assumption | with_reducible rfl))); intros; apply hk; clear hk K))) | apply qw8 | apply qw1 | refine qwc lvX20_67 ?_ | apply qt1 | apply qw5 | apply qw2 | apply qw9 | apply qt2 | apply qt3 | apply qt4 | apply qt5 | apply qt6 | apply qw3 | apply qw4 | apply qj1 | apply qj2 | apply qj3 | apply qj4 | apply qj5 | apply qu1 | apply qu2 | (refine qj6 ?_ ?_ <;> intro hc <;> (try simp only [hc]) <;> (try simp only [decide_eq_true_eq, decide_eq_false_iff_not, Bool.not_eq_true', Bool.not_eq_false', Bool.not_eq_true, reduceCtorEq] at hc) <;> (try (exfalso; omega))) | (refine qt7 ?_ ?_; focus decide) | (refine qw7 ?_ ?_ ?_; (focus (decide +kernel)); (focus (decide +kernel))))
      (refine qa1 fun K hk => ?_); simp only [go_sem, ↓upd_def, ↓evT, Nat.reduceEqDiff, Nat.reduceAdd, Nat.reduceLeDiff, Nat.reduceLT, Nat.reduceSub, Int.reduceToNat, ↓reduceIte, reduceCtorEq, ↓aop, ↓aopc, ↓aopd, encPs_length, hget, hx, encP_mk, encS_eq, ex_St, St_eta]; repeat (refine And.intro ?_ ?_; focus (first | omega | assumption | with_reducible rfl | (simp only [go_sem, ↓upd_def, ↓evT, Nat.reduceEqDiff, Nat.reduceAdd, Nat.reduceLeDiff, Nat.reduceLT, Nat.reduceSub, Int.reduceToNat, ↓reduceIte, reduceCtorEq, ↓aop, ↓aopc, ↓aopd, encPs_length, hget, hx, encP_mk, encS_eq, ex_St, St_eta]; done)))
      unfold locG
      refine ⟨(ev ++ evk, cu, ps), 0, rfl, rfl, ⟨by dsimp only; omega, by dsimp only; omega, hvk, by dsimp only; omega, hml⟩, ?_⟩
      rintro r b' ⟨rfl, rfl⟩
      apply hk; clear hk K
      dsimp only
      have hlb : (ev ++ evk ++ (wkL cu ps).1).length = (ev ++ evk).length + (wkL cu ps).1.length := List.length_append
      repeat' (first | ((first | apply qwd | apply qa1 | apply qa2 | apply qa3 | apply qh1 | apply qh2 | apply qg1 rfl | apply qcd); (try intro K hk); focus (simp only [lvX20_67, mkT, go_sem, Nat.reduceEqDiff, Nat.reduceAdd, Nat.reduceLeDiff, Nat.reduceLT, Nat.reduceSub, Int.reduceToNat, ↓reduceIte, reduceCtorEq, encPs_length, hget, hx, encP_mk, encS_eq, ex_St, St_eta, k1, k2, k3]; first | exact rfl | ((repeat (refine And.intro ?_ ?_; focus (first | omega | assumption | with_reducible rfl))); intros; apply hk; clear hk K))) | apply qw8 | apply qw1 | refine qwc lvX20_67 ?_ | apply qt1 | apply qw5 | apply qw2 | apply qw9 | apply qt2 | apply qt3 | apply qt4 | apply qt5 | apply qt6 | apply qw3 | apply qw4 | apply qj1 | apply qj2 | apply qj3 | apply qj4 | apply qj5 | apply qu1 | apply qu2 | (refine qj6 ?_ ?_ <;> intro hc <;> (try simp only [hc]) <;> (try simp only [decide_eq_true_eq, decide_eq_false_iff_not, Bool.not_eq_true', Bool.not_eq_false', Bool.not_eq_true, reduceCtorEq] at hc) <;> (try (exfalso; omega))) | (refine qt7 ?_ ?_; focus decide) | (refine qw7 ?_ ?_ ?_; (focus (decide +kernel)); (focus (decide +kernel))))
      (refine qa1 fun K hk => ?_); simp only [go_sem, ↓upd_def, ↓evT, Nat.reduceEqDiff, Nat.reduceAdd, Nat.reduceLeDiff, Nat.reduceLT, Nat.reduceSub, Int.reduceToNat, ↓reduceIte, reduceCtorEq, ↓aop, ↓aopc, ↓aopd, encPs_length, hget, hx, encP_mk, encS_eq, ex_St, St_eta]; repeat (refine And.intro ?_ ?_; focus (first | omega | assumption | with_reducible rfl | (simp only [go_sem, ↓upd_def, ↓evT, Nat.reduceEqDiff, Nat.reduceAdd, Nat.reduceLeDiff, Nat.reduceLT, Nat.reduceSub, Int.reduceToNat, ↓reduceIte, reduceCtorEq, ↓aop, ↓aopc, ↓aopd, encPs_length, hget, hx, encP_mk, encS_eq, ex_St, St_eta]; done)))
      unfold locG
      refine ⟨(ev ++ evk ++ (wkL cu ps).1, cu, os), 0, rfl, rfl, ⟨by dsimp only; omega, by dsimp only; omega, hvk, by dsimp only; omega, hml⟩, ?_⟩
      rintro r b' ⟨rfl, rfl⟩
      apply hk; clear hk K
      dsimp only
      repeat' (first | ((first | apply qwd | apply qa1 | apply qa2 | apply qa3 | apply qh1 | apply qh2 | apply qg1 rfl | apply qcd); (try intro K hk); focus (simp only [lvX20_67, mkT, go_sem, Nat.reduceEqDiff, Nat.reduceAdd, Nat.reduceLeDiff, Nat.reduceLT, Nat.reduceSub, Int.reduceToNat, ↓reduceIte, reduceCtorEq, encPs_length, hget, hx, encP_mk, encS_eq, ex_St, St_eta, k1, k2, k3]; first | exact rfl | ((repeat (refine And.intro ?_ ?_; focus (first | omega | assumption | with_reducible rfl))); intros; apply hk; clear hk K))) | apply qw8 | apply qw1 | refine qwc lvX20_67 ?_ | apply qt1 | apply qw5 | apply qw2 | apply qw9 | apply qt2 | apply qt3 | apply qt4 | apply qt5 | apply qt6 | apply qw3 | apply qw4 | apply qj1 | apply qj2 | apply qj3 | apply qj4 | apply qj5 | apply qu1 | apply qu2 | (refine qj6 ?_ ?_ <;> intro hc <;> (try simp only [hc]) <;> (try simp only [decide_eq_true_eq, decide_eq_false_iff_not, Bool.not_eq_true', Bool.not_eq_false', Bool.not_eq_true, reduceCtorEq] at hc) <;> (try (exfalso; omega))) | (refine qt7 ?_ ?_; focus decide) | (refine qw7 ?_ ?_ ?_; (focus (decide +kernel)); (focus (decide +kernel))))
      refine s_again (k + 1) ?_ ?_ ?_ <;> (first | omega | (dsimp only; omega) | skip)
      simp [fits, fitsT, fitsM, upd_def, PV.nmb, nmbL, MB.nmb, List.getD_cons_zero, List.getD_cons_succ, rowI, hs, List.append_assoc, encS, st0]
    rw [if_neg k3] at hs
    by_cases k4 : kd = 4
    · rw [if_pos k4] at hs
      rw [hs] at hpre
      simp only [List.length_append] at hpre
      repeat' (first | ((first | apply qwd | apply qa1 | apply qa2 | apply qa3 | apply qh1 | apply qh2 | apply qg1 rfl | apply qcd); (try intro K hk); focus (simp only [lvX20_67, mkT, go_sem, Nat.reduceEqDiff, Nat.reduceAdd, Nat.reduceLeDiff, Nat.reduceLT, Nat.reduceSub, Int.reduceToNat, ↓reduceIte, reduceCtorEq, encPs_length, hget, hx, encP_mk, encS_eq, ex_St, St_eta, k1, k2, k3, k4, decide_true, decide_false]; first | exact rfl | ((repeat (refine And.intro ?_ ?_; focus (first | omega | assumption | with_reducible rfl))); intros; apply hk; clear hk K))) | apply qw8 | apply qw1 | refine qwc lvX20_67 ?_ | apply qt1 | apply qw5 | apply qw2 | apply qw9 | apply qt2 | apply qt3 | apply qt4 | apply qt5 | apply qt6 | apply qw3 | apply qw4 | apply qj1 | apply qj2 | apply qj3 | apply qj4 | apply qj5 | apply qu1 | apply qu2 | (refine qj6 ?_ ?_ <;> intro hc <;> (try simp only [hc]) <;> (try simp only [decide_eq_true_eq, decide_eq_false_iff_not, Bool.not_eq_true', Bool.not_eq_false', Bool.not_eq_true, reduceCtorEq] at hc) <;> (try (exfalso; omega))) | (refine qt7 ?_ ?_; focus decide) | (refine qw7 ?_ ?_ ?_; (focus (decide +kernel)); (focus (decide +kernel))))
      (refine qa1 fun K hk => ?_); simp only [go_sem, ↓upd_def, ↓evT, Nat.reduceEqDiff, Nat.reduceAdd, Nat.reduceLeDiff, Nat.reduceLT, Nat.reduceSub, Int.reduceToNat, ↓reduceIte, reduceCtorEq, ↓aop, ↓aopc, ↓aopd, encPs_length, hget, hx, encP_mk, encS_eq, ex_St, St_eta]; repeat (refine And.intro ?_ ?_; focus (first | omega | assumption | with_reducible rfl | (simp only [go_sem, ↓upd_def, ↓evT, Nat.reduceEqDiff, Nat.reduceAdd, Nat.reduceLeDiff, Nat.reduceLT, Nat.reduceSub, Int.reduceToNat, ↓reduceIte, reduceCtorEq, ↓aop, ↓aopc, ↓aopd, encPs_length, hget, hx, encP_mk, encS_eq, ex_St, St_eta]; done)))
      unfold locG
      refine ⟨(ev ++ evk, cu, ps), 0, rfl, rfl, ⟨by dsimp only; omega, by dsimp only; omega, hvk, by dsimp only; omega, hml⟩, ?_⟩
      rintro r b' ⟨rfl, rfl⟩
      apply hk; clear hk K
      dsimp only
      repeat' (first | ((first | apply qwd | apply qa1 | apply qa2 | apply qa3 | apply qh1 | apply qh2 | apply qg1 rfl | apply qcd); (try intro K hk); focus (simp only [lvX20_67, mkT, go_sem, Nat.reduceEqDiff, Nat.reduceAdd, Nat.reduceLeDiff, Nat.reduceLT, Nat.reduceSub, Int.reduceToNat, ↓reduceIte, reduceCtorEq, encPs_length, hget, hx, encP_mk, encS_eq, ex_St, St_eta, k1, k2, k3, k4]; first | exact rfl | ((repeat (refine And.intro ?_ ?_; focus (first | omega | assumption | with_reducible rfl))); intros; apply hk; clear hk K))) | apply qw8 | apply qw1 | refine qwc lvX20_67 ?_ | apply qt1 | apply qw5 | apply qw2 | apply qw9 | apply qt2 | apply qt3 | apply qt4 | apply qt5 | apply qt6 | apply qw3 | apply qw4 | apply qj1 | apply qj2 | apply qj3 | apply qj4 | apply qj5 | apply qu1 | apply qu2 | (refine qj6 ?_ ?_ <;> intro hc <;> (try simp only [hc]) <;> (try simp only [decide_eq_true_eq, decide_eq_false_iff_not, Bool.not_eq_true', Bool.not_eq_false', Bool.not_eq_true, reduceCtorEq] at hc) <;> (try (exfalso; omega))) | (refine qt7 ?_ ?_; focus decide) | (refine qw7 ?_ ?_ ?_; (focus (decide +kernel)); (focus (decide +kernel))))
      refine s_again (k + 1) ?_ ?_ ?_ <;> (first | omega | (dsimp only; omega) | skip)
      simp [fits, fitsT, fitsM, upd_def, PV.nmb, nmbL, MB.nmb, List.getD_cons_zero, List.getD_cons_succ, rowI, hs, List.append_assoc, encS, st0]
    · rw [if_neg k4] at hs
      repeat' (first | ((first | apply qwd | apply qa1 | apply qa2 | apply qa3 | apply qh1 | apply qh2 | apply qg1 rfl | apply qcd); (try intro K hk); focus (simp only [lvX20_67, mkT, go_sem, Nat.reduceEqDiff, Nat.reduceAdd, Nat.reduceLeDiff, Nat.reduceLT, Nat.reduceSub, Int.reduceToNat, ↓reduceIte, reduceCtorEq, encPs_length, hget, hx, encP_mk, encS_eq, ex_St, St_eta, k1, k2, k3, k4, decide_false]; first | exact rfl | ((repeat (refine And.intro ?_ ?_; focus (first | omega | assumption | with_reducible rfl))); intros; apply hk; clear hk K))) | apply qw8 | apply qw1 | refine qwc lvX20_67 ?_ | apply qt1 | apply qw5 | apply qw2 | apply qw9 | apply qt2 | apply qt3 | apply qt4 | apply qt5 | apply qt6 | apply qw3 | apply qw4 | apply qj1 | apply qj2 | apply qj3 | apply qj4 | apply qj5 | apply qu1 | apply qu2 | (refine qj6 ?_ ?_ <;> intro hc <;> (try simp only [hc]) <;> (try simp only [decide_eq_true_eq, decide_eq_false_iff_not, Bool.not_eq_true', Bool.not_eq_false', Bool.not_eq_true, reduceCtorEq] at hc) <;> (try (exfalso; omega))) | (refine qt7 ?_ ?_; focus decide) | (refine qw7 ?_ ?_ ?_; (focus (decide +kernel)); (focus (decide +kernel))))
      refine s_again (k + 1) ?_ ?_ ?_ <;> (first | omega | (dsimp only; omega) | skip)
      simp [fits, fitsT, fitsM, upd_def, PV.nmb, nmbL, MB.nmb, List.getD_cons_zero, List.getD_cons_succ, rowI, hs, encS, st0]
  · obtain rfl : k = xs.length := by omega
    repeat' (first | ((first | apply qwd | apply qa1 | apply qa2 | apply qa3 | apply qh1 | apply qh2 | apply qg1 rfl | apply qcd); (try intro K hk); focus (simp only [lvX20_67, mkT, go_sem, Nat.reduceEqDiff, Nat.reduceAdd, Nat.reduceLeDiff, Nat.reduceLT, Nat.reduceSub, Int.reduceToNat, ↓reduceIte, reduceCtorEq, encPs_length, encS_eq, ex_St, St_eta]; first | exact rfl | ((repeat (refine And.intro ?_ ?_; focus (first | omega | assumption | with_reducible rfl))); intros; apply hk; clear hk K))) | apply qw8 | apply qw1 | refine qwc lvX20_67 ?_ | apply qt1 | apply qw5 | apply qw2 | apply qw9 | apply qt2 | apply qt3 | apply qt4 | apply qt5 | apply qt6 | apply qw3 | apply qw4 | apply qj1 | apply qj2 | apply qj3 | apply qj4 | apply qj5 | apply qu1 | apply qu2 | (refine qj6 ?_ ?_ <;> intro hc <;> (try simp only [hc]) <;> (try simp only [decide_eq_true_eq, decide_eq_false_iff_not, Bool.not_eq_true', Bool.not_eq_false', Bool.not_eq_true, reduceCtorEq] at hc) <;> (try (exfalso; omega))) | (refine qt7 ?_ ?_; focus decide) | (refine qw7 ?_ ?_ ?_; (focus (decide +kernel)); (focus (decide +kernel))))
    ((first | refine fin_V ?_ | refine fin_Ve ?_ | refine fin_O ?_ | refine fin_Oe ?_ | refine fin_X ?_ | refine fin_Xe ?_ | refine fin_B ?_ | refine fin_Be ?_); simp only [go_sem, PV.own.injEq, MB.row.injEq, MB.nmb, not_false_eq_true, ne_eq, ↓upd_def, Nat.reduceEqDiff, Nat.reduceAdd, ↓reduceIte, reduceCtorEq])
    rw [List.take_length] at *
    exact ⟨Nat.le_refl _, rfl, hK _ _ ⟨rfl, rfl⟩⟩
@[go_sem] def whQn (m : Bs) : AC := locG (α := List (Bs × St) × St × List PartD) (fun x => [.agg (encS x.2.1), .seq (encPs x.2.2), .clo 71 [.eref [.str m], .ref 0 0]]) (fun x => rowI (plcN m x.1)) (fun x => wtL x.2.2 ≤ 1073741824 ∧ stV x.2.1 = true ∧ x.1.length + (wkL x.2.1 x.2.2).1.length ≤ 1073741824 ∧ m.length ≤ 9223372036854775807) (fun x r b' => r = .agg (encS (wkL x.2.1 x.2.2).2) ∧ b' = rowI (plcN m (x.1 ++ (wkL x.2.1 x.2.2).1)))
theorem whQ_n (m : Bs) : ACok Try.prog 67 (whQn  m) := ⟨(wh_n  m 0).fn, fun c mem n av vs K hI hn hr hC => by
  obtain ⟨x, i, h1, h2, h3, h4⟩ := hC
  exact (wh_n  m (wtL x.2.2 + 1)).run c mem n av vs K hI hn hr ⟨x, i, h1, h2, ⟨Nat.lt_succ_self _, h3⟩, h4⟩⟩
@[go_sem] def whOn : AC := fun args mem n K => match args with
  | [.agg c, .seq es, .clo f [.ref a oa, .ref i o]] => (match mem a with
    | some (.box [.str m]) => (match mem i with
      | some (.box [.own j]) => (match mem j with
        | some (.row e s rs) => f = 71 ∧ oa = 0 ∧ o = 0 ∧ a ≠ i ∧ a ≠ j ∧ e = 3 ∧ s = 1 ∧ rs = [] ∧ c = encS st0 ∧ m.length ≤ 9223372036854775807 ∧ ∃ xs, es = encPs xs ∧ wtL xs ≤ 1073741824 ∧ K (.agg (encS (wkL st0 xs).2)) (upd (upd (upd (upd mem a none) j none) i (some (.box [.own n]))) n (some (.row 3 1 (ints (plcN m (wkL st0 xs).1))))) (n + 1)
        | _ => False)
      | _ => False)
    | _ => False)
  | _ => False
theorem whO_n : ACok Try.prog 67 whOn := by
  refine ⟨(wh_n [] 0).fn, fun c mem n args vs K hI hn hr h => ?_⟩
  unfold whOn at h
  split at h
  · rename_i cc es f a oa i o
    split at h
    · rename_i m ha
      split at h
      · rename_i j hi
        split at h
        · rename_i e s rs hj
          obtain ⟨rfl, rfl, rfl, hai, haj, rfl, rfl, rfl, rfl, hml, xs, rfl, hw, hK⟩ := h
          obtain ⟨c1, w1, st, hrep⟩ := Step.frzBox hI hn ha (by simp [plainU])
          rw [RepL.cons_iff] at hr
          obtain ⟨v1, r1, rfl, q1, hr⟩ := hr
          rw [RepL.cons_iff] at hr
          obtain ⟨v2, r2, rfl, q2, hr⟩ := hr
          rw [RepL.cons_iff] at hr
          obtain ⟨v3, r3, rfl, q3, hr⟩ := hr
          rw [RepL.nil_iff] at hr
          subst hr
          unfold Rep at q3
          obtain ⟨cv, rfl, q4⟩ := q3
          rw [RepL.cons_iff] at q4
          obtain ⟨u1, s1, e1, q5, q6⟩ := q4
          have hq3 : Rep (.clo 71 [.eref [.str m], .ref i 0]) c1 (.func (.func 71) #[] cv) := by
            unfold Rep
            exact ⟨cv, rfl, RepL.cons_iff.2 ⟨u1, s1, e1, hrep _ q5, RepL.mono _ st.le q6⟩⟩
          have hr1 : RepL [.agg (encS st0), .seq (encPs xs), .clo 71 [.eref [.str m], .ref i 0]] c1 [v1, v2, .func (.func 71) #[] cv] :=
            RepL.cons_iff.2 ⟨_, _, rfl, Rep.mono _ st.le q1, RepL.cons_iff.2 ⟨_, _, rfl, Rep.mono _ st.le q2, RepL.cons_iff.2 ⟨_, _, rfl, hq3, RepL.nil_iff.2 rfl⟩⟩⟩
          have hrun := (seenR_ok (e := 3) (s := 1) (whQ_n m)).run c1 (upd mem a none) n _ _ K st.inv st.free hr1 (by
            refine ⟨i, j, [], by rw [upd_other _ _ (Ne.symm hai)]; exact hi, by rw [upd_other _ _ (Ne.symm haj)]; exact hj, rfl, ([], st0, xs), i, rfl, upd_same _ _ _, ⟨hw, stV_st0, ?_, hml⟩, ?_⟩
            · have := wk_wt xs st0
              dsimp only [List.length_nil]; omega
            rintro r b' ⟨rfl, rfl⟩
            refine ⟨_, upd_same _ _ _, ?_⟩
            have em : upd (upd (upd (upd (upd (upd mem a none) j none) i (some (MB.gen (rowP 3 1) [.seq []]))) i (some (rowI (plcN m ([] ++ (wkL st0 xs).1))))) i (some (.box [.own n]))) n (some (.row 3 1 (ints (plcN m ([] ++ (wkL st0 xs).1))))) = upd (upd (upd (upd mem a none) j none) i (some (.box [.own n]))) n (some (.row 3 1 (ints (plcN m (wkL st0 xs).1)))) := by
              funext l
              simp only [upd, List.nil_append]
              (repeat' split) <;> rfl
            exact em ▸ hK)
          rw [w1] at hrun
          refine hrun.mono ?_
          rintro e w' ⟨v', r, c', mem', n', rfl, hw', hK', st', hrep'⟩
          exact ⟨v', r, c', mem', n', rfl, hw', hK', st.trans st', hrep'⟩
        · exact h.elim
      · exact h.elim
    · exact h.elim
  · exact h.elim
@[go_sem] def nplI : PC := rel (α := List PartD × Bs) (fun x => [.seq (encPs x.1), .str x.2]) (fun x => wtL x.1 ≤ 1073741824 ∧ x.2.length ≤ 9223372036854775807) (fun x => .seq (ints (namePl x.1 x.2)))
end Go.Proofs.Ytdedddmnacomfaa
