/- The law's walk: the value of a hole comes back. -/
import Derived.Test.YtnbjogilidfkdaaVX22
import Derived.Test.YtnbjogilidfkdaaVX13
import Derived.Test.YtnbjogilidfkdaaVX53
import Derived.Test.YtnbjogilidfkdaaVK23
import Derived.Test.YtnbjogilidfkdaaVR9
import Derived.Test.YtnbjogilidfkdaaVXC

namespace Go.Proofs.Ytnbjogilidfkdaa
attribute [local irreducible] awp arun acalm FinP Fin AX.then AX.inBlock Again aG gsel amix amixN amixC aop aopc aopd cutK
attribute [local go_sem] aBSliceD aSlice aSliceC boundOf aMk aCall aCallC aLenL aLen aPick_t aPick_f aNil aAlloc aBox aBuild bldPV aBSlice bsPV aApp newsOf destOf drp aConvX aConv aConvInt aLoad cellsAt aStore cellsPV setAt aFld aField aIdx aIndex aUn aBin' aBin aMax aExtract pvOf PV.isCell nmbL PV.nmb List.map_cons List.map_nil List.all_cons List.all_nil Bool.and_true Bool.true_and if_true if_false List.getD_cons_zero List.getD_cons_succ List.getD_nil Option.isSome_some true_and and_true and_self eq_self true_or or_true List.drop_zero List.drop_succ_cons List.drop_nil List.take_zero List.take_succ_cons List.take_nil List.length_cons List.length_nil List.length_map Option.getD_some Option.getD_none List.nil_append List.cons_append List.append_nil Option.some.injEq exists_eq_left' List.getElem?_cons_zero List.getElem?_cons_succ Int.toNat_natCast Int.natCast_inj toNat_succ Nat.zero_add res res1 resC owns owns1 ownsC List.flatMap_cons List.flatMap_nil List.flatten_cons List.flatten_nil List.mem_cons List.not_mem_nil or_false false_or forall_eq forall_eq_or_imp isFro frz frz1 pureC tabA isBld List.cons.injEq PV.seq.injEq PV.int.injEq PV.str.injEq PV.bool.injEq PV.agg.injEq inR tab Γof aRes packR Option.map_some Option.map_none rel Prod.exists exists_and_left exists_eq_left and_assoc beq_self_eq_true Bool.not_true Bool.not_false decide_true decide_false List.set_cons_zero List.set_cons_succ rst_nil rst_cons
attribute [local go_sem ↓] evT upd_def aop aopc aopd
set_option maxRecDepth 100000
set_option linter.unusedVariables false
set_option linter.unusedSimpArgs false
open Go.RowKit
def lvY40_6 : Nat → List Nat
  | 0 => [0]
  | 1 => [0, 12]
  | 2 => [2]
  | 3 => [3]
  | 4 => [3, 19]
  | 5 => [2]
  | 6 => [3, 27]
  | 7 => [2]
  | 8 => [3, 4, 5]
  | 9 => [3, 5, 6, 7]
  | 10 => [3, 5, 7, 8, 9]
  | 11 => [3, 8, 79]
  | 12 => [2]
  | 13 => [2]
  | _ => []
--LV=Y40
theorem drwET : ACok Try.prog 20 (drwG (α := Bs) (fun s => s.length ≤ 200) (fun s => .str s)) := drw_of (by
  refine ac_body 1 (tabA_cons open_ok (tabA_cons txD_ok (tabA_nil (Γof_ok tab_nil)))) tab_nil mixed [.tmp 2] Try.func20 rfl rfl (by kernel_rfl) (by kernel_rfl) ?_ (by kernel_rfl) ?_
  · intro args mem n K h
    obtain ⟨es, rfl, h⟩ := drw_args h
    rfl
  intro args mem n K h
  obtain ⟨es, rfl, ⟨l, rfl, hl⟩, hK⟩ := drw_args h
  have hba := bc_all l
  unfold entry
  repeat' (first | ((first | apply qa1 | apply qa2 | apply qa3 | apply qh1 | apply qh2 | apply qg1 rfl | apply qcd); (try intro K hk); focus (simp only [go_sem, Nat.reduceEqDiff, Nat.reduceAdd, Nat.reduceLeDiff, Nat.reduceLT, Nat.reduceSub, Int.reduceToNat, ↓reduceIte, reduceCtorEq, exl, q_1, q_2, q_3, q_4, q_5, q_6, q_7, q_8, q_9, q_10]; first | exact rfl | ((repeat (refine And.intro ?_ ?_; focus (first | omega | assumption | with_reducible rfl))); intros; apply hk; clear hk K))) | apply qw8 | apply qw1 | apply qw6 | apply qt1 | apply qw5 | apply qw2 | apply qw9 | apply qt2 | apply qt3 | apply qt4 | apply qt5 | apply qt6 | apply qw3 | apply qw4 | apply qj1 | apply qj2 | apply qj3 | apply qj4 | apply qj5 | apply qu1 | apply qu2 | (refine qj6 ?_ ?_ <;> intro hc <;> (try simp only [hc]) <;> (try simp only [decide_eq_true_eq, decide_eq_false_iff_not, Bool.not_eq_true', Bool.not_eq_false', Bool.not_eq_true, reduceCtorEq] at hc) <;> (try (exfalso; omega))) | (refine qt7 ?_ ?_; focus decide) | (refine qw7 ?_ ?_ ?_; (focus (decide +kernel)); (focus (decide +kernel))))
  rename Bs => s
  refine fin_retA ?_
  simp only [go_sem, ↓upd_def, Nat.reduceEqDiff, ↓reduceIte, q_1, q_2, q_3, q_4, q_5, q_6, q_7, q_8, q_9, q_10]
  refine hK s _ _ _ (by omega) ?_ (by omega)
  simp [res, res1, resC, upd_def, q_1, q_2, q_3, q_4, q_5, q_6, q_7, q_8, q_9, q_10])
theorem fs_q1 (a b : Bs) (c : Bool) : ([[.str a, .str b, .bool c, .seq []]] : List (List PV)) = encFs [⟨a, b, c, []⟩] := rfl
theorem hv_wt : wtL hvL ≤ 1073741824 := by decide +kernel
theorem hv_oks {s : Bs} (h : s.length ≤ 200) : okF [⟨[97], s, false, []⟩] := ⟨by simp, fun f hf => by
  obtain rfl := List.mem_singleton.1 hf
  refine ⟨?_, ?_, ?_, ?_⟩ <;> simp <;> omega⟩
theorem valB_iff {s : Bs} : valB s = true ↔ s.length ≤ 40 ∧ textB s = true := by
  unfold valB
  rw [Bool.and_eq_true, decide_eq_true_eq]
theorem hv_tks (s : Bs) : encTks (hvTk s) = if s = [] then [[.int .i64 2, .str [112], .str [], .seq [[.str [116, 105, 116, 108, 101], .str s]]], [.int .i64 3, .str [112], .str [], .seq []]] else [[.int .i64 2, .str [112], .str [], .seq [[.str [116, 105, 116, 108, 101], .str s]]], [.int .i64 1, .str [], .str s, .seq []], [.int .i64 3, .str [112], .str [], .seq []]] := by
  unfold hvTk txtL1
  split <;> rfl
set_option maxHeartbeats 8000000 in
theorem FnHoleValue_pure : PureOk Try.prog 6 (rel (α := Bs) (fun x => [.seq (x.map bc)]) (fun x => x.length ≤ 9223372036854775807) (fun _ => .bool true)) := by
  refine pure_relA 1 (tabA_cons drwET (tabA_nil (Γof_ok (tab_cons esc_i (tab_cons esc_s (tab_cons text_i (tab_cons rt_i (tab_cons fs_i (tab_cons tok_i (tab_cons alive9 tab_nil)))))))))) (tab_cons esc_i (tab_cons esc_s (tab_cons text_i (tab_cons rt_i (tab_cons fs_i (tab_cons tok_i (tab_cons alive9 tab_nil))))))) mixed [.tmp 2] Try.func6 rfl rfl (by kernel_rfl) (by kernel_rfl) (fun _ => rfl) (by kernel_rfl) ?_
  rintro l K hl hK
  have hba := bc_all l
  unfold entry
  repeat' (first | ((first | apply qwd | apply qa1 | apply qa2 | apply qa3 | apply qh1 | apply qh2 | apply qg1 rfl | apply qcd); (try intro K hk); focus (simp only [lvY40_6, mkT, go_sem, Nat.reduceEqDiff, Nat.reduceAdd, Nat.reduceLeDiff, Nat.reduceLT, Nat.reduceSub, Int.reduceToNat, ↓reduceIte, reduceCtorEq, exl, ex_unit9, true_and, bne_self_eq_false, Bool.not_true, Bool.not_false]; first | exact rfl | ((repeat (refine And.intro ?_ ?_; focus (first | omega | assumption | with_reducible rfl))); intros; apply hk; clear hk K))) | apply qw8 | apply qw1 | refine qwc lvY40_6 ?_ | apply qt1 | apply qw5 | apply qw2 | apply qw9 | apply qt2 | apply qt3 | apply qt4 | apply qt5 | apply qt6 | apply qw3 | apply qw4 | apply qj1 | apply qj2 | apply qj3 | apply qj4 | apply qj5 | apply qu1 | apply qu2 | (refine qj6 ?_ ?_ <;> intro hc <;> (try simp only [hc]) <;> (try simp only [decide_eq_true_eq, decide_eq_false_iff_not, Bool.not_eq_true', Bool.not_eq_false', Bool.not_eq_true, reduceCtorEq] at hc) <;> (try (exfalso; omega))) | (refine qt7 ?_ ?_; focus decide) | (refine qw7 ?_ ?_ ?_; (focus (decide +kernel)); (focus (decide +kernel))))
  all_goals first
    | (((first | refine fin_ret ?_ | refine fin_end ?_); simp only [go_sem, ↓upd_def, Nat.reduceEqDiff, Nat.reduceAdd, ↓reduceIte, reduceCtorEq])
       exact hK)
    | skip
  rename_i hl2 s hsl m9 n9 hn9 hlen
  have htx := hc
  have hv : valB s = true := valB_iff.2 ⟨by omega, htx⟩
  obtain ⟨o, ho⟩ : ∃ o, hv1 ++ escT s ++ hv2 ++ escT s ++ hv3 = o := ⟨_, rfl⟩
  have hr : readM [60, 112, 32, 116, 105, 116, 108, 101, 61, 34, 123, 123, 97, 125, 125, 34, 62, 123, 123, 97, 125, 125, 60, 47, 112, 62] = some hvL := hv_read
  have hf : fillM hvL [⟨[97], s, false, []⟩] = some o := (hv_fill hv).trans (by rw [ho])
  have ht : tokM o = some (hvTk s) := by rw [← ho]; exact hv_tok hv
  have hol : o.length ≤ 1099511627776 := by
    have := escT_len s
    rw [← ho]
    simp only [List.length_append, hv1, hv2, hv3, List.length_cons, List.length_nil]
    omega
  have hw := hv_wt
  have hok := hv_oks hsl
  have htk := hv_tks s
  have c1 : ((1 : Nat) : Int) = 1 := rfl
  have c2 : ((2 : Nat) : Int) = 2 := rfl
  have c3 : ((3 : Nat) : Int) = 3 := rfl
  by_cases hs0 : s = []
  · subst hs0
    rw [if_pos rfl] at htk
    repeat' (first | ((first | apply qwd | apply qa1 | apply qa2 | apply qa3 | apply qh1 | apply qh2 | apply qg1 rfl | apply qcd); (try intro K hk); focus (simp only [lvY40_6, mkT, go_sem, Nat.reduceEqDiff, Nat.reduceAdd, Nat.reduceLeDiff, Nat.reduceLT, Nat.reduceSub, Int.reduceToNat, ↓reduceIte, reduceCtorEq, c1, c2, c3, exl, ex_unit9, true_and, hr, hf, ht, htk, fs_q1, encPs_iff, encFs_iff, Option.getD_some, Option.isSome_some, bne_self_eq_false, Bool.not_true, Bool.not_false, List.length_cons, List.length_nil, Int.reduceEq, Int.reduceLT, Int.reduceNeg, Int.reduceToNat, decide_true, decide_false]; first | exact rfl | ((repeat (refine And.intro ?_ ?_; focus (first | omega | assumption | with_reducible rfl))); intros; apply hk; clear hk K))) | apply qw8 | apply qw1 | refine qwc lvY40_6 ?_ | apply qt1 | apply qw5 | apply qw2 | apply qw9 | apply qt2 | apply qt3 | apply qt4 | apply qt5 | apply qt6 | apply qw3 | apply qw4 | apply qj1 | apply qj2 | apply qj3 | apply qj4 | apply qj5 | apply qu1 | apply qu2 | (refine qj6 ?_ ?_ <;> intro hc <;> (try simp only [hc]) <;> (try simp only [decide_eq_true_eq, decide_eq_false_iff_not, Bool.not_eq_true', Bool.not_eq_false', Bool.not_eq_true, reduceCtorEq] at hc) <;> (try (exfalso; omega))) | (refine qt7 ?_ ?_; focus decide) | (refine qw7 ?_ ?_ ?_; (focus (decide +kernel)); (focus (decide +kernel))))
    all_goals first
      | (((first | refine fin_ret ?_ | refine fin_end ?_); simp only [go_sem, ↓upd_def, Nat.reduceEqDiff, Nat.reduceAdd, ↓reduceIte, reduceCtorEq])
         exact hK)
      | skip
  · rw [if_neg hs0] at htk
    repeat' (first | ((first | apply qwd | apply qa1 | apply qa2 | apply qa3 | apply qh1 | apply qh2 | apply qg1 rfl | apply qcd); (try intro K hk); focus (simp only [lvY40_6, mkT, go_sem, Nat.reduceEqDiff, Nat.reduceAdd, Nat.reduceLeDiff, Nat.reduceLT, Nat.reduceSub, Int.reduceToNat, ↓reduceIte, reduceCtorEq, c1, c2, c3, exl, ex_unit9, true_and, hr, hf, ht, htk, fs_q1, encPs_iff, encFs_iff, Option.getD_some, Option.isSome_some, bne_self_eq_false, Bool.not_true, Bool.not_false, List.length_cons, List.length_nil, Int.reduceEq, Int.reduceLT, Int.reduceNeg, Int.reduceToNat, decide_true, decide_false]; first | exact rfl | ((repeat (refine And.intro ?_ ?_; focus (first | omega | assumption | with_reducible rfl))); intros; apply hk; clear hk K))) | apply qw8 | apply qw1 | refine qwc lvY40_6 ?_ | apply qt1 | apply qw5 | apply qw2 | apply qw9 | apply qt2 | apply qt3 | apply qt4 | apply qt5 | apply qt6 | apply qw3 | apply qw4 | apply qj1 | apply qj2 | apply qj3 | apply qj4 | apply qj5 | apply qu1 | apply qu2 | (refine qj6 ?_ ?_ <;> intro hc <;> (try simp only [hc]) <;> (try simp only [decide_eq_true_eq, decide_eq_false_iff_not, Bool.not_eq_true', Bool.not_eq_false', Bool.not_eq_true, reduceCtorEq] at hc) <;> (try (exfalso; omega))) | (refine qt7 ?_ ?_; focus decide) | (refine qw7 ?_ ?_ ?_; (focus (decide +kernel)); (focus (decide +kernel))))
    all_goals first
      | (((first | refine fin_ret ?_ | refine fin_end ?_); simp only [go_sem, ↓upd_def, Nat.reduceEqDiff, Nat.reduceAdd, ↓reduceIte, reduceCtorEq])
         exact hK)
      | skip
end Go.Proofs.Ytnbjogilidfkdaa

/- The law's walk: an address in a hole stays safe. -/
namespace Go.Proofs.Ytnbjogilidfkdaa
attribute [local irreducible] awp arun acalm FinP Fin AX.then AX.inBlock Again aG gsel amix amixN amixC aop aopc aopd cutK
attribute [local go_sem] aBSliceD aSlice aSliceC boundOf aMk aCall aCallC aLenL aLen aPick_t aPick_f aNil aAlloc aBox aBuild bldPV aBSlice bsPV aApp newsOf destOf drp aConvX aConv aConvInt aLoad cellsAt aStore cellsPV setAt aFld aField aIdx aIndex aUn aBin' aBin aMax aExtract pvOf PV.isCell nmbL PV.nmb List.map_cons List.map_nil List.all_cons List.all_nil Bool.and_true Bool.true_and if_true if_false List.getD_cons_zero List.getD_cons_succ List.getD_nil Option.isSome_some true_and and_true and_self eq_self true_or or_true List.drop_zero List.drop_succ_cons List.drop_nil List.take_zero List.take_succ_cons List.take_nil List.length_cons List.length_nil List.length_map Option.getD_some Option.getD_none List.nil_append List.cons_append List.append_nil Option.some.injEq exists_eq_left' List.getElem?_cons_zero List.getElem?_cons_succ Int.toNat_natCast Int.natCast_inj toNat_succ Nat.zero_add res res1 resC owns owns1 ownsC List.flatMap_cons List.flatMap_nil List.flatten_cons List.flatten_nil List.mem_cons List.not_mem_nil or_false false_or forall_eq forall_eq_or_imp isFro frz frz1 pureC tabA isBld List.cons.injEq PV.seq.injEq PV.int.injEq PV.str.injEq PV.bool.injEq PV.agg.injEq inR tab Γof aRes packR Option.map_some Option.map_none rel Prod.exists exists_and_left exists_eq_left and_assoc beq_self_eq_true Bool.not_true Bool.not_false decide_true decide_false List.set_cons_zero List.set_cons_succ rst_nil rst_cons
attribute [local go_sem ↓] evT upd_def aop aopc aopd
set_option maxRecDepth 100000
set_option linter.unusedVariables false
set_option linter.unusedSimpArgs false
open Go.RowKit
def lvY41_7 : Nat → List Nat
  | 0 => [0]
  | 1 => [0, 12]
  | 2 => [2]
  | 3 => [3]
  | 4 => [3, 19]
  | 5 => [2]
  | 6 => [3, 27]
  | 7 => [2]
  | 8 => [3, 4, 5]
  | 9 => [5, 6, 7]
  | 10 => [5, 7, 8, 9]
  | 11 => [2]
  | _ => []
--LV=Y41
theorem drwSA : ACok Try.prog 30 (drwG (α := Bs) (fun s => s.length ≤ 24) (fun s => .str s)) := drw_of (by
  refine ac_body 1 (tabA_cons open_ok (tabA_cons addr_ok (tabA_nil (Γof_ok tab_nil)))) tab_nil mixed [.tmp 2] Try.func30 rfl rfl (by kernel_rfl) (by kernel_rfl) ?_ (by kernel_rfl) ?_
  · intro args mem n K h
    obtain ⟨es, rfl, h⟩ := drw_args h
    rfl
  intro args mem n K h
  obtain ⟨es, rfl, ⟨l, rfl, hl⟩, hK⟩ := drw_args h
  have hba := bc_all l
  unfold entry
  repeat' (first | ((first | apply qa1 | apply qa2 | apply qa3 | apply qh1 | apply qh2 | apply qg1 rfl | apply qcd); (try intro K hk); focus (simp only [go_sem, Nat.reduceEqDiff, Nat.reduceAdd, Nat.reduceLeDiff, Nat.reduceLT, Nat.reduceSub, Int.reduceToNat, ↓reduceIte, reduceCtorEq, exl, q_1, q_2, q_3, q_4, q_5, q_6, q_7, q_8, q_9, q_10]; first | exact rfl | ((repeat (refine And.intro ?_ ?_; focus (first | omega | assumption | with_reducible rfl))); intros; apply hk; clear hk K))) | apply qw8 | apply qw1 | apply qw6 | apply qt1 | apply qw5 | apply qw2 | apply qw9 | apply qt2 | apply qt3 | apply qt4 | apply qt5 | apply qt6 | apply qw3 | apply qw4 | apply qj1 | apply qj2 | apply qj3 | apply qj4 | apply qj5 | apply qu1 | apply qu2 | (refine qj6 ?_ ?_ <;> intro hc <;> (try simp only [hc]) <;> (try simp only [decide_eq_true_eq, decide_eq_false_iff_not, Bool.not_eq_true', Bool.not_eq_false', Bool.not_eq_true, reduceCtorEq] at hc) <;> (try (exfalso; omega))) | (refine qt7 ?_ ?_; focus decide) | (refine qw7 ?_ ?_ ?_; (focus (decide +kernel)); (focus (decide +kernel))))
  rename Bs => s
  refine fin_retA ?_
  simp only [go_sem, ↓upd_def, Nat.reduceEqDiff, ↓reduceIte, q_1, q_2, q_3, q_4, q_5, q_6, q_7, q_8, q_9, q_10]
  refine hK s _ _ _ (by omega) ?_ (by omega)
  simp [res, res1, resC, upd_def, q_1, q_2, q_3, q_4, q_5, q_6, q_7, q_8, q_9, q_10])
theorem fs_q2 (a b a' b' : Bs) (c c' : Bool) : ([[.str a, .str b, .bool c, .seq []], [.str a', .str b', .bool c', .seq []]] : List (List PV)) = encFs [⟨a, b, c, []⟩, ⟨a', b', c', []⟩] := rfl
theorem ah_wt : wtL ahL ≤ 1073741824 := by decide +kernel
theorem ah_oks {s u : Bs} (h : s.length ≤ 200) (h' : u.length ≤ 200) : okF [⟨[97], s, false, []⟩, ⟨[98], u, false, []⟩] := ⟨by simp, fun f hf => by
  simp only [List.mem_cons, List.not_mem_nil, or_false] at hf
  rcases hf with rfl | rfl <;> (refine ⟨?_, ?_, ?_, ?_⟩ <;> simp <;> omega)⟩
theorem escFor3_len (s : Bs) : (escFor 3 s).length ≤ 18 * s.length + 1 := escFor_len 3 s
theorem escFor4_len (s : Bs) : (escFor 4 s).length ≤ 3 * s.length := by
  have e4 : escFor 4 s = pctS keep3 s := by unfold escFor; simp
  rw [e4]
  exact pctS_len keep3 s
set_option maxHeartbeats 8000000 in
theorem FnAddressHole_pure : PureOk Try.prog 7 (rel (α := Bs) (fun x => [.seq (x.map bc)]) (fun x => x.length ≤ 9223372036854775807) (fun _ => .bool true)) := by
  refine pure_relA 1 (tabA_cons drwSA (tabA_nil (Γof_ok (tab_cons safe_i (tab_cons safe_s (tab_cons text_i (tab_cons rt_i (tab_cons fs_i (tab_cons tok_i (tab_cons alive9 tab_nil)))))))))) (tab_cons safe_i (tab_cons safe_s (tab_cons text_i (tab_cons rt_i (tab_cons fs_i (tab_cons tok_i (tab_cons alive9 tab_nil))))))) mixed [.tmp 2] Try.func7 rfl rfl (by kernel_rfl) (by kernel_rfl) (fun _ => rfl) (by kernel_rfl) ?_
  rintro l K hl hK
  have hba := bc_all l
  unfold entry
  repeat' (first | ((first | apply qwd | apply qa1 | apply qa2 | apply qa3 | apply qh1 | apply qh2 | apply qg1 rfl | apply qcd); (try intro K hk); focus (simp only [lvY41_7, mkT, go_sem, Nat.reduceEqDiff, Nat.reduceAdd, Nat.reduceLeDiff, Nat.reduceLT, Nat.reduceSub, Int.reduceToNat, ↓reduceIte, reduceCtorEq, exl, ex_unit9, true_and, bne_self_eq_false, Bool.not_true, Bool.not_false]; first | exact rfl | ((repeat (refine And.intro ?_ ?_; focus (first | omega | assumption | with_reducible rfl))); intros; apply hk; clear hk K))) | apply qw8 | apply qw1 | refine qwc lvY41_7 ?_ | apply qt1 | apply qw5 | apply qw2 | apply qw9 | apply qt2 | apply qt3 | apply qt4 | apply qt5 | apply qt6 | apply qw3 | apply qw4 | apply qj1 | apply qj2 | apply qj3 | apply qj4 | apply qj5 | apply qu1 | apply qu2 | (refine qj6 ?_ ?_ <;> intro hc <;> (try simp only [hc]) <;> (try simp only [decide_eq_true_eq, decide_eq_false_iff_not, Bool.not_eq_true', Bool.not_eq_false', Bool.not_eq_true, reduceCtorEq] at hc) <;> (try (exfalso; omega))) | (refine qt7 ?_ ?_; focus decide) | (refine qw7 ?_ ?_ ?_; (focus (decide +kernel)); (focus (decide +kernel))))
  all_goals first
    | (((first | refine fin_ret ?_ | refine fin_end ?_); simp only [go_sem, ↓upd_def, Nat.reduceEqDiff, Nat.reduceAdd, ↓reduceIte, reduceCtorEq])
       exact hK)
    | skip
  rename_i hl2 s hsl m9 n9 hn9 hlen
  have htx := hc
  have hv : valB s = true := valB_iff.2 ⟨by omega, htx⟩
  have k2 : (s.length : Int) / 2 = ((s.length / 2 : Nat) : Int) := by omega
  have hx2 : (2 : Nat) + (s.take (s.length / 2)).length ≤ 40 := by rw [List.length_take]; omega
  have hul : ([113, 58] ++ s.take (s.length / 2)).length ≤ 14 := by simp; omega
  have hvu : valB ([113, 58] ++ s.take (s.length / 2)) = true := by
    refine valB_iff.2 ⟨by omega, textB_iff.2 ⟨by omega, ?_⟩⟩
    intro b hb
    rcases List.mem_append.1 hb with hb | hb
    · exact okL_lit (s := [113, 58]) (by decide) b hb
    · exact okB_text htx b (List.mem_of_mem_take hb)
  generalize hu : [113, 58] ++ s.take (s.length / 2) = u at *
  have hu2 : 113 :: 58 :: s.take (s.length / 2) = u := hu
  obtain ⟨o, ho⟩ : ∃ o, ah1 ++ (escFor 3 s ++ escFor 4 u) ++ ah2 = o := ⟨_, rfl⟩
  have hr : readM [60, 97, 32, 104, 114, 101, 102, 61, 39, 123, 123, 97, 125, 125, 123, 123, 98, 125, 125, 39, 62, 120, 60, 47, 97, 62] = some ahL := ah_read
  have hf : fillM ahL [⟨[97], s, false, []⟩, ⟨[98], u, false, []⟩] = some o := (ah_fill hv hvu).trans (by rw [ho])
  have e3 := escFor3_len s
  have e4 := escFor4_len u
  have htm : tokM o = some [tkOpen [97] [([104, 114, 101, 102], unT (escFor 3 s ++ escFor 4 u))], tkText [120], tkEnd [97]] := by rw [← ho]; exact ah_tok (by omega)
  have hol : o.length ≤ 1099511627776 := by
    rw [← ho]
    simp only [List.length_append, ah1, ah2, List.length_cons, List.length_nil]
    omega
  have hw := ah_wt
  have hok := ah_oks (s := s) (u := u) (by omega) (by omega)
  have hsa := safe_adr s u
  have hal := unT_len (escFor 3 s ++ escFor 4 u)
  rw [List.length_append] at hal
  generalize unT (escFor 3 s ++ escFor 4 u) = av at *
  have htk : encTks [tkOpen [97] [([104, 114, 101, 102], av)], tkText [120], tkEnd [97]] = [[.int .i64 2, .str [97], .str [], .seq [[.str [104, 114, 101, 102], .str av]]], [.int .i64 1, .str [], .str [120], .seq []], [.int .i64 3, .str [97], .str [], .seq []]] := rfl
  have hfa := encFs_all [⟨[97], s, false, []⟩, ⟨[98], u, false, []⟩]
  have hfl := encFs_length [⟨[97], s, false, []⟩, ⟨[98], u, false, []⟩]
  have c1 : ((1 : Nat) : Int) = 1 := rfl
  have c2 : ((2 : Nat) : Int) = 2 := rfl
  have c3 : ((3 : Nat) : Int) = 3 := rfl
  repeat' (first | ((first | apply qwd | apply qa1 | apply qa2 | apply qa3 | apply qh1 | apply qh2 | apply qg1 rfl | apply qcd); (try intro K hk); focus (simp only [lvY41_7, mkT, go_sem, Nat.reduceEqDiff, Nat.reduceAdd, Nat.reduceLeDiff, Nat.reduceLT, Nat.reduceSub, Int.reduceToNat, ↓reduceIte, reduceCtorEq, exl, k2, hu, hu2, Int.toNat_natCast, List.cons_append, List.nil_append]; first | exact rfl | ((repeat (refine And.intro ?_ ?_; focus (first | omega | assumption | with_reducible rfl))); intros; apply hk; clear hk K))) | apply qw8 | apply qw1 | refine qwc lvY41_7 ?_ | apply qt1 | apply qw5 | apply qw2 | apply qw9 | apply qt2 | apply qt3 | apply qt4 | apply qt5 | apply qt6 | apply qw3 | apply qw4 | apply qj1 | apply qj2 | apply qj3 | apply qj4 | apply qj5 | apply qu1 | apply qu2 | (refine qj6 ?_ ?_ <;> intro hc <;> (try simp only [hc]) <;> (try simp only [decide_eq_true_eq, decide_eq_false_iff_not, Bool.not_eq_true', Bool.not_eq_false', Bool.not_eq_true, reduceCtorEq] at hc) <;> (try (exfalso; omega))) | (refine qt7 ?_ ?_; focus decide) | (refine qw7 ?_ ?_ ?_; (focus (decide +kernel)); (focus (decide +kernel))))
  repeat' (first | ((first | apply qwd | apply qa1 | apply qa2 | apply qa3 | apply qh1 | apply qh2 | apply qg1 rfl | apply qcd); (try intro K hk); focus (simp only [lvY41_7, mkT, go_sem, Nat.reduceEqDiff, Nat.reduceAdd, Nat.reduceLeDiff, Nat.reduceLT, Nat.reduceSub, Int.reduceToNat, ↓reduceIte, reduceCtorEq, c1, c2, c3, exl, ex_unit9, true_and, hr, hf, htm, htk, fs_q2, hfa, hfl, k2, hu, hu2, hsa, encPs_iff, encFs_iff, Int.toNat_natCast, List.cons_append, List.nil_append, Option.getD_some, Option.isSome_some, bne_self_eq_false, Bool.not_true, Bool.not_false, List.length_cons, List.length_nil, Int.reduceEq, Int.reduceLT, Int.reduceNeg, Int.reduceToNat, decide_true, decide_false]; first | exact rfl | ((repeat (refine And.intro ?_ ?_; focus (first | omega | assumption | with_reducible rfl))); intros; apply hk; clear hk K))) | apply qw8 | apply qw1 | refine qwc lvY41_7 ?_ | apply qt1 | apply qw5 | apply qw2 | apply qw9 | apply qt2 | apply qt3 | apply qt4 | apply qt5 | apply qt6 | apply qw3 | apply qw4 | apply qj1 | apply qj2 | apply qj3 | apply qj4 | apply qj5 | apply qu1 | apply qu2 | (refine qj6 ?_ ?_ <;> intro hc <;> (try simp only [hc]) <;> (try simp only [decide_eq_true_eq, decide_eq_false_iff_not, Bool.not_eq_true', Bool.not_eq_false', Bool.not_eq_true, reduceCtorEq] at hc) <;> (try (exfalso; omega))) | (refine qt7 ?_ ?_; focus decide) | (refine qw7 ?_ ?_ ?_; (focus (decide +kernel)); (focus (decide +kernel))))
  all_goals first
    | (((first | refine fin_ret ?_ | refine fin_end ?_); simp only [go_sem, ↓upd_def, Nat.reduceEqDiff, Nat.reduceAdd, ↓reduceIte, reduceCtorEq])
       exact hK)
    | skip
end Go.Proofs.Ytnbjogilidfkdaa
