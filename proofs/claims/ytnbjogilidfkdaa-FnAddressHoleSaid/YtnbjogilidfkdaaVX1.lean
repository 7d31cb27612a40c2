/- Contracts of the small functions on bytes and texts. -/
import Derived.Test.YtnbjogilidfkdaaVFB
import Derived.Test.YtnbjogilidfkdaaVTY
import Derived.Test.YtnbjogilidfkdaaVD1
import Derived.Test.YtnbjogilidfkdaaVWL

namespace Go.Proofs.Ytnbjogilidfkdaa
attribute [local irreducible] awp arun acalm FinP Fin AX.then AX.inBlock Again aG gsel amix amixN amixC aop aopc aopd cutK
attribute [local go_sem] aBSliceD aSlice aSliceC boundOf aMk aCall aCallC aLenL aLen aPick_t aPick_f aNil aAlloc aBox aBuild bldPV aBSlice bsPV aApp newsOf destOf drp aConvX aConv aConvInt aLoad cellsAt aStore cellsPV setAt aFld aField aIdx aIndex aUn aBin' aBin aMax aExtract pvOf PV.isCell nmbL PV.nmb List.map_cons List.map_nil List.all_cons List.all_nil Bool.and_true Bool.true_and if_true if_false List.getD_cons_zero List.getD_cons_succ List.getD_nil Option.isSome_some true_and and_true and_self eq_self true_or or_true List.drop_zero List.drop_succ_cons List.drop_nil List.take_zero List.take_succ_cons List.take_nil List.length_cons List.length_nil List.length_map Option.getD_some Option.getD_none List.nil_append List.cons_append List.append_nil Option.some.injEq exists_eq_left' List.getElem?_cons_zero List.getElem?_cons_succ Int.toNat_natCast Int.natCast_inj toNat_succ Nat.zero_add res res1 resC owns owns1 ownsC List.flatMap_cons List.flatMap_nil List.flatten_cons List.flatten_nil List.mem_cons List.not_mem_nil or_false false_or forall_eq forall_eq_or_imp isFro frz frz1 pureC tabA isBld List.cons.injEq PV.seq.injEq PV.int.injEq PV.str.injEq PV.bool.injEq PV.agg.injEq inR tab Γof aRes packR Option.map_some Option.map_none rel Prod.exists exists_and_left exists_eq_left and_assoc beq_self_eq_true Bool.not_true Bool.not_false decide_true decide_false List.set_cons_zero List.set_cons_succ rst_nil rst_cons
attribute [local go_sem ↓] evT upd_def aop aopc aopd
set_option maxRecDepth 100000
set_option linter.unusedVariables false
set_option linter.unusedSimpArgs false
open Go.RowKit
def BIG : Nat := 1099511627776
@[go_sem] theorem BIG_def : BIG = 1099511627776 := rfl
/-- A function of a byte. -/
@[go_sem] def byC (f : UInt8 → PV) : PC := rel (α := Int) (fun x => [.int .u8 x]) (fun x => 0 ≤ x ∧ x < 256) (fun x => f (ofI x))
/-- A function of a text. -/
@[go_sem] def tC (f : Bs → PV) : PC := rel (α := Bs) (fun s => [.str s]) (fun s => s.length ≤ 1099511627776) f
theorem isLet_t {b : UInt8} (h : (97 ≤ b.toNat ∧ b.toNat ≤ 122) ∨ (65 ≤ b.toNat ∧ b.toNat ≤ 90)) : isLet b = true := decide_eq_true h
theorem isLet_f {b : UInt8} (h : ¬ ((97 ≤ b.toNat ∧ b.toNat ≤ 122) ∨ (65 ≤ b.toNat ∧ b.toNat ≤ 90))) : isLet b = false := decide_eq_false h
theorem isDig_t {b : UInt8} (h : 48 ≤ b.toNat ∧ b.toNat ≤ 57) : isDig b = true := decide_eq_true h
theorem isDig_f {b : UInt8} (h : ¬ (48 ≤ b.toNat ∧ b.toNat ≤ 57)) : isDig b = false := decide_eq_false h
set_option maxHeartbeats 4000000 in
theorem let_i : PureOk Try.prog 111 (byC fun b => .bool (isLet b)) := by
  refine pure_rel 1 tab_nil mixed [.tmp 2] Try.func111 rfl rfl (by kernel_rfl) (by kernel_rfl) (fun _ => rfl) (by kernel_rfl) ?_
  rintro x K ⟨h0, h1⟩ hK
  obtain ⟨b, rfl⟩ := byte_of h0 h1
  simp only [ofI_nat] at hK
  unfold entry
  repeat' (first | ((first | apply qa1 | apply qa2 | apply qa3 | apply qh1 | apply qh2 | apply qg1 rfl | apply qcd); (try intro K hk); focus (simp only [go_sem, Nat.reduceEqDiff, Nat.reduceAdd, Nat.reduceLeDiff, Nat.reduceLT, Nat.reduceSub, Int.reduceToNat, ↓reduceIte, reduceCtorEq]; first | exact rfl | ((repeat (refine And.intro ?_ ?_; focus (first | omega | assumption | with_reducible rfl))); intros; apply hk; clear hk K))) | apply qw8 | apply qw1 | apply qw6 | apply qt1 | apply qw5 | apply qw2 | apply qw9 | apply qt2 | apply qt3 | apply qt4 | apply qt5 | apply qt6 | apply qw3 | apply qw4 | apply qj1 | apply qj2 | apply qj3 | apply qj4 | apply qj5 | apply qu1 | apply qu2 | (refine qj6 ?_ ?_ <;> intro hc <;> (try simp only [hc]) <;> (try simp only [decide_eq_true_eq, decide_eq_false_iff_not, Bool.not_eq_true', Bool.not_eq_false', Bool.not_eq_true, reduceCtorEq] at hc) <;> (try (exfalso; omega))) | (refine qt7 ?_ ?_; focus decide) | (refine qw7 ?_ ?_ ?_; (focus (decide +kernel)); (focus (decide +kernel))))
  all_goals
    ((first | refine fin_ret ?_ | refine fin_end ?_); simp only [go_sem, ↓upd_def, Nat.reduceEqDiff, Nat.reduceAdd, ↓reduceIte, reduceCtorEq])
    exact K_bool hK (by first | exact isLet_t (by omega) | exact isLet_f (by omega) | exact decide_eq_decide.2 (by omega))
set_option maxHeartbeats 4000000 in
theorem let_s : PureOk Try.prog 119 (byC fun b => .bool (isLet b)) := by
  refine pure_rel 1 tab_nil mixed [.tmp 2] Try.func119 rfl rfl (by kernel_rfl) (by kernel_rfl) (fun _ => rfl) (by kernel_rfl) ?_
  rintro x K ⟨h0, h1⟩ hK
  obtain ⟨b, rfl⟩ := byte_of h0 h1
  simp only [ofI_nat] at hK
  unfold entry
  repeat' (first | ((first | apply qa1 | apply qa2 | apply qa3 | apply qh1 | apply qh2 | apply qg1 rfl | apply qcd); (try intro K hk); focus (simp only [go_sem, Nat.reduceEqDiff, Nat.reduceAdd, Nat.reduceLeDiff, Nat.reduceLT, Nat.reduceSub, Int.reduceToNat, ↓reduceIte, reduceCtorEq]; first | exact rfl | ((repeat (refine And.intro ?_ ?_; focus (first | omega | assumption | with_reducible rfl))); intros; apply hk; clear hk K))) | apply qw8 | apply qw1 | apply qw6 | apply qt1 | apply qw5 | apply qw2 | apply qw9 | apply qt2 | apply qt3 | apply qt4 | apply qt5 | apply qt6 | apply qw3 | apply qw4 | apply qj1 | apply qj2 | apply qj3 | apply qj4 | apply qj5 | apply qu1 | apply qu2 | (refine qj6 ?_ ?_ <;> intro hc <;> (try simp only [hc]) <;> (try simp only [decide_eq_true_eq, decide_eq_false_iff_not, Bool.not_eq_true', Bool.not_eq_false', Bool.not_eq_true, reduceCtorEq] at hc) <;> (try (exfalso; omega))) | (refine qt7 ?_ ?_; focus decide) | (refine qw7 ?_ ?_ ?_; (focus (decide +kernel)); (focus (decide +kernel))))
  all_goals
    ((first | refine fin_ret ?_ | refine fin_end ?_); simp only [go_sem, ↓upd_def, Nat.reduceEqDiff, Nat.reduceAdd, ↓reduceIte, reduceCtorEq])
    exact K_bool hK (by first | exact isLet_t (by omega) | exact isLet_f (by omega) | exact decide_eq_decide.2 (by omega))
set_option maxHeartbeats 4000000 in
theorem digb_i : PureOk Try.prog 114 (byC fun b => .bool (isDig b)) := by
  refine pure_rel 1 tab_nil mixed [.tmp 2] Try.func114 rfl rfl (by kernel_rfl) (by kernel_rfl) (fun _ => rfl) (by kernel_rfl) ?_
  rintro x K ⟨h0, h1⟩ hK
  obtain ⟨b, rfl⟩ := byte_of h0 h1
  simp only [ofI_nat] at hK
  unfold entry
  repeat' (first | ((first | apply qa1 | apply qa2 | apply qa3 | apply qh1 | apply qh2 | apply qg1 rfl | apply qcd); (try intro K hk); focus (simp only [go_sem, Nat.reduceEqDiff, Nat.reduceAdd, Nat.reduceLeDiff, Nat.reduceLT, Nat.reduceSub, Int.reduceToNat, ↓reduceIte, reduceCtorEq]; first | exact rfl | ((repeat (refine And.intro ?_ ?_; focus (first | omega | assumption | with_reducible rfl))); intros; apply hk; clear hk K))) | apply qw8 | apply qw1 | apply qw6 | apply qt1 | apply qw5 | apply qw2 | apply qw9 | apply qt2 | apply qt3 | apply qt4 | apply qt5 | apply qt6 | apply qw3 | apply qw4 | apply qj1 | apply qj2 | apply qj3 | apply qj4 | apply qj5 | apply qu1 | apply qu2 | (refine qj6 ?_ ?_ <;> intro hc <;> (try simp only [hc]) <;> (try simp only [decide_eq_true_eq, decide_eq_false_iff_not, Bool.not_eq_true', Bool.not_eq_false', Bool.not_eq_true, reduceCtorEq] at hc) <;> (try (exfalso; omega))) | (refine qt7 ?_ ?_; focus decide) | (refine qw7 ?_ ?_ ?_; (focus (decide +kernel)); (focus (decide +kernel))))
  all_goals
    ((first | refine fin_ret ?_ | refine fin_end ?_); simp only [go_sem, ↓upd_def, Nat.reduceEqDiff, Nat.reduceAdd, ↓reduceIte, reduceCtorEq])
    exact K_bool hK (by first | exact isDig_t (by omega) | exact isDig_f (by omega) | exact decide_eq_decide.2 (by omega))
set_option maxHeartbeats 4000000 in
theorem digb_s : PureOk Try.prog 120 (byC fun b => .bool (isDig b)) := by
  refine pure_rel 1 tab_nil mixed [.tmp 2] Try.func120 rfl rfl (by kernel_rfl) (by kernel_rfl) (fun _ => rfl) (by kernel_rfl) ?_
  rintro x K ⟨h0, h1⟩ hK
  obtain ⟨b, rfl⟩ := byte_of h0 h1
  simp only [ofI_nat] at hK
  unfold entry
  repeat' (first | ((first | apply qa1 | apply qa2 | apply qa3 | apply qh1 | apply qh2 | apply qg1 rfl | apply qcd); (try intro K hk); focus (simp only [go_sem, Nat.reduceEqDiff, Nat.reduceAdd, Nat.reduceLeDiff, Nat.reduceLT, Nat.reduceSub, Int.reduceToNat, ↓reduceIte, reduceCtorEq]; first | exact rfl | ((repeat (refine And.intro ?_ ?_; focus (first | omega | assumption | with_reducible rfl))); intros; apply hk; clear hk K))) | apply qw8 | apply qw1 | apply qw6 | apply qt1 | apply qw5 | apply qw2 | apply qw9 | apply qt2 | apply qt3 | apply qt4 | apply qt5 | apply qt6 | apply qw3 | apply qw4 | apply qj1 | apply qj2 | apply qj3 | apply qj4 | apply qj5 | apply qu1 | apply qu2 | (refine qj6 ?_ ?_ <;> intro hc <;> (try simp only [hc]) <;> (try simp only [decide_eq_true_eq, decide_eq_false_iff_not, Bool.not_eq_true', Bool.not_eq_false', Bool.not_eq_true, reduceCtorEq] at hc) <;> (try (exfalso; omega))) | (refine qt7 ?_ ?_; focus decide) | (refine qw7 ?_ ?_ ?_; (focus (decide +kernel)); (focus (decide +kernel))))
  all_goals
    ((first | refine fin_ret ?_ | refine fin_end ?_); simp only [go_sem, ↓upd_def, Nat.reduceEqDiff, Nat.reduceAdd, ↓reduceIte, reduceCtorEq])
    exact K_bool hK (by first | exact isDig_t (by omega) | exact isDig_f (by omega) | exact decide_eq_decide.2 (by omega))
@[go_sem] def hasC : PC := rel (α := Bs × Int) (fun x => [.str x.1, .int .u8 x.2]) (fun x => x.1.length ≤ 1099511627776 ∧ 0 ≤ x.2 ∧ x.2 < 256) (fun x => .bool (hasB x.1 (ofI x.2)))
set_option maxHeartbeats 4000000 in
theorem has_i : PureOk Try.prog 130 hasC := by
  refine pure_rel 2 tab_nil mixed [.tmp 4] Try.func130 rfl rfl (by kernel_rfl) (by kernel_rfl) (fun _ => rfl) (by kernel_rfl) ?_
  rintro ⟨s, x⟩ K ⟨hl, h0, h1⟩ hK
  obtain ⟨b, hb⟩ := byte_of h0 h1
  dsimp only at *
  subst hb
  simp only [ofI_nat] at hK
  unfold entry
  repeat' (first | ((first | apply qa1 | apply qa2 | apply qa3 | apply qh1 | apply qh2 | apply qg1 rfl | apply qcd); (try intro K hk); focus (simp only [go_sem, Nat.reduceEqDiff, Nat.reduceAdd, Nat.reduceLeDiff, Nat.reduceLT, Nat.reduceSub, Int.reduceToNat, ↓reduceIte, reduceCtorEq]; first | exact rfl | ((repeat (refine And.intro ?_ ?_; focus (first | omega | assumption | with_reducible rfl))); intros; apply hk; clear hk K))) | apply qw8 | apply qw1 | apply qw6 | apply qt1 | apply qw5 | apply qw2 | apply qw9 | apply qt2 | apply qt3 | apply qt4 | apply qt5 | apply qt6 | apply qw3 | apply qw4 | apply qj1 | apply qj2 | apply qj3 | apply qj4 | apply qj5 | apply qu1 | apply qu2 | (refine qj6 ?_ ?_ <;> intro hc <;> (try simp only [hc]) <;> (try simp only [decide_eq_true_eq, decide_eq_false_iff_not, Bool.not_eq_true', Bool.not_eq_false', Bool.not_eq_true, reduceCtorEq] at hc) <;> (try (exfalso; omega))) | (refine qt7 ?_ ?_; focus decide) | (refine qw7 ?_ ?_ ?_; (focus (decide +kernel)); (focus (decide +kernel))))
  refine s_loop (ι := Nat) (fun k => [(0, .str s), (1, .int .u8 b.toNat), (5, .int .i64 k)]) (fun _ => []) 0 (fun k => k ≤ s.length ∧ hasB (s.take k) b = false) (fun k => s.length - k) 0 (by omega) ⟨by omega, by simp [hasB]⟩ ?_ ?_
  · simp [fits, fitsT, fitsM, upd_def, PV.nmb, nmbL, MB.nmb, List.getD_cons_zero, List.getD_cons_succ]
  rintro k ⟨hk, hp⟩
  have hbl := byte_lt s k
  simp only [mkS, mkT, mkM]
  repeat' (first | ((first | apply qa1 | apply qa2 | apply qa3 | apply qh1 | apply qh2 | apply qg1 rfl | apply qcd); (try intro K hk); focus (simp only [go_sem, Nat.reduceEqDiff, Nat.reduceAdd, Nat.reduceLeDiff, Nat.reduceLT, Nat.reduceSub, Int.reduceToNat, ↓reduceIte, reduceCtorEq]; first | exact rfl | ((repeat (refine And.intro ?_ ?_; focus (first | omega | assumption | with_reducible rfl))); intros; apply hk; clear hk K))) | apply qw8 | apply qw1 | apply qw6 | apply qt1 | apply qw5 | apply qw2 | apply qw9 | apply qt2 | apply qt3 | apply qt4 | apply qt5 | apply qt6 | apply qw3 | apply qw4 | apply qj1 | apply qj2 | apply qj3 | apply qj4 | apply qj5 | apply qu1 | apply qu2 | (refine qj6 ?_ ?_ <;> intro hc <;> (try simp only [hc]) <;> (try simp only [decide_eq_true_eq, decide_eq_false_iff_not, Bool.not_eq_true', Bool.not_eq_false', Bool.not_eq_true, reduceCtorEq] at hc) <;> (try (exfalso; omega))) | (refine qt7 ?_ ?_; focus decide) | (refine qw7 ?_ ?_ ?_; (focus (decide +kernel)); (focus (decide +kernel))))
  · ((first | refine fin_ret ?_ | refine fin_end ?_); simp only [go_sem, ↓upd_def, Nat.reduceEqDiff, Nat.reduceAdd, ↓reduceIte, reduceCtorEq])
    exact K_bool hK (hasB_at (k := k) (by omega) (by omega))
  · refine s_again (k + 1) ?_ ?_ ?_ <;> (first | omega | (dsimp only; omega) | skip)
    · exact ⟨by omega, by rw [hasB_snoc (by omega), hp, decide_eq_false (by omega)]; rfl⟩
    · simp [fits, fitsT, fitsM, upd_def, PV.nmb, nmbL, MB.nmb, List.getD_cons_zero, List.getD_cons_succ]
  · ((first | refine fin_ret ?_ | refine fin_end ?_); simp only [go_sem, ↓upd_def, Nat.reduceEqDiff, Nat.reduceAdd, ↓reduceIte, reduceCtorEq])
    rw [List.take_of_length_le (by omega)] at hp
    exact K_bool hK hp
theorem low_same (s : Bs) : lowL s = lowS s := by
  unfold lowL lowS
  refine List.map_congr_left fun b _ => ?_
  apply UInt8.toNat_inj.1
  rw [lowB_nat, low1_nat]
theorem low_i : PureOk Try.prog 51 (tC fun s => .str (lowS s)) := by
  refine rel_of_calls ⟨_, Try.func51, by kernel_rfl, by kernel_rfl⟩ ?_
  intro c s vs hc hl hr
  simp only [RepL.cons_iff, RepL.nil_iff] at hr
  obtain ⟨v, _, rfl, hv, rfl⟩ := hr
  unfold Rep at hv
  subst hv
  refine (lowerText_i ⟨s.toArray⟩ (by show s.length ≤ maxLen; unfold maxLen; omega) c.w).mono ?_
  rintro e w' ⟨rfl, hb⟩
  refine ⟨_, rfl, ?_, hb⟩
  rw [← low_same]
  unfold Rep
  rfl
set_option maxHeartbeats 4000000 in
theorem low_s : PureOk Try.prog 121 (tC fun s => .str (lowS s)) := by
  refine pure_rel 1 tab_nil mixed [.tmp 2] Try.func121 rfl rfl (by kernel_rfl) (by kernel_rfl) (fun _ => rfl) (by kernel_rfl) ?_
  rintro s K hl hK
  unfold entry
  repeat' (first | ((first | apply qa1 | apply qa2 | apply qa3 | apply qh1 | apply qh2 | apply qg1 rfl | apply qcd); (try intro K hk); focus (simp only [go_sem, Nat.reduceEqDiff, Nat.reduceAdd, Nat.reduceLeDiff, Nat.reduceLT, Nat.reduceSub, Int.reduceToNat, ↓reduceIte, reduceCtorEq]; first | exact rfl | ((repeat (refine And.intro ?_ ?_; focus (first | omega | assumption | with_reducible rfl))); intros; apply hk; clear hk K))) | apply qw8 | apply qw1 | apply qw6 | apply qt1 | apply qw5 | apply qw2 | apply qw9 | apply qt2 | apply qt3 | apply qt4 | apply qt5 | apply qt6 | apply qw3 | apply qw4 | apply qj1 | apply qj2 | apply qj3 | apply qj4 | apply qj5 | apply qu1 | apply qu2 | (refine qj6 ?_ ?_ <;> intro hc <;> (try simp only [hc]) <;> (try simp only [decide_eq_true_eq, decide_eq_false_iff_not, Bool.not_eq_true', Bool.not_eq_false', Bool.not_eq_true, reduceCtorEq] at hc) <;> (try (exfalso; omega))) | (refine qt7 ?_ ?_; focus decide) | (refine qw7 ?_ ?_ ?_; (focus (decide +kernel)); (focus (decide +kernel))))
  refine s_loop (ι := Nat) (fun k => [(0, .str s), (3, .own 0), (4, .int .i64 k)]) (fun k => [(0, .row 5 1 ((lowS (s.take k)).map bc))]) 1 (fun k => k ≤ s.length) (fun k => s.length - k) 0 (by omega) (by omega) ?_ ?_
  · simp [fits, fitsT, fitsM, upd_def, PV.nmb, nmbL, MB.nmb, List.getD_cons_zero, List.getD_cons_succ, lowS]
  intro k hk
  have hbl := byte_lt s k
  have hL1 : (lowS (s.take k)).length = k := by simp [lowS, hk]
  simp only [mkS, mkT, mkM]
  repeat' (first | ((first | apply qa1 | apply qa2 | apply qa3 | apply qh1 | apply qh2 | apply qg1 rfl | apply qcd); (try intro K hk); focus (simp only [go_sem, Nat.reduceEqDiff, Nat.reduceAdd, Nat.reduceLeDiff, Nat.reduceLT, Nat.reduceSub, Int.reduceToNat, ↓reduceIte, reduceCtorEq]; first | exact rfl | ((repeat (refine And.intro ?_ ?_; focus (first | omega | assumption | with_reducible rfl))); intros; apply hk; clear hk K))) | apply qw8 | apply qw1 | apply qw6 | apply qt1 | apply qw5 | apply qw2 | apply qw9 | apply qt2 | apply qt3 | apply qt4 | apply qt5 | apply qt6 | apply qw3 | apply qw4 | apply qj1 | apply qj2 | apply qj3 | apply qj4 | apply qj5 | apply qu1 | apply qu2 | (refine qj6 ?_ ?_ <;> intro hc <;> (try simp only [hc]) <;> (try simp only [decide_eq_true_eq, decide_eq_false_iff_not, Bool.not_eq_true', Bool.not_eq_false', Bool.not_eq_true, reduceCtorEq] at hc) <;> (try (exfalso; omega))) | (refine qt7 ?_ ?_; focus decide) | (refine qw7 ?_ ?_ ?_; (focus (decide +kernel)); (focus (decide +kernel))))
  all_goals first
    | (have hS : (lowS (s.take (k + 1))).map bc = (lowS (s.take k)).map bc ++ [[.int .u8 ((low1 (s.getD k 0)).toNat : Int)]] := by
         unfold lowS
         rw [map_snoc (by omega), List.map_append]
         rfl
       rw [low1_nat] at hS
       first | rw [if_pos (by omega)] at hS | rw [if_neg (by omega)] at hS
       refine s_againR (k + 1) (fun i => if i = 0 then 2 else i) ?_ ?_ ?_ ?_ ?_ ?_ <;> (first | omega | (dsimp only; omega) | (intro i hi; (try dsimp only); (repeat' split) <;> omega) | (intro i j hi hj h; (try dsimp only at h); (repeat' split at h) <;> omega) | skip)
       · simp [fitsTR, fitsMR, PV.ren, renL, MB.ren, upd_def, PV.nmb, nmbL, MB.nmb, List.getD_cons_zero, List.getD_cons_succ, frz, drp]
       · simp [fitsTR, fitsMR, PV.ren, renL, MB.ren, upd_def, PV.nmb, nmbL, MB.nmb, List.getD_cons_zero, List.getD_cons_succ, frz, drp, hS]
       done)
    | (((first | refine fin_ret ?_ | refine fin_end ?_); simp only [go_sem, ↓upd_def, Nat.reduceEqDiff, Nat.reduceAdd, ↓reduceIte, reduceCtorEq])
       rw [List.take_of_length_le (by omega)]
       exact hK)
set_option maxHeartbeats 4000000 in
theorem ent_i : PureOk Try.prog 53 (byC fun b => .str (entOf b)) := by
  refine pure_rel 1 tab_nil mixed [.tmp 2] Try.func53 rfl rfl (by kernel_rfl) (by kernel_rfl) (fun _ => rfl) (by kernel_rfl) ?_
  rintro x K ⟨h0, h1⟩ hK
  obtain ⟨b, rfl⟩ := byte_of h0 h1
  simp only [ofI_nat] at hK
  unfold entry
  repeat' (first | ((first | apply qa1 | apply qa2 | apply qa3 | apply qh1 | apply qh2 | apply qg1 rfl | apply qcd); (try intro K hk); focus (simp only [go_sem, Nat.reduceEqDiff, Nat.reduceAdd, Nat.reduceLeDiff, Nat.reduceLT, Nat.reduceSub, Int.reduceToNat, ↓reduceIte, reduceCtorEq]; first | exact rfl | ((repeat (refine And.intro ?_ ?_; focus (first | omega | assumption | with_reducible rfl))); intros; apply hk; clear hk K))) | apply qw8 | apply qw1 | apply qw6 | apply qt1 | apply qw5 | apply qw2 | apply qw9 | apply qt2 | apply qt3 | apply qt4 | apply qt5 | apply qt6 | apply qw3 | apply qw4 | apply qj1 | apply qj2 | apply qj3 | apply qj4 | apply qj5 | apply qu1 | apply qu2 | (refine qj6 ?_ ?_ <;> intro hc <;> (try simp only [hc]) <;> (try simp only [decide_eq_true_eq, decide_eq_false_iff_not, Bool.not_eq_true', Bool.not_eq_false', Bool.not_eq_true, reduceCtorEq] at hc) <;> (try (exfalso; omega))) | (refine qt7 ?_ ?_; focus decide) | (refine qw7 ?_ ?_ ?_; (focus (decide +kernel)); (focus (decide +kernel))))
  all_goals
    ((first | refine fin_ret ?_ | refine fin_end ?_); simp only [go_sem, ↓upd_def, Nat.reduceEqDiff, Nat.reduceAdd, ↓reduceIte, reduceCtorEq])
    exact K_str hK (by unfold entOf; (repeat' split) <;> first | rfl | omega)
set_option maxHeartbeats 4000000 in
theorem ent_s : PureOk Try.prog 57 (byC fun b => .str (ent1 b)) := by
  refine pure_rel 1 tab_nil mixed [.tmp 2] Try.func57 rfl rfl (by kernel_rfl) (by kernel_rfl) (fun _ => rfl) (by kernel_rfl) ?_
  rintro x K ⟨h0, h1⟩ hK
  obtain ⟨b, rfl⟩ := byte_of h0 h1
  simp only [ofI_nat] at hK
  unfold entry
  repeat' (first | ((first | apply qa1 | apply qa2 | apply qa3 | apply qh1 | apply qh2 | apply qg1 rfl | apply qcd); (try intro K hk); focus (simp only [go_sem, Nat.reduceEqDiff, Nat.reduceAdd, Nat.reduceLeDiff, Nat.reduceLT, Nat.reduceSub, Int.reduceToNat, ↓reduceIte, reduceCtorEq]; first | exact rfl | ((repeat (refine And.intro ?_ ?_; focus (first | omega | assumption | with_reducible rfl))); intros; apply hk; clear hk K))) | apply qw8 | apply qw1 | apply qw6 | apply qt1 | apply qw5 | apply qw2 | apply qw9 | apply qt2 | apply qt3 | apply qt4 | apply qt5 | apply qt6 | apply qw3 | apply qw4 | apply qj1 | apply qj2 | apply qj3 | apply qj4 | apply qj5 | apply qu1 | apply qu2 | (refine qj6 ?_ ?_ <;> intro hc <;> (try simp only [hc]) <;> (try simp only [decide_eq_true_eq, decide_eq_false_iff_not, Bool.not_eq_true', Bool.not_eq_false', Bool.not_eq_true, reduceCtorEq] at hc) <;> (try (exfalso; omega))) | (refine qt7 ?_ ?_; focus decide) | (refine qw7 ?_ ?_ ?_; (focus (decide +kernel)); (focus (decide +kernel))))
  all_goals
    ((first | refine fin_ret ?_ | refine fin_end ?_); simp only [go_sem, ↓upd_def, Nat.reduceEqDiff, Nat.reduceAdd, ↓reduceIte, reduceCtorEq])
    first
      | exact K_str hK (by unfold ent1 entOf; (repeat' split) <;> first | rfl | omega | simp_all)
      | skip
end Go.Proofs.Ytnbjogilidfkdaa

/- Contracts: entities. -/
namespace Go.Proofs.Ytnbjogilidfkdaa
attribute [local irreducible] awp arun acalm FinP Fin AX.then AX.inBlock Again aG gsel amix amixN amixC aop aopc aopd cutK
attribute [local go_sem] aBSliceD aSlice aSliceC boundOf aMk aCall aCallC aLenL aLen aPick_t aPick_f aNil aAlloc aBox aBuild bldPV aBSlice bsPV aApp newsOf destOf drp aConvX aConv aConvInt aLoad cellsAt aStore cellsPV setAt aFld aField aIdx aIndex aUn aBin' aBin aMax aExtract pvOf PV.isCell nmbL PV.nmb List.map_cons List.map_nil List.all_cons List.all_nil Bool.and_true Bool.true_and if_true if_false List.getD_cons_zero List.getD_cons_succ List.getD_nil Option.isSome_some true_and and_true and_self eq_self true_or or_true List.drop_zero List.drop_succ_cons List.drop_nil List.take_zero List.take_succ_cons List.take_nil List.length_cons List.length_nil List.length_map Option.getD_some Option.getD_none List.nil_append List.cons_append List.append_nil Option.some.injEq exists_eq_left' List.getElem?_cons_zero List.getElem?_cons_succ Int.toNat_natCast Int.natCast_inj toNat_succ Nat.zero_add res res1 resC owns owns1 ownsC List.flatMap_cons List.flatMap_nil List.flatten_cons List.flatten_nil List.mem_cons List.not_mem_nil or_false false_or forall_eq forall_eq_or_imp isFro frz frz1 pureC tabA isBld List.cons.injEq PV.seq.injEq PV.int.injEq PV.str.injEq PV.bool.injEq PV.agg.injEq inR tab Γof aRes packR Option.map_some Option.map_none rel Prod.exists exists_and_left exists_eq_left and_assoc beq_self_eq_true Bool.not_true Bool.not_false decide_true decide_false List.set_cons_zero List.set_cons_succ rst_nil rst_cons
attribute [local go_sem ↓] evT upd_def aop aopc aopd
set_option maxRecDepth 100000
set_option linter.unusedVariables false
set_option linter.unusedSimpArgs false
open Go.RowKit
@[go_sem] def preC : PC := rel (α := Bs × Bs) (fun x => [.str x.1, .str x.2]) (fun x => x.1.length ≤ 9223372036854775807 ∧ x.2.length ≤ 9223372036854775807) (fun x => .bool (x.2.isPrefixOf x.1))
theorem spre_any : PureOk Try.prog 140 preC := by
  refine pure_rel 2 tab_nil mixed [.tmp 4] Try.func140 rfl rfl (by kernel_rfl) (by kernel_rfl) (fun _ => rfl) (by kernel_rfl) ?_
  rintro ⟨s, p⟩ K ⟨h1, h2⟩ hK
  dsimp only at *
  unfold entry
  repeat' (first | ((first | apply qa1 | apply qa2 | apply qa3 | apply qh1 | apply qh2 | apply qg1 rfl | apply qcd); (try intro K hk); focus (simp only [go_sem, Nat.reduceEqDiff, Nat.reduceAdd, Nat.reduceLeDiff, Nat.reduceLT, Nat.reduceSub, Int.reduceToNat, ↓reduceIte, reduceCtorEq]; first | exact rfl | ((repeat (refine And.intro ?_ ?_; focus (first | omega | assumption | with_reducible rfl))); intros; apply hk; clear hk K))) | apply qw8 | apply qw1 | apply qw6 | apply qt1 | apply qw5 | apply qw2 | apply qw9 | apply qt2 | apply qt3 | apply qt4 | apply qt5 | apply qt6 | apply qw3 | apply qw4 | apply qj1 | apply qj2 | apply qj3 | apply qj4 | apply qj5 | apply qu1 | apply qu2 | (refine qj6 ?_ ?_ <;> intro hc <;> (try simp only [hc]) <;> (try simp only [decide_eq_true_eq, decide_eq_false_iff_not, Bool.not_eq_true', Bool.not_eq_false', Bool.not_eq_true, reduceCtorEq] at hc) <;> (try (exfalso; omega))) | (refine qt7 ?_ ?_; focus decide) | (refine qw7 ?_ ?_ ?_; (focus (decide +kernel)); (focus (decide +kernel))))
  all_goals
    ((first | refine fin_ret ?_ | refine fin_end ?_); simp only [go_sem, ↓upd_def, Nat.reduceEqDiff, Nat.reduceAdd, ↓reduceIte, reduceCtorEq])
    refine K_bool hK ?_
    rw [prefix_iff]
    first
      | exact decide_eq_false (by rintro ⟨a, b⟩; omega)
      | (congr 1; simp only [eq_iff_iff]; constructor
         · rintro ⟨_, h⟩; exact h
         · intro h; exact ⟨by omega, h⟩)
theorem pre_any : PureOk Try.prog 96 preC := by
  refine pure_rel 2 (tab_cons spre_any tab_nil) mixed [.tmp 4] Try.func96 rfl rfl (by kernel_rfl) (by kernel_rfl) (fun _ => rfl) (by kernel_rfl) ?_
  rintro ⟨s, p⟩ K ⟨h1, h2⟩ hK
  dsimp only at *
  unfold entry
  repeat' (first | ((first | apply qa1 | apply qa2 | apply qa3 | apply qh1 | apply qh2 | apply qg1 rfl | apply qcd); (try intro K hk); focus (simp only [go_sem, Nat.reduceEqDiff, Nat.reduceAdd, Nat.reduceLeDiff, Nat.reduceLT, Nat.reduceSub, Int.reduceToNat, ↓reduceIte, reduceCtorEq]; first | exact rfl | ((repeat (refine And.intro ?_ ?_; focus (first | omega | assumption | with_reducible rfl))); intros; apply hk; clear hk K))) | apply qw8 | apply qw1 | apply qw6 | apply qt1 | apply qw5 | apply qw2 | apply qw9 | apply qt2 | apply qt3 | apply qt4 | apply qt5 | apply qt6 | apply qw3 | apply qw4 | apply qj1 | apply qj2 | apply qj3 | apply qj4 | apply qj5 | apply qu1 | apply qu2 | (refine qj6 ?_ ?_ <;> intro hc <;> (try simp only [hc]) <;> (try simp only [decide_eq_true_eq, decide_eq_false_iff_not, Bool.not_eq_true', Bool.not_eq_false', Bool.not_eq_true, reduceCtorEq] at hc) <;> (try (exfalso; omega))) | (refine qt7 ?_ ?_; focus decide) | (refine qw7 ?_ ?_ ?_; (focus (decide +kernel)); (focus (decide +kernel))))
  ((first | refine fin_ret ?_ | refine fin_end ?_); simp only [go_sem, ↓upd_def, Nat.reduceEqDiff, Nat.reduceAdd, ↓reduceIte, reduceCtorEq])
  exact hK
set_option maxHeartbeats 4000000 in
theorem esc_i : PureOk Try.prog 21 (tC fun s => .str (escT s)) := by
  refine pure_relA 1 (tabA_cons wstr_ok (tabA_cons wbyte_ok (tabA_cons bstr_ok (tabA_nil (Γof_ok (tab_cons ent_i tab_nil)))))) (tab_cons ent_i tab_nil) mixed [.tmp 2] Try.func21 rfl rfl (by kernel_rfl) (by kernel_rfl) (fun _ => rfl) (by kernel_rfl) ?_
  rintro s K hl hK
  unfold entry
  repeat' (first | ((first | apply qa1 | apply qa2 | apply qa3 | apply qh1 | apply qh2 | apply qg1 rfl | apply qcd); (try intro K hk); focus (simp only [go_sem, Nat.reduceEqDiff, Nat.reduceAdd, Nat.reduceLeDiff, Nat.reduceLT, Nat.reduceSub, Int.reduceToNat, ↓reduceIte, reduceCtorEq]; first | exact rfl | ((repeat (refine And.intro ?_ ?_; focus (first | omega | assumption | with_reducible rfl))); intros; apply hk; clear hk K))) | apply qw8 | apply qw1 | apply qw6 | apply qt1 | apply qw5 | apply qw2 | apply qw9 | apply qt2 | apply qt3 | apply qt4 | apply qt5 | apply qt6 | apply qw3 | apply qw4 | apply qj1 | apply qj2 | apply qj3 | apply qj4 | apply qj5 | apply qu1 | apply qu2 | (refine qj6 ?_ ?_ <;> intro hc <;> (try simp only [hc]) <;> (try simp only [decide_eq_true_eq, decide_eq_false_iff_not, Bool.not_eq_true', Bool.not_eq_false', Bool.not_eq_true, reduceCtorEq] at hc) <;> (try (exfalso; omega))) | (refine qt7 ?_ ?_; focus decide) | (refine qw7 ?_ ?_ ?_; (focus (decide +kernel)); (focus (decide +kernel))))
  refine s_loop (ι := Nat) (fun k => [(0, .str s), (3, .ref 0 0), (4, .int .i64 k)]) (fun k => [(0, .gen bld [.str (escT (s.take k))])]) 1 (fun k => k ≤ s.length) (fun k => s.length - k) 0 (by omega) (by omega) ?_ ?_
  · simp [fits, fitsT, fitsM, upd_def, PV.nmb, nmbL, MB.nmb, List.getD_cons_zero, List.getD_cons_succ, escT]
  intro k hk
  have hbl := byte_lt s k
  have hL1 := escT_len (s.take k)
  rw [List.length_take_of_le hk] at hL1
  have hL2 := entOf_len (s.getD k 0)
  simp only [mkS, mkT, mkM]
  repeat' (first | ((first | apply qa1 | apply qa2 | apply qa3 | apply qh1 | apply qh2 | apply qg1 rfl | apply qcd); (try intro K hk); focus (simp only [go_sem, Nat.reduceEqDiff, Nat.reduceAdd, Nat.reduceLeDiff, Nat.reduceLT, Nat.reduceSub, Int.reduceToNat, ↓reduceIte, reduceCtorEq]; first | exact rfl | ((repeat (refine And.intro ?_ ?_; focus (first | omega | assumption | with_reducible rfl))); intros; apply hk; clear hk K))) | apply qw8 | apply qw1 | apply qw6 | apply qt1 | apply qw5 | apply qw2 | apply qw9 | apply qt2 | apply qt3 | apply qt4 | apply qt5 | apply qt6 | apply qw3 | apply qw4 | apply qj1 | apply qj2 | apply qj3 | apply qj4 | apply qj5 | apply qu1 | apply qu2 | (refine qj6 ?_ ?_ <;> intro hc <;> (try simp only [hc]) <;> (try simp only [decide_eq_true_eq, decide_eq_false_iff_not, Bool.not_eq_true', Bool.not_eq_false', Bool.not_eq_true, reduceCtorEq] at hc) <;> (try (exfalso; omega))) | (refine qt7 ?_ ?_; focus decide) | (refine qw7 ?_ ?_ ?_; (focus (decide +kernel)); (focus (decide +kernel))))
  all_goals first
    | (refine s_again (k + 1) ?_ ?_ ?_ <;> (first | omega | (dsimp only; omega) | skip)
       have hS : escT (s.take (k + 1)) = escT (s.take k) ++ ent1 (s.getD k 0) := flatMap_snoc (by omega)
       first
         | (rw [show ent1 (s.getD k 0) = entOf (s.getD k 0) by unfold ent1; clear hK; simp_all; done] at hS
            simp [fits, fitsT, fitsM, upd_def, PV.nmb, nmbL, MB.nmb, List.getD_cons_zero, List.getD_cons_succ, hS]
            done)
         | (rw [show ent1 (s.getD k 0) = [s.getD k 0] by unfold ent1; clear hK; simp_all; done] at hS
            simp [fits, fitsT, fitsM, upd_def, PV.nmb, nmbL, MB.nmb, List.getD_cons_zero, List.getD_cons_succ, hS]
            done))
    | (((first | refine fin_ret ?_ | refine fin_end ?_); simp only [go_sem, ↓upd_def, Nat.reduceEqDiff, Nat.reduceAdd, ↓reduceIte, reduceCtorEq])
       rw [List.take_of_length_le (by omega)]
       exact hK)
set_option maxHeartbeats 4000000 in
theorem esc_s : PureOk Try.prog 22 (tC fun s => .str (escT s)) := by
  refine pure_rel 1 (tab_cons ent_s tab_nil) mixed [.tmp 2] Try.func22 rfl rfl (by kernel_rfl) (by kernel_rfl) (fun _ => rfl) (by kernel_rfl) ?_
  rintro s K hl hK
  unfold entry
  repeat' (first | ((first | apply qa1 | apply qa2 | apply qa3 | apply qh1 | apply qh2 | apply qg1 rfl | apply qcd); (try intro K hk); focus (simp only [go_sem, Nat.reduceEqDiff, Nat.reduceAdd, Nat.reduceLeDiff, Nat.reduceLT, Nat.reduceSub, Int.reduceToNat, ↓reduceIte, reduceCtorEq]; first | exact rfl | ((repeat (refine And.intro ?_ ?_; focus (first | omega | assumption | with_reducible rfl))); intros; apply hk; clear hk K))) | apply qw8 | apply qw1 | apply qw6 | apply qt1 | apply qw5 | apply qw2 | apply qw9 | apply qt2 | apply qt3 | apply qt4 | apply qt5 | apply qt6 | apply qw3 | apply qw4 | apply qj1 | apply qj2 | apply qj3 | apply qj4 | apply qj5 | apply qu1 | apply qu2 | (refine qj6 ?_ ?_ <;> intro hc <;> (try simp only [hc]) <;> (try simp only [decide_eq_true_eq, decide_eq_false_iff_not, Bool.not_eq_true', Bool.not_eq_false', Bool.not_eq_true, reduceCtorEq] at hc) <;> (try (exfalso; omega))) | (refine qt7 ?_ ?_; focus decide) | (refine qw7 ?_ ?_ ?_; (focus (decide +kernel)); (focus (decide +kernel))))
  refine s_loop (ι := Nat) (fun k => [(0, .str s), (3, .str (escT (s.take k))), (4, .int .i64 k)]) (fun _ => []) 0 (fun k => k ≤ s.length) (fun k => s.length - k) 0 (by omega) (by omega) ?_ ?_
  · simp [fits, fitsT, fitsM, upd_def, PV.nmb, nmbL, MB.nmb, List.getD_cons_zero, List.getD_cons_succ, escT]
  intro k hk
  have hbl := byte_lt s k
  have hL1 := escT_len (s.take k)
  rw [List.length_take_of_le hk] at hL1
  have hL2 := (ent1_len (s.getD k 0)).2
  simp only [mkS, mkT, mkM]
  repeat' (first | ((first | apply qa1 | apply qa2 | apply qa3 | apply qh1 | apply qh2 | apply qg1 rfl | apply qcd); (try intro K hk); focus (simp only [go_sem, Nat.reduceEqDiff, Nat.reduceAdd, Nat.reduceLeDiff, Nat.reduceLT, Nat.reduceSub, Int.reduceToNat, ↓reduceIte, reduceCtorEq]; first | exact rfl | ((repeat (refine And.intro ?_ ?_; focus (first | omega | assumption | with_reducible rfl))); intros; apply hk; clear hk K))) | apply qw8 | apply qw1 | apply qw6 | apply qt1 | apply qw5 | apply qw2 | apply qw9 | apply qt2 | apply qt3 | apply qt4 | apply qt5 | apply qt6 | apply qw3 | apply qw4 | apply qj1 | apply qj2 | apply qj3 | apply qj4 | apply qj5 | apply qu1 | apply qu2 | (refine qj6 ?_ ?_ <;> intro hc <;> (try simp only [hc]) <;> (try simp only [decide_eq_true_eq, decide_eq_false_iff_not, Bool.not_eq_true', Bool.not_eq_false', Bool.not_eq_true, reduceCtorEq] at hc) <;> (try (exfalso; omega))) | (refine qt7 ?_ ?_; focus decide) | (refine qw7 ?_ ?_ ?_; (focus (decide +kernel)); (focus (decide +kernel))))
  all_goals first
    | (refine s_again (k + 1) ?_ ?_ ?_ <;> (first | omega | (dsimp only; omega) | skip)
       have hS : escT (s.take (k + 1)) = escT (s.take k) ++ ent1 (s.getD k 0) := flatMap_snoc (by omega)
       simp [fits, fitsT, fitsM, upd_def, PV.nmb, nmbL, MB.nmb, List.getD_cons_zero, List.getD_cons_succ, hS]
       done)
    | (((first | refine fin_ret ?_ | refine fin_end ?_); simp only [go_sem, ↓upd_def, Nat.reduceEqDiff, Nat.reduceAdd, ↓reduceIte, reduceCtorEq])
       rw [List.take_of_length_le (by omega)]
       exact hK)
set_option maxHeartbeats 4000000 in
theorem at_i : PureOk Try.prog 116 (tC fun s => .tup [.int .u8 ((entAt s).1.toNat : Int), .int .i64 ((entAt s).2 : Int)]) := by
  refine pure_rel 1 (tab_cons ent_i (tab_cons pre_any tab_nil)) mixed [.tmp 2, .tmp 3] Try.func116 rfl rfl (by kernel_rfl) (by kernel_rfl) (fun _ => rfl) (by kernel_rfl) ?_
  rintro s K hl hK
  unfold entry
  repeat' (first | ((first | apply qa1 | apply qa2 | apply qa3 | apply qh1 | apply qh2 | apply qg1 rfl | apply qcd); (try intro K hk); focus (simp only [go_sem, Nat.reduceEqDiff, Nat.reduceAdd, Nat.reduceLeDiff, Nat.reduceLT, Nat.reduceSub, Int.reduceToNat, ↓reduceIte, reduceCtorEq]; first | exact rfl | ((repeat (refine And.intro ?_ ?_; focus (first | omega | assumption | with_reducible rfl))); intros; apply hk; clear hk K))) | apply qw8 | apply qw1 | apply qw6 | apply qt1 | apply qw5 | apply qw2 | apply qw9 | apply qt2 | apply qt3 | apply qt4 | apply qt5 | apply qt6 | apply qw3 | apply qw4 | apply qj1 | apply qj2 | apply qj3 | apply qj4 | apply qj5 | apply qu1 | apply qu2 | (refine qj6 ?_ ?_ <;> intro hc <;> (try simp only [hc]) <;> (try simp only [decide_eq_true_eq, decide_eq_false_iff_not, Bool.not_eq_true', Bool.not_eq_false', Bool.not_eq_true, reduceCtorEq] at hc) <;> (try (exfalso; omega))) | (refine qt7 ?_ ?_; focus decide) | (refine qw7 ?_ ?_ ?_; (focus (decide +kernel)); (focus (decide +kernel))))
  refine s_loop (ι := Nat) (fun k => [(0, .str s), (8, .own 0), (9, .int .i64 5), (10, .int .i64 k)]) (fun k => [(0, .fro (specials.map bc))]) 1 (fun k => k ≤ 5 ∧ noEnt s k) (fun k => 5 - k) 0 (by omega) ⟨by omega, by simp [noEnt]⟩ ?_ ?_
  · simp [fits, fitsT, fitsM, upd_def, PV.nmb, nmbL, MB.nmb, List.getD_cons_zero, List.getD_cons_succ, specials, bc]
  rintro k ⟨hk, hp⟩
  have he38 : entOf (ofI 38) = [38, 97, 109, 112, 59] := by decide
  have he60 : entOf (ofI 60) = [38, 108, 116, 59] := by decide
  have he62 : entOf (ofI 62) = [38, 103, 116, 59] := by decide
  have he34 : entOf (ofI 34) = [38, 113, 117, 111, 116, 59] := by decide
  have he39 : entOf (ofI 39) = [38, 35, 51, 57, 59] := by decide
  have hs5 : specials.map bc = [[.int .u8 38], [.int .u8 60], [.int .u8 62], [.int .u8 34], [.int .u8 39]] := rfl
  simp only [mkS, mkT, mkM]
  obtain rfl | rfl | rfl | rfl | rfl | rfl : k = 0 ∨ k = 1 ∨ k = 2 ∨ k = 3 ∨ k = 4 ∨ k = 5 := by omega
  all_goals repeat' (first | ((first | apply qa1 | apply qa2 | apply qa3 | apply qh1 | apply qh2 | apply qg1 rfl | apply qcd); (try intro K hk); focus (simp only [go_sem, Nat.reduceEqDiff, Nat.reduceAdd, Nat.reduceLeDiff, Nat.reduceLT, Nat.reduceSub, Int.reduceToNat, ↓reduceIte, reduceCtorEq, hs5, he38, he60, he62, he34, he39]; first | exact rfl | ((repeat (refine And.intro ?_ ?_; focus (first | omega | assumption | with_reducible rfl))); intros; apply hk; clear hk K))) | apply qw8 | apply qw1 | apply qw6 | apply qt1 | apply qw5 | apply qw2 | apply qw9 | apply qt2 | apply qt3 | apply qt4 | apply qt5 | apply qt6 | apply qw3 | apply qw4 | apply qj1 | apply qj2 | apply qj3 | apply qj4 | apply qj5 | apply qu1 | apply qu2 | (refine qj6 ?_ ?_ <;> intro hc <;> (try simp only [hc]) <;> (try simp only [decide_eq_true_eq, decide_eq_false_iff_not, Bool.not_eq_true', Bool.not_eq_false', Bool.not_eq_true, reduceCtorEq] at hc) <;> (try (exfalso; omega))) | (refine qt7 ?_ ?_; focus decide) | (refine qw7 ?_ ?_ ?_; (focus (decide +kernel)); (focus (decide +kernel))))
  all_goals unfold noEnt at hp
  all_goals first
    | (((first | refine fin_ret ?_ | refine fin_end ?_); simp only [go_sem, ↓upd_def, Nat.reduceEqDiff, Nat.reduceAdd, ↓reduceIte, reduceCtorEq])
       refine K_eq hK ?_
       clear hK
       simp [entAt, *]
       done)
    | (refine s_again 1 ⟨by omega, ?_⟩ (by first | omega | (dsimp only; omega)) ?_
       · unfold noEnt
         refine ⟨fun _ => ?_, fun _ => ?_, fun _ => ?_, fun _ => ?_, fun _ => ?_⟩ <;> first | (exfalso; omega) | assumption | exact hp.1 (by omega) | exact hp.2.1 (by omega) | exact hp.2.2.1 (by omega) | exact hp.2.2.2.1 (by omega)
       · simp [fits, fitsT, fitsM, upd_def, PV.nmb, nmbL, MB.nmb, List.getD_cons_zero, List.getD_cons_succ, hs5]
       done)
    | (refine s_again 2 ⟨by omega, ?_⟩ (by first | omega | (dsimp only; omega)) ?_
       · unfold noEnt
         refine ⟨fun _ => ?_, fun _ => ?_, fun _ => ?_, fun _ => ?_, fun _ => ?_⟩ <;> first | (exfalso; omega) | assumption | exact hp.1 (by omega) | exact hp.2.1 (by omega) | exact hp.2.2.1 (by omega) | exact hp.2.2.2.1 (by omega)
       · simp [fits, fitsT, fitsM, upd_def, PV.nmb, nmbL, MB.nmb, List.getD_cons_zero, List.getD_cons_succ, hs5]
       done)
    | (refine s_again 3 ⟨by omega, ?_⟩ (by first | omega | (dsimp only; omega)) ?_
       · unfold noEnt
         refine ⟨fun _ => ?_, fun _ => ?_, fun _ => ?_, fun _ => ?_, fun _ => ?_⟩ <;> first | (exfalso; omega) | assumption | exact hp.1 (by omega) | exact hp.2.1 (by omega) | exact hp.2.2.1 (by omega) | exact hp.2.2.2.1 (by omega)
       · simp [fits, fitsT, fitsM, upd_def, PV.nmb, nmbL, MB.nmb, List.getD_cons_zero, List.getD_cons_succ, hs5]
       done)
    | (refine s_again 4 ⟨by omega, ?_⟩ (by first | omega | (dsimp only; omega)) ?_
       · unfold noEnt
         refine ⟨fun _ => ?_, fun _ => ?_, fun _ => ?_, fun _ => ?_, fun _ => ?_⟩ <;> first | (exfalso; omega) | assumption | exact hp.1 (by omega) | exact hp.2.1 (by omega) | exact hp.2.2.1 (by omega) | exact hp.2.2.2.1 (by omega)
       · simp [fits, fitsT, fitsM, upd_def, PV.nmb, nmbL, MB.nmb, List.getD_cons_zero, List.getD_cons_succ, hs5]
       done)
    | (refine s_again 5 ⟨by omega, ?_⟩ (by first | omega | (dsimp only; omega)) ?_
       · unfold noEnt
         refine ⟨fun _ => ?_, fun _ => ?_, fun _ => ?_, fun _ => ?_, fun _ => ?_⟩ <;> first | (exfalso; omega) | assumption | exact hp.1 (by omega) | exact hp.2.1 (by omega) | exact hp.2.2.1 (by omega) | exact hp.2.2.2.1 (by omega)
       · simp [fits, fitsT, fitsM, upd_def, PV.nmb, nmbL, MB.nmb, List.getD_cons_zero, List.getD_cons_succ, hs5]
       done)
end Go.Proofs.Ytnbjogilidfkdaa

/- Contracts: entities read back, percent signs, script texts. -/
namespace Go.Proofs.Ytnbjogilidfkdaa
attribute [local irreducible] awp arun acalm FinP Fin AX.then AX.inBlock Again aG gsel amix amixN amixC aop aopc aopd cutK
attribute [local go_sem] aBSliceD aSlice aSliceC boundOf aMk aCall aCallC aLenL aLen aPick_t aPick_f aNil aAlloc aBox aBuild bldPV aBSlice bsPV aApp newsOf destOf drp aConvX aConv aConvInt aLoad cellsAt aStore cellsPV setAt aFld aField aIdx aIndex aUn aBin' aBin aMax aExtract pvOf PV.isCell nmbL PV.nmb List.map_cons List.map_nil List.all_cons List.all_nil Bool.and_true Bool.true_and if_true if_false List.getD_cons_zero List.getD_cons_succ List.getD_nil Option.isSome_some true_and and_true and_self eq_self true_or or_true List.drop_zero List.drop_succ_cons List.drop_nil List.take_zero List.take_succ_cons List.take_nil List.length_cons List.length_nil List.length_map Option.getD_some Option.getD_none List.nil_append List.cons_append List.append_nil Option.some.injEq exists_eq_left' List.getElem?_cons_zero List.getElem?_cons_succ Int.toNat_natCast Int.natCast_inj toNat_succ Nat.zero_add res res1 resC owns owns1 ownsC List.flatMap_cons List.flatMap_nil List.flatten_cons List.flatten_nil List.mem_cons List.not_mem_nil or_false false_or forall_eq forall_eq_or_imp isFro frz frz1 pureC tabA isBld List.cons.injEq PV.seq.injEq PV.int.injEq PV.str.injEq PV.bool.injEq PV.agg.injEq inR tab Γof aRes packR Option.map_some Option.map_none rel Prod.exists exists_and_left exists_eq_left and_assoc beq_self_eq_true Bool.not_true Bool.not_false decide_true decide_false List.set_cons_zero List.set_cons_succ rst_nil rst_cons
attribute [local go_sem ↓] evT upd_def aop aopc aopd
set_option maxRecDepth 100000
set_option linter.unusedVariables false
set_option linter.unusedSimpArgs false
open Go.RowKit
theorem unT_drop {s : Bs} {k : Nat} (h : k < s.length) : unT (s.drop k) = if (entAt (s.drop k)).2 = 0 then s.getD k 0 :: unT (s.drop (k + 1)) else (entAt (s.drop k)).1 :: unT (s.drop (k + (entAt (s.drop k)).2)) := by
  have e := drop_getD h
  rw [e, unT_cons, ← e, List.drop_drop]
theorem unT_end {s : Bs} {k : Nat} (h : ¬ k < s.length) : unT (s.drop k) = [] := by
  rw [List.drop_of_length_le (by omega)]; rfl
theorem entAt_drop (s : Bs) (k : Nat) : (entAt (s.drop k)).2 ≤ s.length - k ∧ (entAt (s.drop k)).2 ≤ 6 := by
  have := entAt_len (s.drop k)
  rwa [List.length_drop] at this
set_option maxHeartbeats 4000000 in
theorem un_i : PureOk Try.prog 72 (tC fun s => .str (unT s)) := by
  refine pure_relA 1 (tabA_cons wbyte_ok (tabA_cons bstr_ok (tabA_nil (Γof_ok (tab_cons at_i tab_nil))))) (tab_cons at_i tab_nil) mixed [.tmp 2] Try.func72 rfl rfl (by kernel_rfl) (by kernel_rfl) (fun _ => rfl) (by kernel_rfl) ?_
  rintro s K hl hK
  unfold entry
  repeat' (first | ((first | apply qa1 | apply qa2 | apply qa3 | apply qh1 | apply qh2 | apply qg1 rfl | apply qcd); (try intro K hk); focus (simp only [go_sem, Nat.reduceEqDiff, Nat.reduceAdd, Nat.reduceLeDiff, Nat.reduceLT, Nat.reduceSub, Int.reduceToNat, ↓reduceIte, reduceCtorEq]; first | exact rfl | ((repeat (refine And.intro ?_ ?_; focus (first | omega | assumption | with_reducible rfl))); intros; apply hk; clear hk K))) | apply qw8 | apply qw1 | apply qw6 | apply qt1 | apply qw5 | apply qw2 | apply qw9 | apply qt2 | apply qt3 | apply qt4 | apply qt5 | apply qt6 | apply qw3 | apply qw4 | apply qj1 | apply qj2 | apply qj3 | apply qj4 | apply qj5 | apply qu1 | apply qu2 | (refine qj6 ?_ ?_ <;> intro hc <;> (try simp only [hc]) <;> (try simp only [decide_eq_true_eq, decide_eq_false_iff_not, Bool.not_eq_true', Bool.not_eq_false', Bool.not_eq_true, reduceCtorEq] at hc) <;> (try (exfalso; omega))) | (refine qt7 ?_ ?_; focus decide) | (refine qw7 ?_ ?_ ?_; (focus (decide +kernel)); (focus (decide +kernel))))
  refine s_loop (ι := Nat × Bs) (fun i => [(0, .str s), (3, .ref 0 0), (4, .int .i64 i.1)]) (fun i => [(0, .gen bld [.str i.2])]) 1 (fun i => i.1 ≤ s.length ∧ i.2.length ≤ i.1 ∧ unT s = i.2 ++ unT (s.drop i.1)) (fun i => s.length - i.1) (0, []) (by omega) ⟨by simp, by simp, by simp⟩ ?_ ?_
  · simp [fits, fitsT, fitsM, upd_def, PV.nmb, nmbL, MB.nmb, List.getD_cons_zero, List.getD_cons_succ]
  rintro ⟨k, out⟩ ⟨hk, ho, hu⟩
  dsimp only at *
  have hbl := byte_lt s k
  have hel := entAt_drop s k
  have hel1 := byte_lt' (entAt (s.drop k)).1
  simp only [mkS, mkT, mkM]
  repeat' (first | ((first | apply qa1 | apply qa2 | apply qa3 | apply qh1 | apply qh2 | apply qg1 rfl | apply qcd); (try intro K hk); focus (simp only [go_sem, Nat.reduceEqDiff, Nat.reduceAdd, Nat.reduceLeDiff, Nat.reduceLT, Nat.reduceSub, Int.reduceToNat, ↓reduceIte, reduceCtorEq, List.length_drop, List.length_take, List.take_length]; first | exact rfl | ((repeat (refine And.intro ?_ ?_; focus (first | omega | assumption | with_reducible rfl))); intros; apply hk; clear hk K))) | apply qw8 | apply qw1 | apply qw6 | apply qt1 | apply qw5 | apply qw2 | apply qw9 | apply qt2 | apply qt3 | apply qt4 | apply qt5 | apply qt6 | apply qw3 | apply qw4 | apply qj1 | apply qj2 | apply qj3 | apply qj4 | apply qj5 | apply qu1 | apply qu2 | (refine qj6 ?_ ?_ <;> intro hc <;> (try simp only [hc]) <;> (try simp only [decide_eq_true_eq, decide_eq_false_iff_not, Bool.not_eq_true', Bool.not_eq_false', Bool.not_eq_true, reduceCtorEq] at hc) <;> (try (exfalso; omega))) | (refine qt7 ?_ ?_; focus decide) | (refine qw7 ?_ ?_ ?_; (focus (decide +kernel)); (focus (decide +kernel))))
  · refine s_again ((k + (entAt (s.drop k)).2, out ++ [(entAt (s.drop k)).1])) ?_ ?_ ?_ <;> (first | omega | (dsimp only; omega) | skip)
    · exact ⟨by dsimp only; omega, by simp; omega, by rw [hu, unT_drop (by omega), if_neg (by omega)]; simp⟩
    · simp [fits, fitsT, fitsM, upd_def, PV.nmb, nmbL, MB.nmb, List.getD_cons_zero, List.getD_cons_succ]
  · refine s_again ((k + 1, out ++ [s.getD k 0])) ?_ ?_ ?_ <;> (first | omega | (dsimp only; omega) | skip)
    · exact ⟨by dsimp only; omega, by simp; omega, by rw [hu, unT_drop (by omega), if_pos (by omega)]; simp⟩
    · simp [fits, fitsT, fitsM, upd_def, PV.nmb, nmbL, MB.nmb, List.getD_cons_zero, List.getD_cons_succ]
  · ((first | refine fin_ret ?_ | refine fin_end ?_); simp only [go_sem, ↓upd_def, Nat.reduceEqDiff, Nat.reduceAdd, ↓reduceIte, reduceCtorEq])
    rw [unT_end (by omega), List.append_nil] at hu
    rw [← hu]
    exact hK
end Go.Proofs.Ytnbjogilidfkdaa
