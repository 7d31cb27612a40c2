/- Contracts: parts of addresses and script texts, written and read back. -/
import Derived.Test.YtnbjogilidfkdaaWX1
import Derived.Test.YtnbjogilidfkdaaWFE
import Derived.Test.YtnbjogilidfkdaaWTY

namespace Go.Proofs.Ytnbjogilidfkdaa
attribute [local irreducible] awp arun acalm FinP Fin AX.then AX.inBlock Again aG gsel amix amixN amixC aop aopc aopd cutK
attribute [local go_sem] aBSliceD aSlice aSliceC boundOf aMk aCall aCallC aLenL aLen aPick_t aPick_f aNil aAlloc aBox aBuild bldPV aBSlice bsPV aApp newsOf destOf drp aConvX aConv aConvInt aLoad cellsAt aStore cellsPV setAt aFld aField aIdx aIndex aUn aBin' aBin aMax aExtract pvOf PV.isCell nmbL PV.nmb List.map_cons List.map_nil List.all_cons List.all_nil Bool.and_true Bool.true_and if_true if_false List.getD_cons_zero List.getD_cons_succ List.getD_nil Option.isSome_some true_and and_true and_self eq_self true_or or_true List.drop_zero List.drop_succ_cons List.drop_nil List.take_zero List.take_succ_cons List.take_nil List.length_cons List.length_nil List.length_map Option.getD_some Option.getD_none List.nil_append List.cons_append List.append_nil Option.some.injEq exists_eq_left' List.getElem?_cons_zero List.getElem?_cons_succ Int.toNat_natCast Int.natCast_inj toNat_succ Nat.zero_add res res1 resC owns owns1 ownsC List.flatMap_cons List.flatMap_nil List.flatten_cons List.flatten_nil List.mem_cons List.not_mem_nil or_false false_or forall_eq forall_eq_or_imp isFro frz frz1 pureC tabA isBld List.cons.injEq PV.seq.injEq PV.int.injEq PV.str.injEq PV.bool.injEq PV.agg.injEq inR tab Γof aRes packR Option.map_some Option.map_none rel Prod.exists exists_and_left exists_eq_left and_assoc beq_self_eq_true Bool.not_true Bool.not_false decide_true decide_false List.set_cons_zero List.set_cons_succ rst_nil rst_cons
attribute [local go_sem ↓] evT upd_def aop aopc aopd
set_option maxRecDepth 100000
set_option linter.unusedVariables false
set_option linter.unusedSimpArgs false
open Go.RowKit
theorem ixs_any (s : ByteArray) (c : Int) (w : World) :
    Calls Try.prog 143 #[.string s, .int .u8 c] w fun e w' => e = .returned (.int .i64 (Lib.indexByte s.data.toList c.toNat.toUInt8)) ∧ w' = w := by
  go_enter Try.func143, Try.ntmps143
  go_wp2
  rw [run_callFunc_extern Try.func152 (by kernel_rfl) (by kernel_rfl) (by kernel_rfl) (e := Extern.BytealgIndexByte.indexByte) (by kernel_rfl), Lib.run_indexByteString]
  simp only [Result.andThen]
  rw [Oper.upon_value]
  go_wp2
  go_ret
  exact ⟨rfl, rfl⟩
@[go_sem] def ixC : PC := rel (α := Bs × Int) (fun x => [.str x.1, .int .u8 x.2]) (fun x => 0 ≤ x.2 ∧ x.2 < 256) (fun x => .int .i64 (ixB x.1 (ofI x.2)))
theorem ixs_c : PureOk Try.prog 143 ixC := by
  refine rel_of_calls ⟨_, Try.func143, by kernel_rfl, by kernel_rfl⟩ ?_
  rintro c ⟨s, x⟩ vs hc hl hr
  simp only [RepL.cons_iff, RepL.nil_iff] at hr
  obtain ⟨v, _, rfl, hv, u, _, rfl, hu, rfl⟩ := hr
  unfold Rep at hv hu
  subst hv hu
  refine (ixs_any ⟨s.toArray⟩ x c.w).mono ?_
  rintro e w' ⟨rfl, rfl⟩
  refine ⟨_, rfl, ?_, Below.refl _ _⟩
  unfold Rep
  rfl
theorem ix_any : PureOk Try.prog 117 ixC := by
  refine pure_rel 2 (tab_cons ixs_c tab_nil) mixed [.tmp 4] Try.func117 rfl rfl (by kernel_rfl) (by kernel_rfl) (fun _ => rfl) (by kernel_rfl) ?_
  rintro ⟨s, x⟩ K ⟨h0, h1⟩ hK
  dsimp only at *
  unfold entry
  repeat' (first | ((first | apply qa1 | apply qa2 | apply qa3 | apply qh1 | apply qh2 | apply qg1 rfl | apply qcd); (try intro K hk); focus (simp only [go_sem, Nat.reduceEqDiff, Nat.reduceAdd, Nat.reduceLeDiff, Nat.reduceLT, Nat.reduceSub, Int.reduceToNat, ↓reduceIte, reduceCtorEq]; first | exact rfl | ((repeat (refine And.intro ?_ ?_; focus (first | omega | assumption | with_reducible rfl))); intros; apply hk; clear hk K))) | apply qw8 | apply qw1 | apply qw6 | apply qt1 | apply qw5 | apply qw2 | apply qw9 | apply qt2 | apply qt3 | apply qt4 | apply qt5 | apply qt6 | apply qw3 | apply qw4 | apply qj1 | apply qj2 | apply qj3 | apply qj4 | apply qj5 | apply qu1 | apply qu2 | (refine qj6 ?_ ?_ <;> intro hc <;> (try simp only [hc]) <;> (try simp only [decide_eq_true_eq, decide_eq_false_iff_not, Bool.not_eq_true', Bool.not_eq_false', Bool.not_eq_true, reduceCtorEq] at hc) <;> (try (exfalso; omega))) | (refine qt7 ?_ ?_; focus decide) | (refine qw7 ?_ ?_ ?_; (focus (decide +kernel)); (focus (decide +kernel))))
  ((first | refine fin_ret ?_ | refine fin_end ?_); simp only [go_sem, ↓upd_def, Nat.reduceEqDiff, Nat.reduceAdd, ↓reduceIte, reduceCtorEq])
  exact hK
end Go.Proofs.Ytnbjogilidfkdaa

/- The machine of modes: contracts' shapes, bytes. No program. -/
namespace Go.Proofs.Ytnbjogilidfkdaa
set_option maxRecDepth 100000
set_option linter.unusedVariables false
set_option linter.unusedSimpArgs false
open Go.RowKit
--LV=S0
@[go_sem] def stC (f : St → PV) : PC := rel (α := St) (fun s => [.agg (encS s)]) okS f
@[go_sem] def sbC (pre : St → Prop) (f : St → UInt8 → St) : PC := rel (α := St × Int) (fun x => [.agg (encS x.1), .int .u8 x.2]) (fun x => 0 ≤ x.2 ∧ x.2 < 256 ∧ pre x.1) (fun x => .agg (encS (f x.1 (ofI x.2))))
def moreS (m : Int) (t a : Bs) (w : Bs) : St :=
  if m = 4 then (if (a ++ lowS w).length > 10 ∨ t.length > 10 then bad else ⟨m, t, a ++ lowS w, false⟩) else (if a.length > 10 ∨ (t ++ lowS w).length > 10 then bad else ⟨m, t ++ lowS w, a, false⟩)
theorem encS_eq (s : St) : encS s = [.int .i64 s.mode, .str s.tag, .str s.attr, .bool s.seen] := rfl
theorem stV_len {s : St} (h : stV s = true) : s.tag.length ≤ 10 ∧ s.attr.length ≤ 10 := by
  have h1 := (stV_parts h).2.2.1
  have h2 := (stV_parts h).2.2.2.1
  unfold tagOk at h1
  unfold attrOk at h2
  constructor
  · split at h1
    · exact (nameB_len h1).2
    · split at h1
      · simp only [Bool.or_eq_true, decide_eq_true_eq] at h1
        rcases h1 with h1 | h1
        · rw [h1]; simp
        · exact (nameB_len h1).2
      · simp only [decide_eq_true_eq] at h1; rw [h1]; simp
  · split at h2
    · exact (nameB_len h2).2
    · simp only [decide_eq_true_eq] at h2; rw [h2]; simp
theorem bare_nm : ∀ c : UInt8, bareB c = (nmByte c || decide (c.toNat = 95) || decide (c.toNat = 46) || decide (c.toNat = 47) || decide (c.toNat = 58)) := all_bytes (by decide)
theorem cls_byte : ∀ c : UInt8, (isLet c = true → nmByte c = true) ∧ (nmByte c = true → c.toNat ≠ 32 ∧ c.toNat ≠ 62 ∧ c.toNat ≠ 61 ∧ c.toNat ≠ 34 ∧ c.toNat ≠ 39 ∧ c.toNat ≠ 47 ∧ c.toNat ≠ 33) := all_bytes (by decide)
theorem low_one (b : UInt8) : lowS [b] = [low1 b] := rfl
theorem moreS_t {m : Int} {t : Bs} {c : UInt8} (h : m ≠ 4) : moreS m t [] [c] = longT ⟨m, t, [], false⟩ c := by
  unfold moreS longT
  rw [if_neg h, low_one, List.length_append]
  by_cases h1 : t.length + 1 > 10
  · rw [if_pos h1, if_pos (.inr (by simpa using h1))]
  · rw [if_neg h1, if_neg (by simp; omega)]
theorem moreS_a {t a : Bs} {c : UInt8} (h : t.length ≤ 10) : moreS 4 t a [c] = longA ⟨4, t, a, false⟩ c := by
  unfold moreS longA
  rw [if_pos rfl, low_one, List.length_append]
  by_cases h1 : a.length + 1 > 10
  · rw [if_pos h1, if_pos (.inl (by simpa using h1))]
  · rw [if_neg h1, if_neg (by simp; omega)]
theorem ex_St {m : Int} {t a : Bs} {b : Bool} {p : St → Prop} : (∃ s : St, m = s.mode ∧ t = s.tag ∧ a = s.attr ∧ b = s.seen ∧ p s) ↔ p ⟨m, t, a, b⟩ := by
  constructor
  · rintro ⟨⟨m', t', a', b'⟩, h1, h2, h3, h4, hp⟩
    dsimp only at h1 h2 h3 h4
    subst h1 h2 h3 h4
    exact hp
  · exact fun h => ⟨_, rfl, rfl, rfl, rfl, h⟩
theorem step_bad' {s : St} {c : UInt8} (h : stV s = false) : step s c = bad := by unfold step; rw [if_neg (by rw [h]; decide)]
end Go.Proofs.Ytnbjogilidfkdaa

/- Contracts: one step of the machine of modes. -/
namespace Go.Proofs.Ytnbjogilidfkdaa
attribute [local irreducible] awp arun acalm FinP Fin AX.then AX.inBlock Again aG gsel amix amixN amixC aop aopc aopd cutK
attribute [local go_sem] aBSliceD aSlice aSliceC boundOf aMk aCall aCallC aLenL aLen aPick_t aPick_f aNil aAlloc aBox aBuild bldPV aBSlice bsPV aApp newsOf destOf drp aConvX aConv aConvInt aLoad cellsAt aStore cellsPV setAt aFld aField aIdx aIndex aUn aBin' aBin aMax aExtract pvOf PV.isCell nmbL PV.nmb List.map_cons List.map_nil List.all_cons List.all_nil Bool.and_true Bool.true_and if_true if_false List.getD_cons_zero List.getD_cons_succ List.getD_nil Option.isSome_some true_and and_true and_self eq_self true_or or_true List.drop_zero List.drop_succ_cons List.drop_nil List.take_zero List.take_succ_cons List.take_nil List.length_cons List.length_nil List.length_map Option.getD_some Option.getD_none List.nil_append List.cons_append List.append_nil Option.some.injEq exists_eq_left' List.getElem?_cons_zero List.getElem?_cons_succ Int.toNat_natCast Int.natCast_inj toNat_succ Nat.zero_add res res1 resC owns owns1 ownsC List.flatMap_cons List.flatMap_nil List.flatten_cons List.flatten_nil List.mem_cons List.not_mem_nil or_false false_or forall_eq forall_eq_or_imp isFro frz frz1 pureC tabA isBld List.cons.injEq PV.seq.injEq PV.int.injEq PV.str.injEq PV.bool.injEq PV.agg.injEq inR tab Γof aRes packR Option.map_some Option.map_none rel Prod.exists exists_and_left exists_eq_left and_assoc beq_self_eq_true Bool.not_true Bool.not_false decide_true decide_false List.set_cons_zero List.set_cons_succ rst_nil rst_cons
attribute [local go_sem ↓] evT upd_def aop aopc aopd
set_option maxRecDepth 100000
set_option linter.unusedVariables false
set_option linter.unusedSimpArgs false
open Go.RowKit
def lvS2_115 : Nat → List Nat
  | 0 => [1, 2, 3, 6]
  | 1 => [1, 2, 3, 6, 7]
  | 2 => [1, 3, 6, 7, 9]
  | 3 => [1, 3, 6, 7]
  | 4 => [3, 6, 7]
  | 5 => [3, 6, 24]
  | 6 => [6]
  | 7 => [6]
  | _ => []
--LV=S2
theorem bare_i : PureOk Try.prog 113 (byC fun b => .bool (bareB b)) := by
  refine pure_rel 1 (tab_cons let_i (tab_cons digb_i (tab_cons has_i tab_nil))) mixed [.tmp 2] Try.func113 rfl rfl (by kernel_rfl) (by kernel_rfl) (fun _ => rfl) (by kernel_rfl) ?_
  rintro b K _ hK
  unfold entry
  repeat' (first | ((first | apply qa1 | apply qa2 | apply qa3 | apply qh1 | apply qh2 | apply qg1 rfl | apply qcd); (try intro K hk); focus (simp only [go_sem, Nat.reduceEqDiff, Nat.reduceAdd, Nat.reduceLeDiff, Nat.reduceLT, Nat.reduceSub, Int.reduceToNat, ↓reduceIte, reduceCtorEq]; first | exact rfl | ((repeat (refine And.intro ?_ ?_; focus (first | omega | assumption | with_reducible rfl))); intros; apply hk; clear hk K))) | apply qw8 | apply qw1 | apply qw6 | apply qt1 | apply qw5 | apply qw2 | apply qw9 | apply qt2 | apply qt3 | apply qt4 | apply qt5 | apply qt6 | apply qw3 | apply qw4 | apply qj1 | apply qj2 | apply qj3 | apply qj4 | apply qj5 | apply qu1 | apply qu2 | (refine qj6 ?_ ?_ <;> intro hc <;> (try simp only [hc]) <;> (try simp only [decide_eq_true_eq, decide_eq_false_iff_not, Bool.not_eq_true', Bool.not_eq_false', Bool.not_eq_true, reduceCtorEq] at hc) <;> (try (exfalso; omega))) | (refine qt7 ?_ ?_; focus decide) | (refine qw7 ?_ ?_ ?_; (focus (decide +kernel)); (focus (decide +kernel))))
  all_goals
    ((first | refine fin_ret ?_ | refine fin_end ?_); simp only [go_sem, ↓upd_def, Nat.reduceEqDiff, Nat.reduceAdd, ↓reduceIte, reduceCtorEq])
    refine K_bool hK ?_
    clear hK
    unfold bareB
    simp [*]
set_option maxHeartbeats 8000000 in
theorem long_i : PureOk Try.prog 115 (rel (α := (St × Int) × Bool) (fun x => [.agg (encS x.1.1), .int .u8 x.1.2, .bool x.2]) (fun x => x.1.1.tag.length ≤ 1000 ∧ x.1.1.attr.length ≤ 1000 ∧ 0 ≤ x.1.2 ∧ x.1.2 < 256) (fun x => .agg (encS (if x.2 then longA x.1.1 (ofI x.1.2) else longT x.1.1 (ofI x.1.2))))) := by
  refine pure_rel 3 (tab_cons low_i tab_nil) mixed [.cell 6 82] Try.func115 rfl rfl (by kernel_rfl) (by kernel_rfl) (fun _ => rfl) (by kernel_rfl) ?_
  rintro ⟨⟨⟨m, t, a, b⟩, c⟩, fl⟩ K ⟨h1, h2, h3, h4⟩ hK
  dsimp only at h1 h2
  obtain ⟨c, rfl⟩ := byte_of h3 (by omega)
  have hl1 : ∀ b : UInt8, lowS [b] = [low1 b] := fun _ => rfl
  cases fl <;> unfold entry
  all_goals repeat' (first | ((first | apply qwd | apply qa1 | apply qa2 | apply qa3 | apply qh1 | apply qh2 | apply qm1 | apply qm2 | apply qm3 | apply qg1 rfl | apply qcd); (try intro K hk); focus (simp only [lvS2_115, mkT, go_sem, Nat.reduceEqDiff, Nat.reduceAdd, Nat.reduceLeDiff, Nat.reduceLT, Nat.reduceSub, Int.reduceToNat, ↓reduceIte, reduceCtorEq]; first | exact rfl | ((repeat (refine And.intro ?_ ?_; focus (first | omega | assumption | with_reducible rfl))); intros; apply hk; clear hk K))) | apply qw8 | apply qw1 | refine qwc lvS2_115 ?_ | apply qt1 | apply qw5 | apply qw2 | apply qw9 | apply qt2 | apply qt3 | apply qt4 | apply qt5 | apply qt6 | apply qw3 | apply qw4 | apply qj1 | apply qj2 | apply qj3 | apply qj4 | apply qj5 | apply qu1 | apply qu2 | apply qne | apply qyn | apply qyz | apply qy0 | refine qnt rfl rfl ?_ | refine qnf rfl rfl ?_ | refine qyc rfl ?_ | refine qy1 rfl ?_ | refine qy2 rfl ?_ ?_ | (refine qj6 ?_ ?_ <;> intro hc <;> (try simp only [hc]) <;> (try simp only [decide_eq_true_eq, decide_eq_false_iff_not, Bool.not_eq_true', Bool.not_eq_false', Bool.not_eq_true, reduceCtorEq] at hc) <;> (try (exfalso; omega))) | (refine qk1 ?_ ?_; focus (repeat (first | exact qsub0 | (refine qsub1 ?_ ?_; focus (simp only [go_sem, Nat.reduceEqDiff, Nat.reduceAdd, Nat.reduceLeDiff, Nat.reduceLT, Nat.reduceSub, Int.reduceToNat, ↓reduceIte, reduceCtorEq]))))) | (refine qt7 ?_ ?_; focus decide) | (refine qw7 ?_ ?_ ?_; (focus (decide +kernel)); (focus (decide +kernel))))
  all_goals (refine qw10 [] [0, 1, 3, 4, 5, 6, 7, 8] [0, 1, 3, 4, 5, 6, 2, 7, 8, 9] ?_ ?_; focus (decide +kernel))
  all_goals repeat' (first | ((first | apply qwd | apply qa1 | apply qa2 | apply qa3 | apply qh1 | apply qh2 | apply qm1 | apply qm2 | apply qm3 | apply qg1 rfl | apply qcd); (try intro K hk); focus (simp only [lvS2_115, mkT, go_sem, Nat.reduceEqDiff, Nat.reduceAdd, Nat.reduceLeDiff, Nat.reduceLT, Nat.reduceSub, Int.reduceToNat, ↓reduceIte, reduceCtorEq, ofI_nat, hl1, List.length_append]; first | exact rfl | ((repeat (refine And.intro ?_ ?_; focus (first | omega | assumption | with_reducible rfl))); intros; apply hk; clear hk K))) | apply qw8 | apply qw1 | refine qwc lvS2_115 ?_ | apply qt1 | apply qw5 | apply qw2 | apply qw9 | apply qt2 | apply qt3 | apply qt4 | apply qt5 | apply qt6 | apply qw3 | apply qw4 | apply qj1 | apply qj2 | apply qj3 | apply qj4 | apply qj5 | apply qu1 | apply qu2 | apply qne | apply qyn | apply qyz | apply qy0 | refine qnt rfl rfl ?_ | refine qnf rfl rfl ?_ | refine qyc rfl ?_ | refine qy1 rfl ?_ | refine qy2 rfl ?_ ?_ | (refine qj6 ?_ ?_ <;> intro hc <;> (try simp only [hc]) <;> (try simp only [decide_eq_true_eq, decide_eq_false_iff_not, Bool.not_eq_true', Bool.not_eq_false', Bool.not_eq_true, reduceCtorEq] at hc) <;> (try (exfalso; omega))) | (refine qk1 ?_ ?_; focus (repeat (first | exact qsub0 | (refine qsub1 ?_ ?_; focus (simp only [go_sem, Nat.reduceEqDiff, Nat.reduceAdd, Nat.reduceLeDiff, Nat.reduceLT, Nat.reduceSub, Int.reduceToNat, ↓reduceIte, reduceCtorEq, ofI_nat, hl1, List.length_append]))))) | (refine qt7 ?_ ?_; focus decide) | (refine qw7 ?_ ?_ ?_; (focus (decide +kernel)); (focus (decide +kernel))))
  all_goals
    ((first | refine fin_ret ?_ | refine fin_end ?_); simp only [go_sem, ↓upd_def, Nat.reduceEqDiff, Nat.reduceAdd, ↓reduceIte, reduceCtorEq])
    refine ⟨by omega, K_eq hK ?_⟩
    clear hK
    simp only [ofI_nat, longT, longA, bad, encS_mk, Bool.false_eq_true, if_true, if_false]
    first
      | (rw [if_pos (by omega)]; rfl)
      | (rw [if_neg (by omega)]; rfl)
end Go.Proofs.Ytnbjogilidfkdaa

/- Contracts: valid states, the program. -/
namespace Go.Proofs.Ytnbjogilidfkdaa
attribute [local irreducible] awp arun acalm FinP Fin AX.then AX.inBlock Again aG gsel amix amixN amixC aop aopc aopd cutK
attribute [local go_sem] aBSliceD aSlice aSliceC boundOf aMk aCall aCallC aLenL aLen aPick_t aPick_f aNil aAlloc aBox aBuild bldPV aBSlice bsPV aApp newsOf destOf drp aConvX aConv aConvInt aLoad cellsAt aStore cellsPV setAt aFld aField aIdx aIndex aUn aBin' aBin aMax aExtract pvOf PV.isCell nmbL PV.nmb List.map_cons List.map_nil List.all_cons List.all_nil Bool.and_true Bool.true_and if_true if_false List.getD_cons_zero List.getD_cons_succ List.getD_nil Option.isSome_some true_and and_true and_self eq_self true_or or_true List.drop_zero List.drop_succ_cons List.drop_nil List.take_zero List.take_succ_cons List.take_nil List.length_cons List.length_nil List.length_map Option.getD_some Option.getD_none List.nil_append List.cons_append List.append_nil Option.some.injEq exists_eq_left' List.getElem?_cons_zero List.getElem?_cons_succ Int.toNat_natCast Int.natCast_inj toNat_succ Nat.zero_add res res1 resC owns owns1 ownsC List.flatMap_cons List.flatMap_nil List.flatten_cons List.flatten_nil List.mem_cons List.not_mem_nil or_false false_or forall_eq forall_eq_or_imp isFro frz frz1 pureC tabA isBld List.cons.injEq PV.seq.injEq PV.int.injEq PV.str.injEq PV.bool.injEq PV.agg.injEq inR tab Γof aRes packR Option.map_some Option.map_none rel Prod.exists exists_and_left exists_eq_left and_assoc beq_self_eq_true Bool.not_true Bool.not_false decide_true decide_false List.set_cons_zero List.set_cons_succ rst_nil rst_cons
attribute [local go_sem ↓] evT upd_def aop aopc aopd
set_option maxRecDepth 100000
set_option linter.unusedVariables false
set_option linter.unusedSimpArgs false
open Go.RowKit
def lvS1i_109 : Nat → List Nat
  | 0 => [1]
  | 1 => [1, 13]
  | 2 => [2]
  | 3 => [1, 3]
  | 4 => [1, 3, 24]
  | 5 => [1, 3]
  | 6 => [1, 3, 30]
  | 7 => [1, 3]
  | 8 => [1, 3, 4]
  | 9 => [1, 3, 4, 49]
  | 10 => [1, 3, 4]
  | 11 => [1, 3, 4, 5]
  | 12 => [1, 3, 4, 5, 63]
  | 13 => [3, 4, 5]
  | 14 => [1, 3, 4, 5, 66]
  | 15 => [3, 4, 5]
  | 16 => [2]
  | _ => []
--LV=S1i
set_option maxHeartbeats 8000000 in
theorem sv_i : PureOk Try.prog 109 (stC fun s => .bool (stV s)) := by
  refine pure_rel 1 (tab_cons name_i tab_nil) mixed [.tmp 2] Try.func109 rfl rfl (by kernel_rfl) (by kernel_rfl) (fun _ => rfl) (by kernel_rfl) ?_
  rintro ⟨m, t, a, b⟩ K hok hK
  unfold okS at hok
  dsimp only at hok
  obtain ⟨h1, h2⟩ := hok
  unfold entry
  repeat' (first | ((first | apply qwd | apply qa1 | apply qa2 | apply qa3 | apply qh1 | apply qh2 | apply qg1 rfl | apply qcd); (try intro K hk); focus (simp only [lvS1i_109, mkT, go_sem, Nat.reduceEqDiff, Nat.reduceAdd, Nat.reduceLeDiff, Nat.reduceLT, Nat.reduceSub, Int.reduceToNat, ↓reduceIte, reduceCtorEq]; first | exact rfl | ((repeat (refine And.intro ?_ ?_; focus (first | omega | assumption | with_reducible rfl))); intros; apply hk; clear hk K))) | apply qw8 | apply qw1 | refine qwc lvS1i_109 ?_ | apply qt1 | apply qw5 | apply qw2 | apply qw9 | apply qt2 | apply qt3 | apply qt4 | apply qt5 | apply qt6 | apply qw3 | apply qw4 | apply qj1 | apply qj2 | apply qj3 | apply qj4 | apply qj5 | apply qu1 | apply qu2 | (refine qj6 ?_ ?_ <;> intro hc <;> (try simp only [hc]) <;> (try simp only [decide_eq_true_eq, decide_eq_false_iff_not, Bool.not_eq_true', Bool.not_eq_false', Bool.not_eq_true, reduceCtorEq] at hc) <;> (try (exfalso; omega))) | (refine qt7 ?_ ?_; focus decide) | (refine qw7 ?_ ?_ ?_; (focus (decide +kernel)); (focus (decide +kernel))))
  all_goals
    ((first | refine fin_ret ?_ | refine fin_end ?_); simp only [go_sem, ↓upd_def, Nat.reduceEqDiff, Nat.reduceAdd, ↓reduceIte, reduceCtorEq])
    refine K_bool hK ?_
    clear hK
    unfold stV tagOk attrOk seenOk
    dsimp only
    grind
end Go.Proofs.Ytnbjogilidfkdaa
