/- What the program's tables say of its types. -/
import Derived.Test.YtdedddmnacomfaaWF11
import Derived.Test.YtdedddmnacomfaaRows

namespace Go.Proofs.Ytdedddmnacomfaa
set_option maxRecDepth 100000
set_option linter.unusedVariables false
set_option linter.unusedSimpArgs false
open Go.RowKit
theorem mixed : Try.prog.follows .mixedOrders = true := by kernel_rfl
@[go_sem] theorem ty_ag3 : aggOf Try.prog 3 = some none := by kernel_rfl
@[go_sem] theorem ty_ze3 : zeroOf Try.prog 3 = some [.int .i64 0] := by kernel_rfl
@[go_sem] theorem ty_kd3 : kindOf Try.prog 3 = some (.inl .i64) := by kernel_rfl
@[go_sem] theorem ty_ag4 : aggOf Try.prog 4 = some none := by kernel_rfl
@[go_sem] theorem ty_ze4 : zeroOf Try.prog 4 = some [.bool false] := by kernel_rfl
@[go_sem] theorem ty_un4 : Try.prog.underlying 4 = some .bool := by kernel_rfl
@[go_sem] theorem ty_ag5 : aggOf Try.prog 5 = some none := by kernel_rfl
@[go_sem] theorem ty_ze5 : zeroOf Try.prog 5 = some [.int .u8 0] := by kernel_rfl
@[go_sem] theorem ty_kd5 : kindOf Try.prog 5 = some (.inl .u8) := by kernel_rfl
@[go_sem] theorem ty_ag9 : aggOf Try.prog 9 = some none := by kernel_rfl
@[go_sem] theorem ty_ze9 : zeroOf Try.prog 9 = some [.str []] := by kernel_rfl
@[go_sem] theorem ty_kd9 : kindOf Try.prog 9 = some (.inr .str) := by kernel_rfl
@[go_sem] theorem ty_un9 : Try.prog.underlying 9 = some .string := by kernel_rfl
@[go_sem] theorem ty_el22 : elOf Try.prog 22 = some (59, 5, 88) := by kernel_rfl
@[go_sem] theorem ty_ag22 : aggOf Try.prog 22 = some none := by kernel_rfl
@[go_sem] theorem ty_el24 : elOf Try.prog 24 = some (9, 1, 16) := by kernel_rfl
@[go_sem] theorem ty_ag24 : aggOf Try.prog 24 = some none := by kernel_rfl
@[go_sem] theorem ty_el26 : elOf Try.prog 26 = some (63, 5, 88) := by kernel_rfl
@[go_sem] theorem ty_ag26 : aggOf Try.prog 26 = some none := by kernel_rfl
@[go_sem] theorem ty_el39 : elOf Try.prog 39 = some (3, 1, 8) := by kernel_rfl
@[go_sem] theorem ty_ag39 : aggOf Try.prog 39 = some none := by kernel_rfl
@[go_sem] theorem ty_el45 : elOf Try.prog 45 = some (82, 4, 64) := by kernel_rfl
@[go_sem] theorem ty_ag45 : aggOf Try.prog 45 = some none := by kernel_rfl
@[go_sem] theorem ty_el48 : elOf Try.prog 48 = some (84, 4, 64) := by kernel_rfl
@[go_sem] theorem ty_ag48 : aggOf Try.prog 48 = some none := by kernel_rfl
@[go_sem] theorem ty_el53 : elOf Try.prog 53 = some (92, 2, 24) := by kernel_rfl
@[go_sem] theorem ty_ag53 : aggOf Try.prog 53 = some none := by kernel_rfl
@[go_sem] theorem ty_ag59 : aggOf Try.prog 59 = some (some 5) := by kernel_rfl
@[go_sem] theorem ty_ze59 : zeroOf Try.prog 59 = some [.int .i64 0, .str [], .str [], .nil, .nil] := by kernel_rfl
@[go_sem] theorem ty_pl59 : plOf Try.prog 59 = some [(0, 1), (1, 1), (2, 1), (3, 1), (4, 1)] := by kernel_rfl
@[go_sem] theorem ty_fl59_0 : fldOf Try.prog 59 0 = some (0, true) := by kernel_rfl
@[go_sem] theorem ty_fl59_1 : fldOf Try.prog 59 1 = some (1, true) := by kernel_rfl
@[go_sem] theorem ty_fl59_2 : fldOf Try.prog 59 2 = some (2, true) := by kernel_rfl
@[go_sem] theorem ty_fl59_3 : fldOf Try.prog 59 3 = some (3, true) := by kernel_rfl
@[go_sem] theorem ty_fl59_4 : fldOf Try.prog 59 4 = some (4, true) := by kernel_rfl
@[go_sem] theorem ty_ag63 : aggOf Try.prog 63 = some (some 5) := by kernel_rfl
@[go_sem] theorem ty_ze63 : zeroOf Try.prog 63 = some [.int .i64 0, .str [], .str [], .nil, .nil] := by kernel_rfl
@[go_sem] theorem ty_pl63 : plOf Try.prog 63 = some [(0, 1), (1, 1), (2, 1), (3, 1), (4, 1)] := by kernel_rfl
@[go_sem] theorem ty_fl63_0 : fldOf Try.prog 63 0 = some (0, true) := by kernel_rfl
@[go_sem] theorem ty_fl63_1 : fldOf Try.prog 63 1 = some (1, true) := by kernel_rfl
@[go_sem] theorem ty_fl63_2 : fldOf Try.prog 63 2 = some (2, true) := by kernel_rfl
@[go_sem] theorem ty_fl63_3 : fldOf Try.prog 63 3 = some (3, true) := by kernel_rfl
@[go_sem] theorem ty_fl63_4 : fldOf Try.prog 63 4 = some (4, true) := by kernel_rfl
@[go_sem] theorem ty_ag75 : aggOf Try.prog 75 = some (some 4) := by kernel_rfl
@[go_sem] theorem ty_ze75 : zeroOf Try.prog 75 = some [.int .i64 0, .str [], .str [], .bool false] := by kernel_rfl
@[go_sem] theorem ty_pl75 : plOf Try.prog 75 = some [(0, 1), (1, 1), (2, 1), (3, 1)] := by kernel_rfl
@[go_sem] theorem ty_fl75_0 : fldOf Try.prog 75 0 = some (0, true) := by kernel_rfl
@[go_sem] theorem ty_fl75_1 : fldOf Try.prog 75 1 = some (1, true) := by kernel_rfl
@[go_sem] theorem ty_fl75_2 : fldOf Try.prog 75 2 = some (2, true) := by kernel_rfl
@[go_sem] theorem ty_fl75_3 : fldOf Try.prog 75 3 = some (3, true) := by kernel_rfl
@[go_sem] theorem ty_ek75 : eksOf Try.prog 75 = some [.i, .s, .s, .b] := by kernel_rfl
@[go_sem] theorem ty_ag82 : aggOf Try.prog 82 = some (some 4) := by kernel_rfl
@[go_sem] theorem ty_ze82 : zeroOf Try.prog 82 = some [.str [], .str [], .bool false, .nil] := by kernel_rfl
@[go_sem] theorem ty_pl82 : plOf Try.prog 82 = some [(0, 1), (1, 1), (2, 1), (3, 1)] := by kernel_rfl
@[go_sem] theorem ty_fl82_0 : fldOf Try.prog 82 0 = some (0, true) := by kernel_rfl
@[go_sem] theorem ty_fl82_1 : fldOf Try.prog 82 1 = some (1, true) := by kernel_rfl
@[go_sem] theorem ty_fl82_2 : fldOf Try.prog 82 2 = some (2, true) := by kernel_rfl
@[go_sem] theorem ty_fl82_3 : fldOf Try.prog 82 3 = some (3, true) := by kernel_rfl
@[go_sem] theorem ty_ag84 : aggOf Try.prog 84 = some (some 4) := by kernel_rfl
@[go_sem] theorem ty_ze84 : zeroOf Try.prog 84 = some [.str [], .str [], .bool false, .nil] := by kernel_rfl
@[go_sem] theorem ty_pl84 : plOf Try.prog 84 = some [(0, 1), (1, 1), (2, 1), (3, 1)] := by kernel_rfl
@[go_sem] theorem ty_fl84_0 : fldOf Try.prog 84 0 = some (0, true) := by kernel_rfl
@[go_sem] theorem ty_fl84_1 : fldOf Try.prog 84 1 = some (1, true) := by kernel_rfl
@[go_sem] theorem ty_fl84_2 : fldOf Try.prog 84 2 = some (2, true) := by kernel_rfl
@[go_sem] theorem ty_fl84_3 : fldOf Try.prog 84 3 = some (3, true) := by kernel_rfl
@[go_sem] theorem ty_ag92 : aggOf Try.prog 92 = some (some 2) := by kernel_rfl
@[go_sem] theorem ty_ze92 : zeroOf Try.prog 92 = some [.int .i64 0, .str []] := by kernel_rfl
@[go_sem] theorem ty_pl92 : plOf Try.prog 92 = some [(0, 1), (1, 1)] := by kernel_rfl
@[go_sem] theorem ty_fl92_0 : fldOf Try.prog 92 0 = some (0, true) := by kernel_rfl
@[go_sem] theorem ty_fl92_1 : fldOf Try.prog 92 1 = some (1, true) := by kernel_rfl
@[go_sem] theorem ty_ek92 : eksOf Try.prog 92 = some [.i, .s] := by kernel_rfl
@[go_sem] theorem ty_el98 : elOf Try.prog 98 = some (5, 1, 1) := by kernel_rfl
@[go_sem] theorem ty_ag98 : aggOf Try.prog 98 = some none := by kernel_rfl
@[go_sem] theorem ty_kd98 : kindOf Try.prog 98 = some (.inr .bytes) := by kernel_rfl
end Go.Proofs.Ytdedddmnacomfaa

/- Texts: the program's and the reference's small functions on them. -/
namespace Go.Proofs.Ytdedddmnacomfaa
attribute [local irreducible] awp arun acalm FinP Fin AX.then AX.inBlock Again aG gsel amix amixN amixC aop aopc aopd cutK
attribute [local go_sem] aBSliceD aSlice aSliceC boundOf aMk aCall aCallC aLenL aLen aPick_t aPick_f aNil aAlloc aBox aBuild bldPV aBSlice bsPV aApp newsOf destOf drp aConvX aConv aConvInt aLoad cellsAt aStore cellsPV setAt aFld aField aIdx aIndex aUn aBin' aBin aMax aExtract pvOf PV.isCell nmbL PV.nmb List.map_cons List.map_nil List.all_cons List.all_nil Bool.and_true Bool.true_and if_true if_false List.getD_cons_zero List.getD_cons_succ List.getD_nil Option.isSome_some true_and and_true and_self eq_self true_or or_true List.drop_zero List.drop_succ_cons List.drop_nil List.take_zero List.take_succ_cons List.take_nil List.length_cons List.length_nil List.length_map Option.getD_some Option.getD_none List.nil_append List.cons_append List.append_nil Option.some.injEq exists_eq_left' List.getElem?_cons_zero List.getElem?_cons_succ Int.toNat_natCast Int.natCast_inj toNat_succ Nat.zero_add res res1 resC owns owns1 ownsC List.flatMap_cons List.flatMap_nil List.flatten_cons List.flatten_nil List.mem_cons List.not_mem_nil or_false false_or forall_eq forall_eq_or_imp isFro frz frz1 pureC tabA isBld List.cons.injEq PV.seq.injEq PV.int.injEq PV.str.injEq PV.bool.injEq PV.agg.injEq inR tab Γof aRes packR Option.map_some Option.map_none rel Prod.exists exists_and_left exists_eq_left and_assoc beq_self_eq_true Bool.not_true Bool.not_false decide_true decide_false List.set_cons_zero List.set_cons_succ rst_nil rst_cons
attribute [local go_sem ↓] evT upd_def aop aopc aopd
set_option maxRecDepth 100000
set_option linter.unusedVariables false
set_option linter.unusedSimpArgs false
open Go.RowKit
def allB (p : Nat → Bool) (s : List UInt8) : Bool := s.all fun b => p b.toNat
theorem allB_snoc {p : Nat → Bool} {s : List UInt8} {k : Nat} (h : k < s.length) : allB p (s.take (k + 1)) = (allB p (s.take k) && p (s.getD k 0).toNat) := by
  unfold allB
  rw [List.take_succ_eq_append_getElem h, List.all_append]
  simp [List.getD_eq_getElem?_getD, List.getElem?_eq_getElem h]
theorem allB_f {p : Nat → Bool} {s : List UInt8} {k : Nat} (h : k < s.length) (hp : p (s.getD k 0).toNat = false) : allB p s = false := by
  unfold allB
  rw [List.all_eq_false]
  refine ⟨s[k], List.getElem_mem h, ?_⟩
  simp [List.getD_eq_getElem?_getD, List.getElem?_eq_getElem h] at hp
  simp [hp]
def okByte (x : Nat) : Bool := decide (32 ≤ x) && decide (x ≤ 126)
/-- At most 600 bytes, each in 32..126. -/
def textB (s : List UInt8) : Bool := decide (s.length ≤ 600) && allB okByte s
theorem byte_lt (s : List UInt8) (k : Nat) : (s.getD k 0).toNat < 256 := (s.getD k 0).toNat_lt
@[go_sem] def strC (f : List UInt8 → Bool) : PC := rel (α := List UInt8) (fun s => [.str s]) (fun s => s.length ≤ 9223372036854775807) (fun s => .bool (f s))
set_option maxHeartbeats 4000000 in
theorem text_i : PureOk Try.prog 114 (strC textB) := by
  refine pure_rel 1 tab_nil mixed [.tmp 2] Try.func114 rfl rfl (by kernel_rfl) (by kernel_rfl) (fun _ => rfl) (by kernel_rfl) ?_
  rintro s K hl hK
  unfold entry
  repeat' (first | ((first | apply qa1 | apply qa2 | apply qa3 | apply qh1 | apply qh2 | apply qg1 rfl | apply qcd); (try intro K hk); focus (simp only [go_sem, Nat.reduceEqDiff, Nat.reduceAdd, Nat.reduceLeDiff, Nat.reduceLT, Nat.reduceSub, Int.reduceToNat, ↓reduceIte, reduceCtorEq]; first | exact rfl | ((repeat (refine And.intro ?_ ?_; focus (first | omega | assumption | with_reducible rfl))); intros; apply hk; clear hk K))) | apply qw8 | apply qw1 | apply qw6 | apply qt1 | apply qw5 | apply qw2 | apply qw9 | apply qt2 | apply qt3 | apply qt4 | apply qt5 | apply qt6 | apply qw3 | apply qw4 | apply qj1 | apply qj2 | apply qj3 | apply qj4 | apply qj5 | apply qu1 | apply qu2 | (refine qj6 ?_ ?_ <;> intro hc <;> (try simp only [hc]) <;> (try simp only [decide_eq_true_eq, decide_eq_false_iff_not, Bool.not_eq_true', Bool.not_eq_false', Bool.not_eq_true, reduceCtorEq] at hc) <;> (try (exfalso; omega))) | (refine qt7 ?_ ?_; focus decide) | (refine qw7 ?_ ?_ ?_; (focus (decide +kernel)); (focus (decide +kernel))))
  · ((first | refine fin_ret ?_ | refine fin_end ?_); simp only [go_sem, ↓upd_def, Nat.reduceEqDiff, Nat.reduceAdd, ↓reduceIte, reduceCtorEq])
    exact K_bool hK (by unfold textB; rw [decide_eq_false (by omega)]; rfl)
  refine s_loop (ι := Nat) (fun k => [(0, .str s), (2, .bool false), (3, .int .i64 k)]) (fun _ => []) 0 (fun k => k ≤ s.length ∧ allB okByte (s.take k) = true) (fun k => s.length - k) 0 (by omega) ⟨by omega, by simp [allB]⟩ ?_ ?_
  · simp [fits, fitsT, fitsM, upd_def, PV.nmb, nmbL, MB.nmb, List.getD_cons_zero, List.getD_cons_succ]
  rintro k ⟨hk, hp⟩
  have hb := byte_lt s k
  simp only [mkS, mkT, mkM]
  repeat' (first | ((first | apply qa1 | apply qa2 | apply qa3 | apply qh1 | apply qh2 | apply qg1 rfl | apply qcd); (try intro K hk); focus (simp only [go_sem, Nat.reduceEqDiff, Nat.reduceAdd, Nat.reduceLeDiff, Nat.reduceLT, Nat.reduceSub, Int.reduceToNat, ↓reduceIte, reduceCtorEq]; first | exact rfl | ((repeat (refine And.intro ?_ ?_; focus (first | omega | assumption | with_reducible rfl))); intros; apply hk; clear hk K))) | apply qw8 | apply qw1 | apply qw6 | apply qt1 | apply qw5 | apply qw2 | apply qw9 | apply qt2 | apply qt3 | apply qt4 | apply qt5 | apply qt6 | apply qw3 | apply qw4 | apply qj1 | apply qj2 | apply qj3 | apply qj4 | apply qj5 | apply qu1 | apply qu2 | (refine qj6 ?_ ?_ <;> intro hc <;> (try simp only [hc]) <;> (try simp only [decide_eq_true_eq, decide_eq_false_iff_not, Bool.not_eq_true', Bool.not_eq_false', Bool.not_eq_true, reduceCtorEq] at hc) <;> (try (exfalso; omega))) | (refine qt7 ?_ ?_; focus decide) | (refine qw7 ?_ ?_ ?_; (focus (decide +kernel)); (focus (decide +kernel))))
  · ((first | refine fin_ret ?_ | refine fin_end ?_); simp only [go_sem, ↓upd_def, Nat.reduceEqDiff, Nat.reduceAdd, ↓reduceIte, reduceCtorEq])
    exact K_bool hK (by unfold textB; rw [allB_f (k := k) (by omega) (by unfold okByte; rw [decide_eq_false (by omega)]; rfl), Bool.and_false])
  · ((first | refine fin_ret ?_ | refine fin_end ?_); simp only [go_sem, ↓upd_def, Nat.reduceEqDiff, Nat.reduceAdd, ↓reduceIte, reduceCtorEq])
    exact K_bool hK (by unfold textB; rw [allB_f (k := k) (by omega) (by unfold okByte; rw [decide_eq_false (p := _ ≤ 126) (by omega), Bool.and_false]), Bool.and_false])
  · refine s_again (k + 1) ?_ ?_ ?_ <;> (first | omega | (dsimp only; omega) | skip)
    · exact ⟨by omega, by rw [allB_snoc (by omega), hp]; unfold okByte; rw [decide_eq_true (by omega), decide_eq_true (by omega)]; rfl⟩
    · simp [fits, fitsT, fitsM, upd_def, PV.nmb, nmbL, MB.nmb, List.getD_cons_zero, List.getD_cons_succ]
  · ((first | refine fin_ret ?_ | refine fin_end ?_); simp only [go_sem, ↓upd_def, Nat.reduceEqDiff, Nat.reduceAdd, ↓reduceIte, reduceCtorEq])
    rw [List.take_of_length_le (by omega)] at hp
    exact K_bool hK (by unfold textB; rw [hp, decide_eq_true (by omega)]; rfl)
set_option maxHeartbeats 4000000 in
theorem text_s : PureOk Try.prog 111 (strC textB) := by
  refine pure_rel 1 tab_nil mixed [.tmp 2] Try.func111 rfl rfl (by kernel_rfl) (by kernel_rfl) (fun _ => rfl) (by kernel_rfl) ?_
  rintro s K hl hK
  unfold entry
  repeat' (first | ((first | apply qa1 | apply qa2 | apply qa3 | apply qh1 | apply qh2 | apply qg1 rfl | apply qcd); (try intro K hk); focus (simp only [go_sem, Nat.reduceEqDiff, Nat.reduceAdd, Nat.reduceLeDiff, Nat.reduceLT, Nat.reduceSub, Int.reduceToNat, ↓reduceIte, reduceCtorEq]; first | exact rfl | ((repeat (refine And.intro ?_ ?_; focus (first | omega | assumption | with_reducible rfl))); intros; apply hk; clear hk K))) | apply qw8 | apply qw1 | apply qw6 | apply qt1 | apply qw5 | apply qw2 | apply qw9 | apply qt2 | apply qt3 | apply qt4 | apply qt5 | apply qt6 | apply qw3 | apply qw4 | apply qj1 | apply qj2 | apply qj3 | apply qj4 | apply qj5 | apply qu1 | apply qu2 | (refine qj6 ?_ ?_ <;> intro hc <;> (try simp only [hc]) <;> (try simp only [decide_eq_true_eq, decide_eq_false_iff_not, Bool.not_eq_true', Bool.not_eq_false', Bool.not_eq_true, reduceCtorEq] at hc) <;> (try (exfalso; omega))) | (refine qt7 ?_ ?_; focus decide) | (refine qw7 ?_ ?_ ?_; (focus (decide +kernel)); (focus (decide +kernel))))
  refine s_loop (ι := Nat) (fun k => [(0, .str s), (2, .bool false), (3, .int .i64 k)]) (fun _ => []) 0 (fun k => k ≤ s.length ∧ allB okByte (s.take k) = true) (fun k => s.length - k) 0 (by omega) ⟨by omega, by simp [allB]⟩ ?_ ?_
  · simp [fits, fitsT, fitsM, upd_def, PV.nmb, nmbL, MB.nmb, List.getD_cons_zero, List.getD_cons_succ]
  rintro k ⟨hk, hp⟩
  have hb := byte_lt s k
  simp only [mkS, mkT, mkM]
  repeat' (first | ((first | apply qa1 | apply qa2 | apply qa3 | apply qh1 | apply qh2 | apply qg1 rfl | apply qcd); (try intro K hk); focus (simp only [go_sem, Nat.reduceEqDiff, Nat.reduceAdd, Nat.reduceLeDiff, Nat.reduceLT, Nat.reduceSub, Int.reduceToNat, ↓reduceIte, reduceCtorEq]; first | exact rfl | ((repeat (refine And.intro ?_ ?_; focus (first | omega | assumption | with_reducible rfl))); intros; apply hk; clear hk K))) | apply qw8 | apply qw1 | apply qw6 | apply qt1 | apply qw5 | apply qw2 | apply qw9 | apply qt2 | apply qt3 | apply qt4 | apply qt5 | apply qt6 | apply qw3 | apply qw4 | apply qj1 | apply qj2 | apply qj3 | apply qj4 | apply qj5 | apply qu1 | apply qu2 | (refine qj6 ?_ ?_ <;> intro hc <;> (try simp only [hc]) <;> (try simp only [decide_eq_true_eq, decide_eq_false_iff_not, Bool.not_eq_true', Bool.not_eq_false', Bool.not_eq_true, reduceCtorEq] at hc) <;> (try (exfalso; omega))) | (refine qt7 ?_ ?_; focus decide) | (refine qw7 ?_ ?_ ?_; (focus (decide +kernel)); (focus (decide +kernel))))
  · ((first | refine fin_ret ?_ | refine fin_end ?_); simp only [go_sem, ↓upd_def, Nat.reduceEqDiff, Nat.reduceAdd, ↓reduceIte, reduceCtorEq])
    exact K_bool hK (by unfold textB; rw [allB_f (k := k) (by omega) (by unfold okByte; rw [decide_eq_false (by omega)]; rfl), Bool.and_false])
  · ((first | refine fin_ret ?_ | refine fin_end ?_); simp only [go_sem, ↓upd_def, Nat.reduceEqDiff, Nat.reduceAdd, ↓reduceIte, reduceCtorEq])
    exact K_bool hK (by unfold textB; rw [allB_f (k := k) (by omega) (by unfold okByte; rw [decide_eq_false (p := _ ≤ 126) (by omega), Bool.and_false]), Bool.and_false])
  · refine s_again (k + 1) ?_ ?_ ?_ <;> (first | omega | (dsimp only; omega) | skip)
    · exact ⟨by omega, by rw [allB_snoc (by omega), hp]; unfold okByte; rw [decide_eq_true (by omega), decide_eq_true (by omega)]; rfl⟩
    · simp [fits, fitsT, fitsM, upd_def, PV.nmb, nmbL, MB.nmb, List.getD_cons_zero, List.getD_cons_succ]
  · ((first | refine fin_ret ?_ | refine fin_end ?_); simp only [go_sem, ↓upd_def, Nat.reduceEqDiff, Nat.reduceAdd, ↓reduceIte, reduceCtorEq])
    rw [List.take_of_length_le (by omega)] at hp
    exact K_bool hK (by unfold textB; rw [hp, Bool.and_true]; congr 1; simp only [eq_iff_iff]; omega)
#print axioms text_s
end Go.Proofs.Ytdedddmnacomfaa

/- Names: the program's and the reference's small functions on them. -/
namespace Go.Proofs.Ytdedddmnacomfaa
attribute [local irreducible] awp arun acalm FinP Fin AX.then AX.inBlock Again aG gsel amix amixN amixC aop aopc aopd cutK
attribute [local go_sem] aBSliceD aSlice aSliceC boundOf aMk aCall aCallC aLenL aLen aPick_t aPick_f aNil aAlloc aBox aBuild bldPV aBSlice bsPV aApp newsOf destOf drp aConvX aConv aConvInt aLoad cellsAt aStore cellsPV setAt aFld aField aIdx aIndex aUn aBin' aBin aMax aExtract pvOf PV.isCell nmbL PV.nmb List.map_cons List.map_nil List.all_cons List.all_nil Bool.and_true Bool.true_and if_true if_false List.getD_cons_zero List.getD_cons_succ List.getD_nil Option.isSome_some true_and and_true and_self eq_self true_or or_true List.drop_zero List.drop_succ_cons List.drop_nil List.take_zero List.take_succ_cons List.take_nil List.length_cons List.length_nil List.length_map Option.getD_some Option.getD_none List.nil_append List.cons_append List.append_nil Option.some.injEq exists_eq_left' List.getElem?_cons_zero List.getElem?_cons_succ Int.toNat_natCast Int.natCast_inj toNat_succ Nat.zero_add res res1 resC owns owns1 ownsC List.flatMap_cons List.flatMap_nil List.flatten_cons List.flatten_nil List.mem_cons List.not_mem_nil or_false false_or forall_eq forall_eq_or_imp isFro frz frz1 pureC tabA isBld List.cons.injEq PV.seq.injEq PV.int.injEq PV.str.injEq PV.bool.injEq PV.agg.injEq inR tab Γof aRes packR Option.map_some Option.map_none rel Prod.exists exists_and_left exists_eq_left and_assoc beq_self_eq_true Bool.not_true Bool.not_false decide_true decide_false List.set_cons_zero List.set_cons_succ rst_nil rst_cons
attribute [local go_sem ↓] evT upd_def aop aopc aopd
set_option maxRecDepth 100000
set_option linter.unusedVariables false
set_option linter.unusedSimpArgs false
open Go.RowKit
def digI (x : Int) : Bool := decide (48 ≤ x ∧ x ≤ 57)
def digC : PC := rel (α := Int) (fun x => [.int .u8 x]) (fun x => 0 ≤ x ∧ x < 256) (fun x => .bool (digI x))
theorem digI_t {x : Int} : digI x = true ↔ 48 ≤ x ∧ x ≤ 57 := by unfold digI; simp
theorem digI_f {x : Int} : digI x = false ↔ ¬ (48 ≤ x ∧ x ≤ 57) := by unfold digI; rw [decide_eq_false_iff_not]
set_option maxHeartbeats 4000000 in
theorem dig_i : PureOk Try.prog 90 digC := by
  refine pure_rel 1 tab_nil mixed [.tmp 2] Try.func90 rfl rfl (by kernel_rfl) (by kernel_rfl) (fun _ => rfl) (by kernel_rfl) ?_
  rintro x K ⟨h0, h1⟩ hK
  unfold entry
  repeat' (first | ((first | apply qa1 | apply qa2 | apply qa3 | apply qh1 | apply qh2 | apply qg1 rfl | apply qcd); (try intro K hk); focus (simp only [go_sem, Nat.reduceEqDiff, Nat.reduceAdd, Nat.reduceLeDiff, Nat.reduceLT, Nat.reduceSub, Int.reduceToNat, ↓reduceIte, reduceCtorEq]; first | exact rfl | ((repeat (refine And.intro ?_ ?_; focus (first | omega | assumption | with_reducible rfl))); intros; apply hk; clear hk K))) | apply qw8 | apply qw1 | apply qw6 | apply qt1 | apply qw5 | apply qw2 | apply qw9 | apply qt2 | apply qt3 | apply qt4 | apply qt5 | apply qt6 | apply qw3 | apply qw4 | apply qj1 | apply qj2 | apply qj3 | apply qj4 | apply qj5 | apply qu1 | apply qu2 | (refine qj6 ?_ ?_ <;> intro hc <;> (try simp only [hc]) <;> (try simp only [decide_eq_true_eq, decide_eq_false_iff_not, Bool.not_eq_true', Bool.not_eq_false', Bool.not_eq_true, reduceCtorEq] at hc) <;> (try (exfalso; omega))) | (refine qt7 ?_ ?_; focus decide) | (refine qw7 ?_ ?_ ?_; (focus (decide +kernel)); (focus (decide +kernel))))
  all_goals
    ((first | refine fin_ret ?_ | refine fin_end ?_); simp only [go_sem, ↓upd_def, Nat.reduceEqDiff, Nat.reduceAdd, ↓reduceIte, reduceCtorEq])
    exact K_bool hK (by first | exact digI_t.2 (by omega) | exact digI_f.2 (by omega) | (unfold digI; congr 1; simp only [eq_iff_iff]; omega))
set_option maxHeartbeats 4000000 in
theorem dig_s : PureOk Try.prog 89 digC := by
  refine pure_rel 1 tab_nil mixed [.tmp 2] Try.func89 rfl rfl (by kernel_rfl) (by kernel_rfl) (fun _ => rfl) (by kernel_rfl) ?_
  rintro x K ⟨h0, h1⟩ hK
  unfold entry
  repeat' (first | ((first | apply qa1 | apply qa2 | apply qa3 | apply qh1 | apply qh2 | apply qg1 rfl | apply qcd); (try intro K hk); focus (simp only [go_sem, Nat.reduceEqDiff, Nat.reduceAdd, Nat.reduceLeDiff, Nat.reduceLT, Nat.reduceSub, Int.reduceToNat, ↓reduceIte, reduceCtorEq]; first | exact rfl | ((repeat (refine And.intro ?_ ?_; focus (first | omega | assumption | with_reducible rfl))); intros; apply hk; clear hk K))) | apply qw8 | apply qw1 | apply qw6 | apply qt1 | apply qw5 | apply qw2 | apply qw9 | apply qt2 | apply qt3 | apply qt4 | apply qt5 | apply qt6 | apply qw3 | apply qw4 | apply qj1 | apply qj2 | apply qj3 | apply qj4 | apply qj5 | apply qu1 | apply qu2 | (refine qj6 ?_ ?_ <;> intro hc <;> (try simp only [hc]) <;> (try simp only [decide_eq_true_eq, decide_eq_false_iff_not, Bool.not_eq_true', Bool.not_eq_false', Bool.not_eq_true, reduceCtorEq] at hc) <;> (try (exfalso; omega))) | (refine qt7 ?_ ?_; focus decide) | (refine qw7 ?_ ?_ ?_; (focus (decide +kernel)); (focus (decide +kernel))))
  all_goals
    ((first | refine fin_ret ?_ | refine fin_end ?_); simp only [go_sem, ↓upd_def, Nat.reduceEqDiff, Nat.reduceAdd, ↓reduceIte, reduceCtorEq])
    exact K_bool hK (by first | exact digI_t.2 (by omega) | exact digI_f.2 (by omega) | (unfold digI; congr 1; simp only [eq_iff_iff]; omega))
def okNm (x : Nat) : Bool := decide ((97 ≤ x ∧ x ≤ 122) ∨ (48 ≤ x ∧ x ≤ 57) ∨ x = 45)
/-- 1..10 bytes, the first one a small letter, the others small letters, digits, minus signs. -/
def nameB (s : List UInt8) : Bool := decide (1 ≤ s.length ∧ s.length ≤ 10 ∧ 97 ≤ (s.getD 0 0).toNat ∧ (s.getD 0 0).toNat ≤ 122) && allB okNm s
theorem okNm_t {x : Nat} (h : (97 ≤ x ∧ x ≤ 122) ∨ (48 ≤ x ∧ x ≤ 57) ∨ x = 45) : okNm x = true := decide_eq_true h
theorem okNm_f {x : Nat} (h : ¬ ((97 ≤ x ∧ x ≤ 122) ∨ (48 ≤ x ∧ x ≤ 57) ∨ x = 45)) : okNm x = false := decide_eq_false h
set_option maxHeartbeats 8000000 in
theorem name_i : PureOk Try.prog 58 (strC nameB) := by
  refine pure_rel 1 (tab_cons dig_i tab_nil) mixed [.tmp 2] Try.func58 rfl rfl (by kernel_rfl) (by kernel_rfl) (fun _ => rfl) (by kernel_rfl) ?_
  rintro s K hl hK
  unfold entry
  repeat' (first | ((first | apply qa1 | apply qa2 | apply qa3 | apply qh1 | apply qh2 | apply qg1 rfl | apply qcd); (try intro K hk); focus (simp only [go_sem, Nat.reduceEqDiff, Nat.reduceAdd, Nat.reduceLeDiff, Nat.reduceLT, Nat.reduceSub, Int.reduceToNat, ↓reduceIte, reduceCtorEq]; first | exact rfl | ((repeat (refine And.intro ?_ ?_; focus (first | omega | assumption | with_reducible rfl))); intros; apply hk; clear hk K))) | apply qw8 | apply qw1 | apply qw6 | apply qt1 | apply qw5 | apply qw2 | apply qw9 | apply qt2 | apply qt3 | apply qt4 | apply qt5 | apply qt6 | apply qw3 | apply qw4 | apply qj1 | apply qj2 | apply qj3 | apply qj4 | apply qj5 | apply qu1 | apply qu2 | (refine qj6 ?_ ?_ <;> intro hc <;> (try simp only [hc]) <;> (try simp only [decide_eq_true_eq, decide_eq_false_iff_not, Bool.not_eq_true', Bool.not_eq_false', Bool.not_eq_true, reduceCtorEq] at hc) <;> (try (exfalso; omega))) | (refine qt7 ?_ ?_; focus decide) | (refine qw7 ?_ ?_ ?_; (focus (decide +kernel)); (focus (decide +kernel))))
  all_goals (first
    | (((first | refine fin_ret ?_ | refine fin_end ?_); simp only [go_sem, ↓upd_def, Nat.reduceEqDiff, Nat.reduceAdd, ↓reduceIte, reduceCtorEq])
       exact K_bool hK (by unfold nameB; rw [decide_eq_false (by omega)]; rfl))
    | skip)
  refine s_loop (ι := Nat) (fun k => [(0, .str s), (2, .bool false), (3, .int .i64 k)]) (fun _ => []) 0 (fun k => k ≤ s.length ∧ allB okNm (s.take k) = true) (fun k => s.length - k) 0 (by omega) ⟨by omega, by simp [allB]⟩ ?_ ?_
  · simp [fits, fitsT, fitsM, upd_def, PV.nmb, nmbL, MB.nmb, List.getD_cons_zero, List.getD_cons_succ]
  rintro k ⟨hk, hp⟩
  have hb := byte_lt s k
  simp only [mkS, mkT, mkM]
  repeat' (first | ((first | apply qa1 | apply qa2 | apply qa3 | apply qh1 | apply qh2 | apply qg1 rfl | apply qcd); (try intro K hk); focus (simp only [go_sem, Nat.reduceEqDiff, Nat.reduceAdd, Nat.reduceLeDiff, Nat.reduceLT, Nat.reduceSub, Int.reduceToNat, ↓reduceIte, reduceCtorEq, digC]; first | exact rfl | ((repeat (refine And.intro ?_ ?_; focus (first | omega | assumption | with_reducible rfl))); intros; apply hk; clear hk K))) | apply qw8 | apply qw1 | apply qw6 | apply qt1 | apply qw5 | apply qw2 | apply qw9 | apply qt2 | apply qt3 | apply qt4 | apply qt5 | apply qt6 | apply qw3 | apply qw4 | apply qj1 | apply qj2 | apply qj3 | apply qj4 | apply qj5 | apply qu1 | apply qu2 | (refine qj6 ?_ ?_ <;> intro hc <;> (try simp only [hc]) <;> (try simp only [decide_eq_true_eq, decide_eq_false_iff_not, Bool.not_eq_true', Bool.not_eq_false', Bool.not_eq_true, reduceCtorEq] at hc) <;> (try (exfalso; omega))) | (refine qt7 ?_ ?_; focus decide) | (refine qw7 ?_ ?_ ?_; (focus (decide +kernel)); (focus (decide +kernel))))
  all_goals (try have d1 := digI_t.1 ‹_›)
  all_goals (try have d2 := digI_f.1 ‹_›)
  all_goals first
    | (exfalso; omega)
    | (refine s_again (k + 1) ?_ ?_ ?_ <;> (first | omega | (dsimp only; omega) | skip)
       · exact ⟨by omega, by rw [allB_snoc (by omega), hp, okNm_t (x := (s.getD k 0).toNat) (by omega)]; try rfl⟩
       · simp [fits, fitsT, fitsM, upd_def, PV.nmb, nmbL, MB.nmb, List.getD_cons_zero, List.getD_cons_succ]
       done)
    | (((first | refine fin_ret ?_ | refine fin_end ?_); simp only [go_sem, ↓upd_def, Nat.reduceEqDiff, Nat.reduceAdd, ↓reduceIte, reduceCtorEq])
       exact K_bool hK (by unfold nameB; rw [allB_f (k := k) (by omega) (okNm_f (x := (s.getD k 0).toNat) (by omega)), Bool.and_false]))
    | (((first | refine fin_ret ?_ | refine fin_end ?_); simp only [go_sem, ↓upd_def, Nat.reduceEqDiff, Nat.reduceAdd, ↓reduceIte, reduceCtorEq])
       rw [List.take_of_length_le (by omega)] at hp
       exact K_bool hK (by unfold nameB; rw [hp, decide_eq_true (by omega)]; rfl))
end Go.Proofs.Ytdedddmnacomfaa

/- The machine of modes, as data: states, one step, many steps. No program. -/
namespace Go.Proofs.Ytdedddmnacomfaa
set_option maxRecDepth 100000
set_option linter.unusedVariables false
set_option linter.unusedSimpArgs false
open Go.RowKit
structure St where
  mode : Int
  tag : Bs
  attr : Bs
  seen : Bool
  deriving DecidableEq
def encS (s : St) : List PV := [.int .i64 s.mode, .str s.tag, .str s.attr, .bool s.seen]
@[go_sem] theorem encS_mk (m : Int) (t a : Bs) (b : Bool) : encS ⟨m, t, a, b⟩ = [.int .i64 m, .str t, .str a, .bool b] := rfl
@[go_sem] theorem encS_iff {s t : St} : encS s = encS t ↔ s = t := by
  constructor
  · intro h
    cases s; cases t
    simp only [encS, List.cons.injEq, PV.int.injEq, PV.str.injEq, PV.bool.injEq, true_and, and_true] at h
    obtain ⟨rfl, rfl, rfl, rfl⟩ := h
    rfl
  · rintro rfl; rfl
def bad : St := ⟨15, [], [], false⟩
def st0 : St := ⟨0, [], [], false⟩
def tagOk (s : St) : Bool := if 2 ≤ s.mode ∧ s.mode ≤ 8 then nameB s.tag else if s.mode = 9 then decide (s.tag = []) || nameB s.tag else decide (s.tag = [])
def attrOk (s : St) : Bool := if 4 ≤ s.mode ∧ s.mode ≤ 8 then nameB s.attr else decide (s.attr = [])
def seenOk (s : St) : Bool := if s.mode = 6 ∨ s.mode = 7 then true else if s.mode = 8 then s.seen else !s.seen
def stV (s : St) : Bool := decide (0 ≤ s.mode ∧ s.mode ≤ 15) && tagOk s && attrOk s && seenOk s
def nmByte (b : UInt8) : Bool := isLet b || isDig b || decide (b.toNat = 45)
def bareB (b : UInt8) : Bool := isLet b || isDig b || hasB [45, 95, 46, 47, 58] b
def script : Bs := [115, 99, 114, 105, 112, 116]
def longT (s : St) (b : UInt8) : St := if s.tag.length + 1 > 10 then bad else ⟨s.mode, s.tag ++ [low1 b], s.attr, s.seen⟩
def longA (s : St) (b : UInt8) : St := if s.attr.length + 1 > 10 then bad else ⟨s.mode, s.tag, s.attr ++ [low1 b], s.seen⟩
def stepTagM (s : St) (b : UInt8) : St :=
  if b.toNat = 62 then (if s.tag = script then ⟨11, [], [], false⟩ else st0)
  else if b.toNat = 32 then ⟨3, s.tag, [], false⟩
  else if s.mode = 2 ∧ nmByte b = true then longT s b
  else if s.mode = 3 ∧ isLet b = true then longA ⟨4, s.tag, s.attr, s.seen⟩ b
  else if s.mode = 4 ∧ nmByte b = true then longA s b
  else if s.mode = 4 ∧ b.toNat = 61 then ⟨5, s.tag, s.attr, s.seen⟩
  else if s.mode = 8 ∧ bareB b = true then s
  else bad
def stepV (s : St) (b : UInt8) : St :=
  if s.mode = 0 then (if b.toNat = 60 then ⟨1, [], [], false⟩ else st0)
  else if s.mode = 1 then (if isLet b = true then ⟨2, [low1 b], [], false⟩ else if b.toNat = 47 then ⟨9, [], [], false⟩ else if b.toNat = 33 then ⟨10, [], [], false⟩ else bad)
  else if s.mode = 2 ∨ s.mode = 3 ∨ s.mode = 4 ∨ s.mode = 8 then stepTagM s b
  else if s.mode = 5 then (if b.toNat = 34 then ⟨6, s.tag, s.attr, false⟩ else if b.toNat = 39 then ⟨7, s.tag, s.attr, false⟩ else if bareB b = true then ⟨8, s.tag, s.attr, true⟩ else bad)
  else if s.mode = 6 then (if b.toNat = 34 then ⟨3, s.tag, [], false⟩ else ⟨6, s.tag, s.attr, true⟩)
  else if s.mode = 7 then (if b.toNat = 39 then ⟨3, s.tag, [], false⟩ else ⟨7, s.tag, s.attr, true⟩)
  else if s.mode = 9 then (if b.toNat = 62 ∧ s.tag ≠ [] then st0 else if isLet b = true ∨ s.tag ≠ [] ∧ (isDig b = true ∨ b.toNat = 45) then longT s b else bad)
  else if s.mode = 10 then (if b.toNat = 62 then st0 else s)
  else if s.mode = 11 then (if b.toNat = 60 then ⟨14, [], [], false⟩ else if b.toNat = 34 then ⟨12, [], [], false⟩ else ⟨11, [], [], false⟩)
  else if s.mode = 14 then (if b.toNat = 60 then ⟨14, [], [], false⟩ else if b.toNat = 34 then ⟨12, [], [], false⟩ else if b.toNat = 47 then ⟨9, [], [], false⟩ else ⟨11, [], [], false⟩)
  else if s.mode = 12 then (if b.toNat = 34 then ⟨11, [], [], false⟩ else if b.toNat = 92 then ⟨13, [], [], false⟩ else if b.toNat = 60 then bad else ⟨12, [], [], false⟩)
  else if s.mode = 13 then (if b.toNat = 60 then bad else ⟨12, [], [], false⟩)
  else bad
def step (s : St) (b : UInt8) : St := if stV s = true then stepV s b else bad
def run (s : St) (t : Bs) : St := t.foldl step s
theorem nameB_len {s : Bs} (h : nameB s = true) : 1 ≤ s.length ∧ s.length ≤ 10 := by
  unfold nameB at h
  simp only [Bool.and_eq_true, decide_eq_true_eq] at h
  exact ⟨h.1.1, h.1.2.1⟩
section
variable {s : St} {b : UInt8}
end
end Go.Proofs.Ytdedddmnacomfaa
