/- What the program's tables say of its types. -/
import Derived.Test.YtcagfbgplpokkaaZF12
import Derived.Test.YtcagfbgplpokkaaRows

namespace Go.Proofs.Ytcagfbgplpokkaa
set_option maxRecDepth 100000
set_option linter.unusedVariables false
set_option linter.unusedSimpArgs false
open Go.RowKit
theorem mixed : Try.prog.follows .mixedOrders = true := by kernel_rfl
@[go_sem] theorem ty_ag3 : aggOf Try.prog 3 = some none := by kernel_rfl
@[go_sem] theorem ty_ze3 : zeroOf Try.prog 3 = some [.int .i64 0] := by kernel_rfl
@[go_sem] theorem ty_kd3 : kindOf Try.prog 3 = some (.inl .i64) := by kernel_rfl
@[go_sem] theorem ty_ag4 : aggOf Try.prog 4 = some none := by kernel_rfl
@[go_sem] theorem ty_ze4 : zeroOf Try.prog 4 = some [.bool false] := by kernel_rfl
@[go_sem] theorem ty_un4 : Try.prog.underlying 4 = some .bool := by kernel_rfl
@[go_sem] theorem ty_ag5 : aggOf Try.prog 5 = some none := by kernel_rfl
@[go_sem] theorem ty_ze5 : zeroOf Try.prog 5 = some [.int .u8 0] := by kernel_rfl
@[go_sem] theorem ty_kd5 : kindOf Try.prog 5 = some (.inl .u8) := by kernel_rfl
@[go_sem] theorem ty_ag9 : aggOf Try.prog 9 = some none := by kernel_rfl
@[go_sem] theorem ty_ze9 : zeroOf Try.prog 9 = some [.str []] := by kernel_rfl
@[go_sem] theorem ty_kd9 : kindOf Try.prog 9 = some (.inr .str) := by kernel_rfl
@[go_sem] theorem ty_un9 : Try.prog.underlying 9 = some .string := by kernel_rfl
@[go_sem] theorem ty_el22 : elOf Try.prog 22 = some (86, 2, 24) := by kernel_rfl
@[go_sem] theorem ty_ag22 : aggOf Try.prog 22 = some none := by kernel_rfl
@[go_sem] theorem ty_el24 : elOf Try.prog 24 = some (9, 1, 16) := by kernel_rfl
@[go_sem] theorem ty_ag24 : aggOf Try.prog 24 = some none := by kernel_rfl
@[go_sem] theorem ty_el26 : elOf Try.prog 26 = some (87, 2, 24) := by kernel_rfl
@[go_sem] theorem ty_ag26 : aggOf Try.prog 26 = some none := by kernel_rfl
@[go_sem] theorem ty_ag34 : aggOf Try.prog 34 = some (some 2) := by kernel_rfl
@[go_sem] theorem ty_ze34 : zeroOf Try.prog 34 = some [.str [], .str []] := by kernel_rfl
@[go_sem] theorem ty_pl34 : plOf Try.prog 34 = some [(0, 1), (1, 1)] := by kernel_rfl
@[go_sem] theorem ty_fl34_0 : fldOf Try.prog 34 0 = some (0, true) := by kernel_rfl
@[go_sem] theorem ty_fl34_1 : fldOf Try.prog 34 1 = some (1, true) := by kernel_rfl
@[go_sem] theorem ty_ek34 : eksOf Try.prog 34 = some [.s, .s] := by kernel_rfl
@[go_sem] theorem ty_ag37 : aggOf Try.prog 37 = some (some 2) := by kernel_rfl
@[go_sem] theorem ty_ze37 : zeroOf Try.prog 37 = some [.str [], .str []] := by kernel_rfl
@[go_sem] theorem ty_pl37 : plOf Try.prog 37 = some [(0, 1), (1, 1)] := by kernel_rfl
@[go_sem] theorem ty_fl37_0 : fldOf Try.prog 37 0 = some (0, true) := by kernel_rfl
@[go_sem] theorem ty_fl37_1 : fldOf Try.prog 37 1 = some (1, true) := by kernel_rfl
@[go_sem] theorem ty_ek37 : eksOf Try.prog 37 = some [.s, .s] := by kernel_rfl
@[go_sem] theorem ty_el40 : elOf Try.prog 40 = some (5, 1, 1) := by kernel_rfl
@[go_sem] theorem ty_ag40 : aggOf Try.prog 40 = some none := by kernel_rfl
@[go_sem] theorem ty_kd40 : kindOf Try.prog 40 = some (.inr .bytes) := by kernel_rfl
@[go_sem] theorem ty_ag47 : aggOf Try.prog 47 = some (some 4) := by kernel_rfl
@[go_sem] theorem ty_ze47 : zeroOf Try.prog 47 = some [.int .i64 0, .str [], .str [], .bool false] := by kernel_rfl
@[go_sem] theorem ty_pl47 : plOf Try.prog 47 = some [(0, 1), (1, 1), (2, 1), (3, 1)] := by kernel_rfl
@[go_sem] theorem ty_fl47_0 : fldOf Try.prog 47 0 = some (0, true) := by kernel_rfl
@[go_sem] theorem ty_fl47_1 : fldOf Try.prog 47 1 = some (1, true) := by kernel_rfl
@[go_sem] theorem ty_fl47_2 : fldOf Try.prog 47 2 = some (2, true) := by kernel_rfl
@[go_sem] theorem ty_fl47_3 : fldOf Try.prog 47 3 = some (3, true) := by kernel_rfl
@[go_sem] theorem ty_ek47 : eksOf Try.prog 47 = some [.i, .s, .s, .b] := by kernel_rfl
@[go_sem] theorem ty_el53 : elOf Try.prog 53 = some (99, 5, 88) := by kernel_rfl
@[go_sem] theorem ty_ag53 : aggOf Try.prog 53 = some none := by kernel_rfl
@[go_sem] theorem ty_el56 : elOf Try.prog 56 = some (80, 5, 88) := by kernel_rfl
@[go_sem] theorem ty_ag56 : aggOf Try.prog 56 = some none := by kernel_rfl
@[go_sem] theorem ty_ag67 : aggOf Try.prog 67 = some (some 4) := by kernel_rfl
@[go_sem] theorem ty_ze67 : zeroOf Try.prog 67 = some [.int .i64 0, .str [], .str [], .bool false] := by kernel_rfl
@[go_sem] theorem ty_pl67 : plOf Try.prog 67 = some [(0, 1), (1, 1), (2, 1), (3, 1)] := by kernel_rfl
@[go_sem] theorem ty_fl67_0 : fldOf Try.prog 67 0 = some (0, true) := by kernel_rfl
@[go_sem] theorem ty_fl67_1 : fldOf Try.prog 67 1 = some (1, true) := by kernel_rfl
@[go_sem] theorem ty_fl67_2 : fldOf Try.prog 67 2 = some (2, true) := by kernel_rfl
@[go_sem] theorem ty_fl67_3 : fldOf Try.prog 67 3 = some (3, true) := by kernel_rfl
@[go_sem] theorem ty_ek67 : eksOf Try.prog 67 = some [.i, .s, .s, .b] := by kernel_rfl
@[go_sem] theorem ty_ag80 : aggOf Try.prog 80 = some (some 5) := by kernel_rfl
@[go_sem] theorem ty_ze80 : zeroOf Try.prog 80 = some [.int .i64 0, .str [], .str [], .nil, .nil] := by kernel_rfl
@[go_sem] theorem ty_pl80 : plOf Try.prog 80 = some [(0, 1), (1, 1), (2, 1), (3, 1), (4, 1)] := by kernel_rfl
@[go_sem] theorem ty_fl80_0 : fldOf Try.prog 80 0 = some (0, true) := by kernel_rfl
@[go_sem] theorem ty_fl80_1 : fldOf Try.prog 80 1 = some (1, true) := by kernel_rfl
@[go_sem] theorem ty_fl80_2 : fldOf Try.prog 80 2 = some (2, true) := by kernel_rfl
@[go_sem] theorem ty_fl80_3 : fldOf Try.prog 80 3 = some (3, true) := by kernel_rfl
@[go_sem] theorem ty_fl80_4 : fldOf Try.prog 80 4 = some (4, true) := by kernel_rfl
@[go_sem] theorem ty_ag86 : aggOf Try.prog 86 = some (some 2) := by kernel_rfl
@[go_sem] theorem ty_ze86 : zeroOf Try.prog 86 = some [.int .i64 0, .str []] := by kernel_rfl
@[go_sem] theorem ty_pl86 : plOf Try.prog 86 = some [(0, 1), (1, 1)] := by kernel_rfl
@[go_sem] theorem ty_fl86_0 : fldOf Try.prog 86 0 = some (0, true) := by kernel_rfl
@[go_sem] theorem ty_fl86_1 : fldOf Try.prog 86 1 = some (1, true) := by kernel_rfl
@[go_sem] theorem ty_ek86 : eksOf Try.prog 86 = some [.i, .s] := by kernel_rfl
@[go_sem] theorem ty_ag87 : aggOf Try.prog 87 = some (some 2) := by kernel_rfl
@[go_sem] theorem ty_ze87 : zeroOf Try.prog 87 = some [.int .i64 0, .str []] := by kernel_rfl
@[go_sem] theorem ty_pl87 : plOf Try.prog 87 = some [(0, 1), (1, 1)] := by kernel_rfl
@[go_sem] theorem ty_fl87_0 : fldOf Try.prog 87 0 = some (0, true) := by kernel_rfl
@[go_sem] theorem ty_fl87_1 : fldOf Try.prog 87 1 = some (1, true) := by kernel_rfl
@[go_sem] theorem ty_ek87 : eksOf Try.prog 87 = some [.i, .s] := by kernel_rfl
@[go_sem] theorem ty_ag99 : aggOf Try.prog 99 = some (some 5) := by kernel_rfl
@[go_sem] theorem ty_ze99 : zeroOf Try.prog 99 = some [.int .i64 0, .str [], .str [], .nil, .nil] := by kernel_rfl
@[go_sem] theorem ty_pl99 : plOf Try.prog 99 = some [(0, 1), (1, 1), (2, 1), (3, 1), (4, 1)] := by kernel_rfl
@[go_sem] theorem ty_fl99_0 : fldOf Try.prog 99 0 = some (0, true) := by kernel_rfl
@[go_sem] theorem ty_fl99_1 : fldOf Try.prog 99 1 = some (1, true) := by kernel_rfl
@[go_sem] theorem ty_fl99_2 : fldOf Try.prog 99 2 = some (2, true) := by kernel_rfl
@[go_sem] theorem ty_fl99_3 : fldOf Try.prog 99 3 = some (3, true) := by kernel_rfl
@[go_sem] theorem ty_fl99_4 : fldOf Try.prog 99 4 = some (4, true) := by kernel_rfl
@[go_sem] theorem ty_el103 : elOf Try.prog 103 = some (3, 1, 8) := by kernel_rfl
@[go_sem] theorem ty_ag103 : aggOf Try.prog 103 = some none := by kernel_rfl
@[go_sem] theorem ty_ag117 : aggOf Try.prog 117 = some (some 2) := by kernel_rfl
@[go_sem] theorem ty_ze117 : zeroOf Try.prog 117 = some [.nil, .int .i64 0] := by kernel_rfl
@[go_sem] theorem ty_pl117 : plOf Try.prog 117 = some [(0, 1), (1, 1)] := by kernel_rfl
@[go_sem] theorem ty_fl117_0 : fldOf Try.prog 117 0 = some (0, true) := by kernel_rfl
@[go_sem] theorem ty_fl117_1 : fldOf Try.prog 117 1 = some (1, true) := by kernel_rfl
@[go_sem] theorem ty_ze124 : zeroOf Try.prog 124 = some [.raw (.pointer none), .nil] := by kernel_rfl
@[go_sem] theorem ty_bl124 : bldT Try.prog 124 = some 5 := by kernel_rfl
end Go.Proofs.Ytcagfbgplpokkaa

/- Texts: the program's and the reference's small functions on them. -/
namespace Go.Proofs.Ytcagfbgplpokkaa
attribute [local irreducible] awp arun acalm FinP Fin AX.then AX.inBlock Again aG gsel amix amixN amixC aop aopc aopd cutK
attribute [local go_sem] aop aopc aopd aBSliceD aSlice aSliceC boundOf aMk evT upd_def aCall aCallC aLenL aLen aPick_t aPick_f aNil aAlloc aBox aBuild bldPV aBSlice bsPV aApp newsOf destOf drp aConvX aConv aConvInt aLoad cellsAt aStore cellsPV setAt aFld aField aIdx aIndex aUn aBin' aBin aMax aExtract pvOf PV.isCell nmbL PV.nmb List.map_cons List.map_nil List.all_cons List.all_nil Bool.and_true Bool.true_and if_true if_false List.getD_cons_zero List.getD_cons_succ List.getD_nil Option.isSome_some true_and and_true and_self eq_self true_or or_true List.drop_zero List.drop_succ_cons List.drop_nil List.take_zero List.take_succ_cons List.take_nil List.length_cons List.length_nil List.length_map Option.getD_some Option.getD_none List.nil_append List.cons_append List.append_nil Option.some.injEq exists_eq_left' List.getElem?_cons_zero List.getElem?_cons_succ Int.toNat_natCast Int.natCast_inj toNat_succ Nat.zero_add res res1 resC owns owns1 ownsC List.flatMap_cons List.flatMap_nil List.flatten_cons List.flatten_nil List.mem_cons List.not_mem_nil or_false false_or forall_eq forall_eq_or_imp isFro frz frz1 pureC tabA isBld List.cons.injEq PV.seq.injEq PV.int.injEq PV.str.injEq PV.bool.injEq PV.agg.injEq inR tab Γof aRes packR Option.map_some Option.map_none rel Prod.exists exists_and_left exists_eq_left and_assoc beq_self_eq_true Bool.not_true Bool.not_false decide_true decide_false List.set_cons_zero List.set_cons_succ rst_nil rst_cons
set_option maxRecDepth 100000
set_option linter.unusedVariables false
set_option linter.unusedSimpArgs false
open Go.RowKit
def allB (p : Nat → Bool) (s : List UInt8) : Bool := s.all fun b => p b.toNat
theorem allB_snoc {p : Nat → Bool} {s : List UInt8} {k : Nat} (h : k < s.length) : allB p (s.take (k + 1)) = (allB p (s.take k) && p (s.getD k 0).toNat) := by
  unfold allB
  rw [List.take_succ_eq_append_getElem h, List.all_append]
  simp [List.getD_eq_getElem?_getD, List.getElem?_eq_getElem h]
theorem allB_f {p : Nat → Bool} {s : List UInt8} {k : Nat} (h : k < s.length) (hp : p (s.getD k 0).toNat = false) : allB p s = false := by
  unfold allB
  rw [List.all_eq_false]
  refine ⟨s[k], List.getElem_mem h, ?_⟩
  simp [List.getD_eq_getElem?_getD, List.getElem?_eq_getElem h] at hp
  simp [hp]
def okByte (x : Nat) : Bool := decide (32 ≤ x) && decide (x ≤ 126)
/-- At most 600 bytes, each in 32..126. -/
def textB (s : List UInt8) : Bool := decide (s.length ≤ 600) && allB okByte s
theorem byte_lt (s : List UInt8) (k : Nat) : (s.getD k 0).toNat < 256 := (s.getD k 0).toNat_lt
@[go_sem] def strC (f : List UInt8 → Bool) : PC := rel (α := List UInt8) (fun s => [.str s]) (fun s => s.length ≤ 9223372036854775807) (fun s => .bool (f s))
set_option maxHeartbeats 4000000 in
theorem text_s : PureOk Try.prog 157 (strC textB) := by
  refine pure_rel 1 tab_nil mixed [.tmp 2] Try.func157 rfl rfl (by kernel_rfl) (by kernel_rfl) (fun _ => rfl) (by kernel_rfl) ?_
  rintro s K hl hK
  unfold entry
  repeat' (first | refine qw8 ?_ | refine qw1 ?_ | refine qw6 ?_ | refine qt1 ?_ | refine qw5 ?_ | refine qw2 ?_ | refine qw9 ?_ | refine qt2 ?_ | refine qt3 ?_ | refine qt4 ?_ | refine qt5 ?_ | refine qt6 ?_ | refine qw3 ?_ | refine qw4 ?_ | refine qj1 ?_ | refine qj2 ?_ | refine qj3 ?_ | refine qj4 ?_ | refine qj5 ?_ | refine qu1 ?_ | refine qu2 ?_ | refine qne ?_ | refine qyn ?_ | refine qyz ?_ | refine qy0 ?_ | refine qnt rfl rfl ?_ | refine qnf rfl rfl ?_ | refine qyc rfl ?_ | refine qy1 rfl ?_ | refine qy2 rfl ?_ ?_ | ((first | refine qa1 fun K hk => ?_ | refine qa2 fun K hk => ?_ | refine qa3 fun K hk => ?_ | refine qh1 fun K hk => ?_ | refine qh2 fun K hk => ?_ | refine qm1 fun K hk => ?_ | refine qm2 fun K hk => ?_ | refine qm3 fun K hk => ?_); simp only [go_sem, ↓upd_def, ↓evT, ↓aop, ↓aopc, ↓aopd, Nat.reduceEqDiff, Nat.reduceAdd, Nat.reduceLeDiff, Nat.reduceLT, Nat.reduceSub, Int.reduceToNat, ↓reduceIte, reduceCtorEq]; (repeat (refine And.intro ?_ ?_; focus (first | omega | assumption | with_reducible rfl | (simp only [go_sem, ↓upd_def, ↓evT, ↓aop, ↓aopc, ↓aopd, Nat.reduceEqDiff, Nat.reduceAdd, Nat.reduceLeDiff, Nat.reduceLT, Nat.reduceSub, Int.reduceToNat, ↓reduceIte, reduceCtorEq]; done)))); intros; apply hk; clear hk K) | ((first | apply qg1 rfl | apply qcd); focus (simp only [go_sem, ↓upd_def, ↓evT, ↓aop, ↓aopc, ↓aopd, Nat.reduceEqDiff, Nat.reduceAdd, Nat.reduceLeDiff, Nat.reduceLT, Nat.reduceSub, Int.reduceToNat, ↓reduceIte, reduceCtorEq]; exact rfl)) | (refine qj6 ?_ ?_ <;> intro hc <;> (try simp only [hc]) <;> (try simp only [decide_eq_true_eq, decide_eq_false_iff_not, Bool.not_eq_true', Bool.not_eq_false', Bool.not_eq_true, reduceCtorEq] at hc) <;> (try (exfalso; omega))) | (refine qk1 ?_ ?_; focus (repeat (first | exact qsub0 | (refine qsub1 ?_ ?_; focus (simp only [go_sem, ↓upd_def, ↓evT, ↓aop, ↓aopc, ↓aopd, Nat.reduceEqDiff, Nat.reduceAdd, Nat.reduceLeDiff, Nat.reduceLT, Nat.reduceSub, Int.reduceToNat, ↓reduceIte, reduceCtorEq]))))) | (refine qt7 ?_ ?_; focus decide) | (refine qw7 ?_ ?_ ?_; (focus (decide +kernel)); (focus (decide +kernel))))
  refine s_loop (ι := Nat) (fun k => [(0, .str s), (2, .bool false), (3, .int .i64 k)]) (fun _ => []) 0 (fun k => k ≤ s.length ∧ allB okByte (s.take k) = true) (fun k => s.length - k) 0 (by omega) ⟨by omega, by simp [allB]⟩ ?_ ?_
  · simp [fits, fitsT, fitsM, upd_def, PV.nmb, nmbL, MB.nmb, List.getD_cons_zero, List.getD_cons_succ]
  rintro k ⟨hk, hp⟩
  have hb := byte_lt s k
  simp only [mkS, mkT, mkM]
  repeat' (first | refine qw8 ?_ | refine qw1 ?_ | refine qw6 ?_ | refine qt1 ?_ | refine qw5 ?_ | refine qw2 ?_ | refine qw9 ?_ | refine qt2 ?_ | refine qt3 ?_ | refine qt4 ?_ | refine qt5 ?_ | refine qt6 ?_ | refine qw3 ?_ | refine qw4 ?_ | refine qj1 ?_ | refine qj2 ?_ | refine qj3 ?_ | refine qj4 ?_ | refine qj5 ?_ | refine qu1 ?_ | refine qu2 ?_ | refine qne ?_ | refine qyn ?_ | refine qyz ?_ | refine qy0 ?_ | refine qnt rfl rfl ?_ | refine qnf rfl rfl ?_ | refine qyc rfl ?_ | refine qy1 rfl ?_ | refine qy2 rfl ?_ ?_ | ((first | refine qa1 fun K hk => ?_ | refine qa2 fun K hk => ?_ | refine qa3 fun K hk => ?_ | refine qh1 fun K hk => ?_ | refine qh2 fun K hk => ?_ | refine qm1 fun K hk => ?_ | refine qm2 fun K hk => ?_ | refine qm3 fun K hk => ?_); simp only [go_sem, ↓upd_def, ↓evT, ↓aop, ↓aopc, ↓aopd, Nat.reduceEqDiff, Nat.reduceAdd, Nat.reduceLeDiff, Nat.reduceLT, Nat.reduceSub, Int.reduceToNat, ↓reduceIte, reduceCtorEq]; (repeat (refine And.intro ?_ ?_; focus (first | omega | assumption | with_reducible rfl | (simp only [go_sem, ↓upd_def, ↓evT, ↓aop, ↓aopc, ↓aopd, Nat.reduceEqDiff, Nat.reduceAdd, Nat.reduceLeDiff, Nat.reduceLT, Nat.reduceSub, Int.reduceToNat, ↓reduceIte, reduceCtorEq]; done)))); intros; apply hk; clear hk K) | ((first | apply qg1 rfl | apply qcd); focus (simp only [go_sem, ↓upd_def, ↓evT, ↓aop, ↓aopc, ↓aopd, Nat.reduceEqDiff, Nat.reduceAdd, Nat.reduceLeDiff, Nat.reduceLT, Nat.reduceSub, Int.reduceToNat, ↓reduceIte, reduceCtorEq]; exact rfl)) | (refine qj6 ?_ ?_ <;> intro hc <;> (try simp only [hc]) <;> (try simp only [decide_eq_true_eq, decide_eq_false_iff_not, Bool.not_eq_true', Bool.not_eq_false', Bool.not_eq_true, reduceCtorEq] at hc) <;> (try (exfalso; omega))) | (refine qk1 ?_ ?_; focus (repeat (first | exact qsub0 | (refine qsub1 ?_ ?_; focus (simp only [go_sem, ↓upd_def, ↓evT, ↓aop, ↓aopc, ↓aopd, Nat.reduceEqDiff, Nat.reduceAdd, Nat.reduceLeDiff, Nat.reduceLT, Nat.reduceSub, Int.reduceToNat, ↓reduceIte, reduceCtorEq]))))) | (refine qt7 ?_ ?_; focus decide) | (refine qw7 ?_ ?_ ?_; (focus (decide +kernel)); (focus (decide +kernel))))
  · ((first | refine fin_ret ?_ | refine fin_end ?_); simp only [go_sem, ↓upd_def, Nat.reduceEqDiff, Nat.reduceAdd, ↓reduceIte, reduceCtorEq])
    exact K_bool hK (by unfold textB; rw [allB_f (k := k) (by omega) (by unfold okByte; rw [decide_eq_false (by omega)]; rfl), Bool.and_false])
  · ((first | refine fin_ret ?_ | refine fin_end ?_); simp only [go_sem, ↓upd_def, Nat.reduceEqDiff, Nat.reduceAdd, ↓reduceIte, reduceCtorEq])
    exact K_bool hK (by unfold textB; rw [allB_f (k := k) (by omega) (by unfold okByte; rw [decide_eq_false (p := _ ≤ 126) (by omega), Bool.and_false]), Bool.and_false])
  · refine s_again (k + 1) ?_ ?_ ?_ <;> (first | omega | (dsimp only; omega) | skip)
    · exact ⟨by omega, by rw [allB_snoc (by omega), hp]; unfold okByte; rw [decide_eq_true (by omega), decide_eq_true (by omega)]; rfl⟩
    · simp [fits, fitsT, fitsM, upd_def, PV.nmb, nmbL, MB.nmb, List.getD_cons_zero, List.getD_cons_succ]
  · ((first | refine fin_ret ?_ | refine fin_end ?_); simp only [go_sem, ↓upd_def, Nat.reduceEqDiff, Nat.reduceAdd, ↓reduceIte, reduceCtorEq])
    rw [List.take_of_length_le (by omega)] at hp
    exact K_bool hK (by unfold textB; rw [hp, Bool.and_true]; congr 1; simp only [eq_iff_iff]; omega)
#print axioms text_s
end Go.Proofs.Ytcagfbgplpokkaa

/- Names: the program's and the reference's small functions on them. -/
namespace Go.Proofs.Ytcagfbgplpokkaa
attribute [local irreducible] awp arun acalm FinP Fin AX.then AX.inBlock Again aG gsel amix amixN amixC aop aopc aopd cutK
attribute [local go_sem] aop aopc aopd aBSliceD aSlice aSliceC boundOf aMk evT upd_def aCall aCallC aLenL aLen aPick_t aPick_f aNil aAlloc aBox aBuild bldPV aBSlice bsPV aApp newsOf destOf drp aConvX aConv aConvInt aLoad cellsAt aStore cellsPV setAt aFld aField aIdx aIndex aUn aBin' aBin aMax aExtract pvOf PV.isCell nmbL PV.nmb List.map_cons List.map_nil List.all_cons List.all_nil Bool.and_true Bool.true_and if_true if_false List.getD_cons_zero List.getD_cons_succ List.getD_nil Option.isSome_some true_and and_true and_self eq_self true_or or_true List.drop_zero List.drop_succ_cons List.drop_nil List.take_zero List.take_succ_cons List.take_nil List.length_cons List.length_nil List.length_map Option.getD_some Option.getD_none List.nil_append List.cons_append List.append_nil Option.some.injEq exists_eq_left' List.getElem?_cons_zero List.getElem?_cons_succ Int.toNat_natCast Int.natCast_inj toNat_succ Nat.zero_add res res1 resC owns owns1 ownsC List.flatMap_cons List.flatMap_nil List.flatten_cons List.flatten_nil List.mem_cons List.not_mem_nil or_false false_or forall_eq forall_eq_or_imp isFro frz frz1 pureC tabA isBld List.cons.injEq PV.seq.injEq PV.int.injEq PV.str.injEq PV.bool.injEq PV.agg.injEq inR tab Γof aRes packR Option.map_some Option.map_none rel Prod.exists exists_and_left exists_eq_left and_assoc beq_self_eq_true Bool.not_true Bool.not_false decide_true decide_false List.set_cons_zero List.set_cons_succ rst_nil rst_cons
set_option maxRecDepth 100000
set_option linter.unusedVariables false
set_option linter.unusedSimpArgs false
open Go.RowKit
def digI (x : Int) : Bool := decide (48 ≤ x ∧ x ≤ 57)
def digC : PC := rel (α := Int) (fun x => [.int .u8 x]) (fun x => 0 ≤ x ∧ x < 256) (fun x => .bool (digI x))
theorem digI_t {x : Int} : digI x = true ↔ 48 ≤ x ∧ x ≤ 57 := by unfold digI; simp
theorem digI_f {x : Int} : digI x = false ↔ ¬ (48 ≤ x ∧ x ≤ 57) := by unfold digI; rw [decide_eq_false_iff_not]
set_option maxHeartbeats 4000000 in
theorem dig_i : PureOk Try.prog 127 digC := by
  refine pure_rel 1 tab_nil mixed [.tmp 2] Try.func127 rfl rfl (by kernel_rfl) (by kernel_rfl) (fun _ => rfl) (by kernel_rfl) ?_
  rintro x K ⟨h0, h1⟩ hK
  unfold entry
  repeat' (first | refine qw8 ?_ | refine qw1 ?_ | refine qw6 ?_ | refine qt1 ?_ | refine qw5 ?_ | refine qw2 ?_ | refine qw9 ?_ | refine qt2 ?_ | refine qt3 ?_ | refine qt4 ?_ | refine qt5 ?_ | refine qt6 ?_ | refine qw3 ?_ | refine qw4 ?_ | refine qj1 ?_ | refine qj2 ?_ | refine qj3 ?_ | refine qj4 ?_ | refine qj5 ?_ | refine qu1 ?_ | refine qu2 ?_ | refine qne ?_ | refine qyn ?_ | refine qyz ?_ | refine qy0 ?_ | refine qnt rfl rfl ?_ | refine qnf rfl rfl ?_ | refine qyc rfl ?_ | refine qy1 rfl ?_ | refine qy2 rfl ?_ ?_ | ((first | refine qa1 fun K hk => ?_ | refine qa2 fun K hk => ?_ | refine qa3 fun K hk => ?_ | refine qh1 fun K hk => ?_ | refine qh2 fun K hk => ?_ | refine qm1 fun K hk => ?_ | refine qm2 fun K hk => ?_ | refine qm3 fun K hk => ?_); simp only [go_sem, ↓upd_def, ↓evT, ↓aop, ↓aopc, ↓aopd, Nat.reduceEqDiff, Nat.reduceAdd, Nat.reduceLeDiff, Nat.reduceLT, Nat.reduceSub, Int.reduceToNat, ↓reduceIte, reduceCtorEq]; (repeat (refine And.intro ?_ ?_; focus (first | omega | assumption | with_reducible rfl | (simp only [go_sem, ↓upd_def, ↓evT, ↓aop, ↓aopc, ↓aopd, Nat.reduceEqDiff, Nat.reduceAdd, Nat.reduceLeDiff, Nat.reduceLT, Nat.reduceSub, Int.reduceToNat, ↓reduceIte, reduceCtorEq]; done)))); intros; apply hk; clear hk K) | ((first | apply qg1 rfl | apply qcd); focus (simp only [go_sem, ↓upd_def, ↓evT, ↓aop, ↓aopc, ↓aopd, Nat.reduceEqDiff, Nat.reduceAdd, Nat.reduceLeDiff, Nat.reduceLT, Nat.reduceSub, Int.reduceToNat, ↓reduceIte, reduceCtorEq]; exact rfl)) | (refine qj6 ?_ ?_ <;> intro hc <;> (try simp only [hc]) <;> (try simp only [decide_eq_true_eq, decide_eq_false_iff_not, Bool.not_eq_true', Bool.not_eq_false', Bool.not_eq_true, reduceCtorEq] at hc) <;> (try (exfalso; omega))) | (refine qk1 ?_ ?_; focus (repeat (first | exact qsub0 | (refine qsub1 ?_ ?_; focus (simp only [go_sem, ↓upd_def, ↓evT, ↓aop, ↓aopc, ↓aopd, Nat.reduceEqDiff, Nat.reduceAdd, Nat.reduceLeDiff, Nat.reduceLT, Nat.reduceSub, Int.reduceToNat, ↓reduceIte, reduceCtorEq]))))) | (refine qt7 ?_ ?_; focus decide) | (refine qw7 ?_ ?_ ?_; (focus (decide +kernel)); (focus (decide +kernel))))
  all_goals
    ((first | refine fin_ret ?_ | refine fin_end ?_); simp only [go_sem, ↓upd_def, Nat.reduceEqDiff, Nat.reduceAdd, ↓reduceIte, reduceCtorEq])
    exact K_bool hK (by first | exact digI_t.2 (by omega) | exact digI_f.2 (by omega) | (unfold digI; congr 1; simp only [eq_iff_iff]; omega))
set_option maxHeartbeats 4000000 in
theorem dig_s : PureOk Try.prog 156 digC := by
  refine pure_rel 1 tab_nil mixed [.tmp 2] Try.func156 rfl rfl (by kernel_rfl) (by kernel_rfl) (fun _ => rfl) (by kernel_rfl) ?_
  rintro x K ⟨h0, h1⟩ hK
  unfold entry
  repeat' (first | refine qw8 ?_ | refine qw1 ?_ | refine qw6 ?_ | refine qt1 ?_ | refine qw5 ?_ | refine qw2 ?_ | refine qw9 ?_ | refine qt2 ?_ | refine qt3 ?_ | refine qt4 ?_ | refine qt5 ?_ | refine qt6 ?_ | refine qw3 ?_ | refine qw4 ?_ | refine qj1 ?_ | refine qj2 ?_ | refine qj3 ?_ | refine qj4 ?_ | refine qj5 ?_ | refine qu1 ?_ | refine qu2 ?_ | refine qne ?_ | refine qyn ?_ | refine qyz ?_ | refine qy0 ?_ | refine qnt rfl rfl ?_ | refine qnf rfl rfl ?_ | refine qyc rfl ?_ | refine qy1 rfl ?_ | refine qy2 rfl ?_ ?_ | ((first | refine qa1 fun K hk => ?_ | refine qa2 fun K hk => ?_ | refine qa3 fun K hk => ?_ | refine qh1 fun K hk => ?_ | refine qh2 fun K hk => ?_ | refine qm1 fun K hk => ?_ | refine qm2 fun K hk => ?_ | refine qm3 fun K hk => ?_); simp only [go_sem, ↓upd_def, ↓evT, ↓aop, ↓aopc, ↓aopd, Nat.reduceEqDiff, Nat.reduceAdd, Nat.reduceLeDiff, Nat.reduceLT, Nat.reduceSub, Int.reduceToNat, ↓reduceIte, reduceCtorEq]; (repeat (refine And.intro ?_ ?_; focus (first | omega | assumption | with_reducible rfl | (simp only [go_sem, ↓upd_def, ↓evT, ↓aop, ↓aopc, ↓aopd, Nat.reduceEqDiff, Nat.reduceAdd, Nat.reduceLeDiff, Nat.reduceLT, Nat.reduceSub, Int.reduceToNat, ↓reduceIte, reduceCtorEq]; done)))); intros; apply hk; clear hk K) | ((first | apply qg1 rfl | apply qcd); focus (simp only [go_sem, ↓upd_def, ↓evT, ↓aop, ↓aopc, ↓aopd, Nat.reduceEqDiff, Nat.reduceAdd, Nat.reduceLeDiff, Nat.reduceLT, Nat.reduceSub, Int.reduceToNat, ↓reduceIte, reduceCtorEq]; exact rfl)) | (refine qj6 ?_ ?_ <;> intro hc <;> (try simp only [hc]) <;> (try simp only [decide_eq_true_eq, decide_eq_false_iff_not, Bool.not_eq_true', Bool.not_eq_false', Bool.not_eq_true, reduceCtorEq] at hc) <;> (try (exfalso; omega))) | (refine qk1 ?_ ?_; focus (repeat (first | exact qsub0 | (refine qsub1 ?_ ?_; focus (simp only [go_sem, ↓upd_def, ↓evT, ↓aop, ↓aopc, ↓aopd, Nat.reduceEqDiff, Nat.reduceAdd, Nat.reduceLeDiff, Nat.reduceLT, Nat.reduceSub, Int.reduceToNat, ↓reduceIte, reduceCtorEq]))))) | (refine qt7 ?_ ?_; focus decide) | (refine qw7 ?_ ?_ ?_; (focus (decide +kernel)); (focus (decide +kernel))))
  all_goals
    ((first | refine fin_ret ?_ | refine fin_end ?_); simp only [go_sem, ↓upd_def, Nat.reduceEqDiff, Nat.reduceAdd, ↓reduceIte, reduceCtorEq])
    exact K_bool hK (by first | exact digI_t.2 (by omega) | exact digI_f.2 (by omega) | (unfold digI; congr 1; simp only [eq_iff_iff]; omega))
def okNm (x : Nat) : Bool := decide ((97 ≤ x ∧ x ≤ 122) ∨ (48 ≤ x ∧ x ≤ 57) ∨ x = 45)
/-- 1..10 bytes, the first one a small letter, the others small letters, digits, minus signs. -/
def nameB (s : List UInt8) : Bool := decide (1 ≤ s.length ∧ s.length ≤ 10 ∧ 97 ≤ (s.getD 0 0).toNat ∧ (s.getD 0 0).toNat ≤ 122) && allB okNm s
theorem okNm_t {x : Nat} (h : (97 ≤ x ∧ x ≤ 122) ∨ (48 ≤ x ∧ x ≤ 57) ∨ x = 45) : okNm x = true := decide_eq_true h
theorem okNm_f {x : Nat} (h : ¬ ((97 ≤ x ∧ x ≤ 122) ∨ (48 ≤ x ∧ x ≤ 57) ∨ x = 45)) : okNm x = false := decide_eq_false h
set_option maxHeartbeats 8000000 in
theorem name_i : PureOk Try.prog 120 (strC nameB) := by
  refine pure_rel 1 (tab_cons dig_i tab_nil) mixed [.tmp 2] Try.func120 rfl rfl (by kernel_rfl) (by kernel_rfl) (fun _ => rfl) (by kernel_rfl) ?_
  rintro s K hl hK
  unfold entry
  repeat' (first | refine qw8 ?_ | refine qw1 ?_ | refine qw6 ?_ | refine qt1 ?_ | refine qw5 ?_ | refine qw2 ?_ | refine qw9 ?_ | refine qt2 ?_ | refine qt3 ?_ | refine qt4 ?_ | refine qt5 ?_ | refine qt6 ?_ | refine qw3 ?_ | refine qw4 ?_ | refine qj1 ?_ | refine qj2 ?_ | refine qj3 ?_ | refine qj4 ?_ | refine qj5 ?_ | refine qu1 ?_ | refine qu2 ?_ | refine qne ?_ | refine qyn ?_ | refine qyz ?_ | refine qy0 ?_ | refine qnt rfl rfl ?_ | refine qnf rfl rfl ?_ | refine qyc rfl ?_ | refine qy1 rfl ?_ | refine qy2 rfl ?_ ?_ | ((first | refine qa1 fun K hk => ?_ | refine qa2 fun K hk => ?_ | refine qa3 fun K hk => ?_ | refine qh1 fun K hk => ?_ | refine qh2 fun K hk => ?_ | refine qm1 fun K hk => ?_ | refine qm2 fun K hk => ?_ | refine qm3 fun K hk => ?_); simp only [go_sem, ↓upd_def, ↓evT, ↓aop, ↓aopc, ↓aopd, Nat.reduceEqDiff, Nat.reduceAdd, Nat.reduceLeDiff, Nat.reduceLT, Nat.reduceSub, Int.reduceToNat, ↓reduceIte, reduceCtorEq]; (repeat (refine And.intro ?_ ?_; focus (first | omega | assumption | with_reducible rfl | (simp only [go_sem, ↓upd_def, ↓evT, ↓aop, ↓aopc, ↓aopd, Nat.reduceEqDiff, Nat.reduceAdd, Nat.reduceLeDiff, Nat.reduceLT, Nat.reduceSub, Int.reduceToNat, ↓reduceIte, reduceCtorEq]; done)))); intros; apply hk; clear hk K) | ((first | apply qg1 rfl | apply qcd); focus (simp only [go_sem, ↓upd_def, ↓evT, ↓aop, ↓aopc, ↓aopd, Nat.reduceEqDiff, Nat.reduceAdd, Nat.reduceLeDiff, Nat.reduceLT, Nat.reduceSub, Int.reduceToNat, ↓reduceIte, reduceCtorEq]; exact rfl)) | (refine qj6 ?_ ?_ <;> intro hc <;> (try simp only [hc]) <;> (try simp only [decide_eq_true_eq, decide_eq_false_iff_not, Bool.not_eq_true', Bool.not_eq_false', Bool.not_eq_true, reduceCtorEq] at hc) <;> (try (exfalso; omega))) | (refine qk1 ?_ ?_; focus (repeat (first | exact qsub0 | (refine qsub1 ?_ ?_; focus (simp only [go_sem, ↓upd_def, ↓evT, ↓aop, ↓aopc, ↓aopd, Nat.reduceEqDiff, Nat.reduceAdd, Nat.reduceLeDiff, Nat.reduceLT, Nat.reduceSub, Int.reduceToNat, ↓reduceIte, reduceCtorEq]))))) | (refine qt7 ?_ ?_; focus decide) | (refine qw7 ?_ ?_ ?_; (focus (decide +kernel)); (focus (decide +kernel))))
  all_goals (first
    | (((first | refine fin_ret ?_ | refine fin_end ?_); simp only [go_sem, ↓upd_def, Nat.reduceEqDiff, Nat.reduceAdd, ↓reduceIte, reduceCtorEq])
       exact K_bool hK (by unfold nameB; rw [decide_eq_false (by omega)]; rfl))
    | skip)
  refine s_loop (ι := Nat) (fun k => [(0, .str s), (2, .bool false), (3, .int .i64 k)]) (fun _ => []) 0 (fun k => k ≤ s.length ∧ allB okNm (s.take k) = true) (fun k => s.length - k) 0 (by omega) ⟨by omega, by simp [allB]⟩ ?_ ?_
  · simp [fits, fitsT, fitsM, upd_def, PV.nmb, nmbL, MB.nmb, List.getD_cons_zero, List.getD_cons_succ]
  rintro k ⟨hk, hp⟩
  have hb := byte_lt s k
  simp only [mkS, mkT, mkM]
  repeat' (first | refine qw8 ?_ | refine qw1 ?_ | refine qw6 ?_ | refine qt1 ?_ | refine qw5 ?_ | refine qw2 ?_ | refine qw9 ?_ | refine qt2 ?_ | refine qt3 ?_ | refine qt4 ?_ | refine qt5 ?_ | refine qt6 ?_ | refine qw3 ?_ | refine qw4 ?_ | refine qj1 ?_ | refine qj2 ?_ | refine qj3 ?_ | refine qj4 ?_ | refine qj5 ?_ | refine qu1 ?_ | refine qu2 ?_ | refine qne ?_ | refine qyn ?_ | refine qyz ?_ | refine qy0 ?_ | refine qnt rfl rfl ?_ | refine qnf rfl rfl ?_ | refine qyc rfl ?_ | refine qy1 rfl ?_ | refine qy2 rfl ?_ ?_ | ((first | refine qa1 fun K hk => ?_ | refine qa2 fun K hk => ?_ | refine qa3 fun K hk => ?_ | refine qh1 fun K hk => ?_ | refine qh2 fun K hk => ?_ | refine qm1 fun K hk => ?_ | refine qm2 fun K hk => ?_ | refine qm3 fun K hk => ?_); simp only [go_sem, ↓upd_def, ↓evT, ↓aop, ↓aopc, ↓aopd, Nat.reduceEqDiff, Nat.reduceAdd, Nat.reduceLeDiff, Nat.reduceLT, Nat.reduceSub, Int.reduceToNat, ↓reduceIte, reduceCtorEq, digC]; (repeat (refine And.intro ?_ ?_; focus (first | omega | assumption | with_reducible rfl | (simp only [go_sem, ↓upd_def, ↓evT, ↓aop, ↓aopc, ↓aopd, Nat.reduceEqDiff, Nat.reduceAdd, Nat.reduceLeDiff, Nat.reduceLT, Nat.reduceSub, Int.reduceToNat, ↓reduceIte, reduceCtorEq, digC]; done)))); intros; apply hk; clear hk K) | ((first | apply qg1 rfl | apply qcd); focus (simp only [go_sem, ↓upd_def, ↓evT, ↓aop, ↓aopc, ↓aopd, Nat.reduceEqDiff, Nat.reduceAdd, Nat.reduceLeDiff, Nat.reduceLT, Nat.reduceSub, Int.reduceToNat, ↓reduceIte, reduceCtorEq, digC]; exact rfl)) | (refine qj6 ?_ ?_ <;> intro hc <;> (try simp only [hc]) <;> (try simp only [decide_eq_true_eq, decide_eq_false_iff_not, Bool.not_eq_true', Bool.not_eq_false', Bool.not_eq_true, reduceCtorEq] at hc) <;> (try (exfalso; omega))) | (refine qk1 ?_ ?_; focus (repeat (first | exact qsub0 | (refine qsub1 ?_ ?_; focus (simp only [go_sem, ↓upd_def, ↓evT, ↓aop, ↓aopc, ↓aopd, Nat.reduceEqDiff, Nat.reduceAdd, Nat.reduceLeDiff, Nat.reduceLT, Nat.reduceSub, Int.reduceToNat, ↓reduceIte, reduceCtorEq, digC]))))) | (refine qt7 ?_ ?_; focus decide) | (refine qw7 ?_ ?_ ?_; (focus (decide +kernel)); (focus (decide +kernel))))
  all_goals (try have d1 := digI_t.1 ‹_›)
  all_goals (try have d2 := digI_f.1 ‹_›)
  all_goals first
    | (exfalso; omega)
    | (refine s_again (k + 1) ?_ ?_ ?_ <;> (first | omega | (dsimp only; omega) | skip)
       · exact ⟨by omega, by rw [allB_snoc (by omega), hp, okNm_t (x := (s.getD k 0).toNat) (by omega)]; try rfl⟩
       · simp [fits, fitsT, fitsM, upd_def, PV.nmb, nmbL, MB.nmb, List.getD_cons_zero, List.getD_cons_succ]
       done)
    | (((first | refine fin_ret ?_ | refine fin_end ?_); simp only [go_sem, ↓upd_def, Nat.reduceEqDiff, Nat.reduceAdd, ↓reduceIte, reduceCtorEq])
       exact K_bool hK (by unfold nameB; rw [allB_f (k := k) (by omega) (okNm_f (x := (s.getD k 0).toNat) (by omega)), Bool.and_false]))
    | (((first | refine fin_ret ?_ | refine fin_end ?_); simp only [go_sem, ↓upd_def, Nat.reduceEqDiff, Nat.reduceAdd, ↓reduceIte, reduceCtorEq])
       rw [List.take_of_length_le (by omega)] at hp
       exact K_bool hK (by unfold nameB; rw [hp, decide_eq_true (by omega)]; rfl))
end Go.Proofs.Ytcagfbgplpokkaa
