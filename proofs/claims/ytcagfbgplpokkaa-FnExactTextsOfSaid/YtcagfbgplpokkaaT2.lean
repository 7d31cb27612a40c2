/- The laws' own functions on rows of texts, numbers and filled holes: sizes, copies, comparison, marks. -/
import Derived.Test.YtcagfbgplpokkaaFN
import Derived.Test.YtcagfbgplpokkaaK3
import Derived.Test.YtcagfbgplpokkaaLP
import Derived.Test.YtcagfbgplpokkaaX1
namespace Go.Proofs.Ytcagfbgplpokkaa
attribute [local irreducible] awp arun acalm FinP Fin AX.then AX.inBlock Again aG gsel amix amixN amixC aop aopc aopd cutK
attribute [local go_sem] aop aopc aopd aBSliceD aSlice aSliceC boundOf aMk evT upd_def aCall aCallC aLenL aLen aPick_t aPick_f aNil aAlloc aBox aBuild bldPV aBSlice bsPV aApp newsOf destOf drp aConvX aConv aConvInt aLoad cellsAt aStore cellsPV setAt aFld aField aIdx aIndex aUn aBin' aBin aMax aExtract pvOf PV.isCell nmbL PV.nmb List.map_cons List.map_nil List.all_cons List.all_nil Bool.and_true Bool.true_and if_true if_false List.getD_cons_zero List.getD_cons_succ List.getD_nil Option.isSome_some true_and and_true and_self eq_self true_or or_true List.drop_zero List.drop_succ_cons List.drop_nil List.take_zero List.take_succ_cons List.take_nil List.length_cons List.length_nil List.length_map Option.getD_some Option.getD_none List.nil_append List.cons_append List.append_nil Option.some.injEq exists_eq_left' List.getElem?_cons_zero List.getElem?_cons_succ Int.toNat_natCast Int.natCast_inj toNat_succ Nat.zero_add res res1 resC owns owns1 ownsC List.flatMap_cons List.flatMap_nil List.flatten_cons List.flatten_nil List.mem_cons List.not_mem_nil or_false false_or forall_eq forall_eq_or_imp isFro frz frz1 pureC tabA isBld List.cons.injEq PV.seq.injEq PV.int.injEq PV.str.injEq PV.bool.injEq PV.agg.injEq inR tab Γof aRes packR Option.map_some Option.map_none rel Prod.exists exists_and_left exists_eq_left and_assoc beq_self_eq_true Bool.not_true Bool.not_false decide_true decide_false List.set_cons_zero List.set_cons_succ rst_nil rst_cons
set_option maxRecDepth 100000
set_option linter.unusedVariables false
set_option linter.unusedSimpArgs false
open Go.RowKit

def lvT2_19 : Nat → List Nat
  | 0 => [0, 1]
  | 1 => [0, 1]
  | 2 => [0, 1, 11]
  | 3 => [4]
  | 4 => [0, 1, 5]
  | 5 => [0, 1, 5, 15]
  | 6 => [0, 1, 5]
  | 7 => [0, 1, 5]
  | 8 => [0, 1, 5, 25]
  | 9 => [4]
  | 10 => [4]
  | _ => []
def lvT2_20 : Nat → List Nat
  | 0 => [0, 1]
  | 1 => [0, 1, 5]
  | 2 => [0, 1, 5, 6]
  | 3 => [0, 1, 5, 6, 11]
  | 4 => [0, 1, 5, 6]
  | 5 => [0, 1, 5, 6, 20]
  | 6 => [0, 1, 5, 6]
  | 7 => [4]
  | _ => []
def lvT2_21 : Nat → List Nat
  | 0 => [0]
  | 1 => [0, 3]
  | 2 => [0, 3, 4]
  | 3 => [0, 3, 4, 11]
  | 4 => [0, 3, 4]
  | 5 => [0, 3, 4]
  | 6 => [2]
  | _ => []
def lvT2_22 : Nat → List Nat
  | 0 => [0, 1]
  | 1 => [0, 1, 5]
  | 2 => [1, 5, 9, 10, 11]
  | 3 => [1, 5, 9, 10, 11, 12]
  | 4 => [1, 5, 7, 9, 10, 11]
  | 5 => [1, 5, 7, 9, 10, 11, 18]
  | 6 => [1, 5, 9, 10, 11]
  | 7 => [1, 5, 9, 10, 11]
  | 8 => [4]
  | _ => []
def lvT2_23 : Nat → List Nat
  | 0 => [0, 1]
  | 1 => [0, 1, 10]
  | 2 => [4]
  | 3 => [0, 1, 5]
  | 4 => [0, 1, 5, 14]
  | 5 => [0, 1, 5]
  | 6 => [0, 1, 5, 25]
  | 7 => [4]
  | 8 => [4]
  | _ => []
def lvT2_24 : Nat → List Nat
  | 0 => [0, 1]
  | 1 => [0, 1, 10]
  | 2 => [4]
  | 3 => [0, 1, 5]
  | 4 => [0, 1, 5, 14]
  | 5 => [0, 1, 5]
  | 6 => [0, 1, 5, 26]
  | 7 => [4]
  | 8 => [4]
  | _ => []
def lvT2_25 : Nat → List Nat
  | 0 => [0, 1]
  | 1 => [0, 1, 5]
  | 2 => [0, 1, 5, 9]
  | 3 => [0, 1, 5]
  | 4 => [0, 1, 5]
  | 5 => [0, 1, 5]
  | 6 => [0, 1, 5]
  | 7 => [0, 1, 5]
  | 8 => [4]
  | _ => []
def lvT2_26 : Nat → List Nat
  | 0 => [0, 1]
  | 1 => [0, 1, 5]
  | 2 => [0, 1, 5, 9]
  | 3 => [0, 1, 5]
  | 4 => [0, 1, 5]
  | 5 => [0, 1, 5]
  | 6 => [4]
  | _ => []
def lvT2_27 : Nat → List Nat
  | 0 => [0, 1]
  | 1 => [0, 1, 5]
  | 2 => [0, 1, 5, 9]
  | 3 => [0, 1, 5]
  | 4 => [0, 1, 5, 18]
  | 5 => [4]
  | 6 => [0, 1, 5]
  | 7 => [4]
  | _ => []
def lvT2_71 : Nat → List Nat
  | 0 => [1, 2]
  | 1 => [1]
  | 2 => [1, 11]
  | 3 => [4]
  | 4 => [4]
  | _ => []
def lvT2_72 : Nat → List Nat
  | 0 => [1, 2]
  | 1 => [1, 2, 3]
  | 2 => [1, 2, 3]
  | 3 => [2, 3]
  | 4 => [2]
  | _ => []
def lvT2_73 : Nat → List Nat
  | 0 => [2, 3]
  | 1 => [2, 3, 9]
  | 2 => [4]
  | 3 => [14]
  | 4 => [4]
  | 5 => [4]
  | _ => []
def lvT2_74 : Nat → List Nat
  | 0 => [0]
  | 1 => [0, 5]
  | 2 => [2]
  | 3 => [0, 3]
  | 4 => [0, 3, 7]
  | 5 => [0, 3]
  | 6 => [0, 3]
  | 7 => [2]
  | _ => []
--LV=T2
/-! ### Marks -/
def digs : Nat → Nat → Bs
  | 0, _ => []
  | f + 1, k => if k = 0 then [] else digs f (k / 10) ++ [UInt8.ofNat (48 + k % 10)]
theorem digs_more : ∀ (f g k : Nat), k < f → k < g → digs f k = digs g k
  | 0, _, _, h, _ => by omega
  | _ + 1, 0, _, _, h => by omega
  | f + 1, g + 1, k, hf, hg => by
    unfold digs
    by_cases h : k = 0
    · rw [if_pos h, if_pos h]
    · rw [if_neg h, if_neg h, digs_more f g (k / 10) (by omega) (by omega)]
def decB (k : Nat) : Bs := digs (k + 1) k
theorem decB_0 : decB 0 = [] := rfl
theorem decB_pos {k : Nat} (h : 0 < k) : decB k = decB (k / 10) ++ [UInt8.ofNat (48 + k % 10)] := by
  unfold decB
  rw [digs, if_neg (by omega), digs_more k (k / 10 + 1) (k / 10) (by omega) (by omega)]
theorem decB_len : ∀ (f k : Nat), k < f → (decB k).length ≤ k
  | 0, _, h => by omega
  | f + 1, k, h => by
    by_cases h0 : k = 0
    · subst h0; rw [decB_0]; simp
    · rw [decB_pos (by omega), List.length_append, List.length_singleton]
      have := decB_len f (k / 10) (by omega)
      omega
def markB (k : Int) : Bs := if k ≤ 0 then [109, 48] else 109 :: decB k.toNat
theorem markB_len (k : Int) : (markB k).length ≤ k.toNat + 2 := by
  unfold markB
  split
  · simp
  · have := decB_len (k.toNat + 1) k.toNat (by omega)
    simp only [List.length_cons]
    omega
@[go_sem] def mkC : PC := rel (α := Int) (fun x => [.int .i64 x]) (fun x => -9223372036854775808 ≤ x ∧ x ≤ 1099511627776) (fun x => .str (markB x))
theorem mark_ok : PureOk Try.prog 74 mkC := by
  refine pure_rel 1 tab_nil mixed [.tmp 2] Try.func74 rfl rfl (by kernel_rfl) (by kernel_rfl) (fun _ => rfl) (by kernel_rfl) ?_
  rintro k K ⟨h0, h1⟩ hK
  unfold markB at hK
  unfold entry
  repeat' (first | (refine qwd fun K hk => ?_; simp only [lvT2_74, mkT, go_sem, ↓upd_def, ↓evT, ↓aop, ↓aopc, ↓aopd, Nat.reduceEqDiff, Nat.reduceAdd, Nat.reduceLeDiff, Nat.reduceLT, Nat.reduceSub, Int.reduceToNat, ↓reduceIte, reduceCtorEq]; apply hk; clear hk K) | refine qw8 ?_ | refine qw1 ?_ | refine qwc lvT2_74 ?_ | refine qt1 ?_ | refine qw5 ?_ | refine qw2 ?_ | refine qw9 ?_ | refine qt2 ?_ | refine qt3 ?_ | refine qt4 ?_ | refine qt5 ?_ | refine qt6 ?_ | refine qw3 ?_ | refine qw4 ?_ | refine qj1 ?_ | refine qj2 ?_ | refine qj3 ?_ | refine qj4 ?_ | refine qj5 ?_ | refine qu1 ?_ | refine qu2 ?_ | refine qne ?_ | refine qyn ?_ | refine qyz ?_ | refine qy0 ?_ | refine qnt rfl rfl ?_ | refine qnf rfl rfl ?_ | refine qyc rfl ?_ | refine qy1 rfl ?_ | refine qy2 rfl ?_ ?_ | ((first | refine qa1 fun K hk => ?_ | refine qa2 fun K hk => ?_ | refine qa3 fun K hk => ?_ | refine qh1 fun K hk => ?_ | refine qh2 fun K hk => ?_ | refine qm1 fun K hk => ?_ | refine qm2 fun K hk => ?_ | refine qm3 fun K hk => ?_); simp only [go_sem, ↓upd_def, ↓evT, ↓aop, ↓aopc, ↓aopd, Nat.reduceEqDiff, Nat.reduceAdd, Nat.reduceLeDiff, Nat.reduceLT, Nat.reduceSub, Int.reduceToNat, ↓reduceIte, reduceCtorEq]; (repeat (refine And.intro ?_ ?_; focus (first | omega | assumption | with_reducible rfl | (simp only [go_sem, ↓upd_def, ↓evT, ↓aop, ↓aopc, ↓aopd, Nat.reduceEqDiff, Nat.reduceAdd, Nat.reduceLeDiff, Nat.reduceLT, Nat.reduceSub, Int.reduceToNat, ↓reduceIte, reduceCtorEq]; done)))); intros; apply hk; clear hk K) | ((first | apply qg1 rfl | apply qcd); focus (simp only [go_sem, ↓upd_def, ↓evT, ↓aop, ↓aopc, ↓aopd, Nat.reduceEqDiff, Nat.reduceAdd, Nat.reduceLeDiff, Nat.reduceLT, Nat.reduceSub, Int.reduceToNat, ↓reduceIte, reduceCtorEq]; exact rfl)) | (refine qj6 ?_ ?_ <;> intro hc <;> (try simp only [hc]) <;> (try simp only [decide_eq_true_eq, decide_eq_false_iff_not, Bool.not_eq_true', Bool.not_eq_false', Bool.not_eq_true, reduceCtorEq] at hc) <;> (try (exfalso; omega))) | (refine qk1 ?_ ?_; focus (repeat (first | exact qsub0 | (refine qsub1 ?_ ?_; focus (simp only [go_sem, ↓upd_def, ↓evT, ↓aop, ↓aopc, ↓aopd, Nat.reduceEqDiff, Nat.reduceAdd, Nat.reduceLeDiff, Nat.reduceLT, Nat.reduceSub, Int.reduceToNat, ↓reduceIte, reduceCtorEq]))))) | (refine qt7 ?_ ?_; focus decide) | (refine qw7 ?_ ?_ ?_; (focus (decide +kernel)); (focus (decide +kernel))))
  · ((first | refine fin_ret ?_ | refine fin_end ?_); simp only [go_sem, ↓upd_def, Nat.reduceEqDiff, Nat.reduceAdd, ↓reduceIte, reduceCtorEq])
    rw [if_pos (by omega)] at hK
    exact hK
  rw [if_neg (by omega)] at hK
  obtain ⟨m, rfl⟩ : ∃ m : Nat, k = m := ⟨k.toNat, by omega⟩
  rw [Int.toNat_natCast] at hK
  refine s_loop (ι := Nat × Bs) (fun i => [(0, .int .i64 i.1), (3, .str i.2)]) (fun _ => []) 0 (fun i => i.1 ≤ m ∧ i.2.length + i.1 ≤ m ∧ decB m = decB i.1 ++ i.2) (fun i => i.1) (m, []) (by omega) ⟨by simp, by simp, by simp⟩ ?_ ?_
  · simp [fits, fitsT, fitsM, upd_def, PV.nmb, nmbL, MB.nmb, List.getD_cons_zero, List.getD_cons_succ]
  rintro ⟨j, t⟩ ⟨g1, g2, g3⟩
  dsimp only at *
  have e1 : ((j : Int) / 10) = ((j / 10 : Nat) : Int) := by omega
  have e2 : (48 + (j : Int) % 10) = ((UInt8.ofNat (48 + j % 10)).toNat : Int) := by
    rw [UInt8.toNat_ofNat_of_lt' (by show _ < 256; omega)]; omega
  have hb := (UInt8.ofNat (48 + j % 10)).toNat_lt
  simp only [mkS, mkT, mkM]
  repeat' (first | (refine qwd fun K hk => ?_; simp only [lvT2_74, mkT, go_sem, ↓upd_def, ↓evT, ↓aop, ↓aopc, ↓aopd, Nat.reduceEqDiff, Nat.reduceAdd, Nat.reduceLeDiff, Nat.reduceLT, Nat.reduceSub, Int.reduceToNat, ↓reduceIte, reduceCtorEq, e1, e2, bc, ofI_nat]; apply hk; clear hk K) | refine qw8 ?_ | refine qw1 ?_ | refine qwc lvT2_74 ?_ | refine qt1 ?_ | refine qw5 ?_ | refine qw2 ?_ | refine qw9 ?_ | refine qt2 ?_ | refine qt3 ?_ | refine qt4 ?_ | refine qt5 ?_ | refine qt6 ?_ | refine qw3 ?_ | refine qw4 ?_ | refine qj1 ?_ | refine qj2 ?_ | refine qj3 ?_ | refine qj4 ?_ | refine qj5 ?_ | refine qu1 ?_ | refine qu2 ?_ | refine qne ?_ | refine qyn ?_ | refine qyz ?_ | refine qy0 ?_ | refine qnt rfl rfl ?_ | refine qnf rfl rfl ?_ | refine qyc rfl ?_ | refine qy1 rfl ?_ | refine qy2 rfl ?_ ?_ | ((first | refine qa1 fun K hk => ?_ | refine qa2 fun K hk => ?_ | refine qa3 fun K hk => ?_ | refine qh1 fun K hk => ?_ | refine qh2 fun K hk => ?_ | refine qm1 fun K hk => ?_ | refine qm2 fun K hk => ?_ | refine qm3 fun K hk => ?_); simp only [go_sem, ↓upd_def, ↓evT, ↓aop, ↓aopc, ↓aopd, Nat.reduceEqDiff, Nat.reduceAdd, Nat.reduceLeDiff, Nat.reduceLT, Nat.reduceSub, Int.reduceToNat, ↓reduceIte, reduceCtorEq, e1, e2, bc, ofI_nat]; (repeat (refine And.intro ?_ ?_; focus (first | omega | assumption | with_reducible rfl | (simp only [go_sem, ↓upd_def, ↓evT, ↓aop, ↓aopc, ↓aopd, Nat.reduceEqDiff, Nat.reduceAdd, Nat.reduceLeDiff, Nat.reduceLT, Nat.reduceSub, Int.reduceToNat, ↓reduceIte, reduceCtorEq, e1, e2, bc, ofI_nat]; done)))); intros; apply hk; clear hk K) | ((first | apply qg1 rfl | apply qcd); focus (simp only [go_sem, ↓upd_def, ↓evT, ↓aop, ↓aopc, ↓aopd, Nat.reduceEqDiff, Nat.reduceAdd, Nat.reduceLeDiff, Nat.reduceLT, Nat.reduceSub, Int.reduceToNat, ↓reduceIte, reduceCtorEq, e1, e2, bc, ofI_nat]; exact rfl)) | (refine qj6 ?_ ?_ <;> intro hc <;> (try simp only [hc]) <;> (try simp only [decide_eq_true_eq, decide_eq_false_iff_not, Bool.not_eq_true', Bool.not_eq_false', Bool.not_eq_true, reduceCtorEq] at hc) <;> (try (exfalso; omega))) | (refine qk1 ?_ ?_; focus (repeat (first | exact qsub0 | (refine qsub1 ?_ ?_; focus (simp only [go_sem, ↓upd_def, ↓evT, ↓aop, ↓aopc, ↓aopd, Nat.reduceEqDiff, Nat.reduceAdd, Nat.reduceLeDiff, Nat.reduceLT, Nat.reduceSub, Int.reduceToNat, ↓reduceIte, reduceCtorEq, e1, e2, bc, ofI_nat]))))) | (refine qt7 ?_ ?_; focus decide) | (refine qw7 ?_ ?_ ?_; (focus (decide +kernel)); (focus (decide +kernel))))
  · have hd := decB_pos (k := j) (by omega)
    refine s_again ((j / 10, UInt8.ofNat (48 + j % 10) :: t)) ?_ ?_ ?_ <;> (first | omega | (dsimp only; omega) | skip)
    · refine ⟨by dsimp only; omega, by simp only [List.length_cons]; omega, ?_⟩
      rw [g3, hd, List.append_assoc]; rfl
    · simp [fits, fitsT, fitsM, upd_def, PV.nmb, nmbL, MB.nmb, List.getD_cons_zero, List.getD_cons_succ]
  · obtain rfl : j = 0 := by omega
    ((first | refine fin_ret ?_ | refine fin_end ?_); simp only [go_sem, ↓upd_def, Nat.reduceEqDiff, Nat.reduceAdd, ↓reduceIte, reduceCtorEq])
    rw [g3, decB_0, List.nil_append] at hK
    exact hK

/-! ### Rows of texts -/
theorem strs_len (l : List Bs) : (strs l).length = l.length := by simp [strs]
theorem strs_get (l : List Bs) (k : Nat) : (strs l)[k]? = (l[k]?).map fun t => [.str t] := by simp [strs]
theorem strs_inj {a b : List Bs} : strs a = strs b ↔ a = b := by
  constructor
  · intro h
    unfold strs at h
    exact (List.map_inj_right (fun x y e => by simpa using e)).1 h
  · rintro rfl; rfl
theorem strs_append (a b : List Bs) : strs (a ++ b) = strs a ++ strs b := by simp [strs]
theorem strs_plain (l : List Bs) : (strs l).all (·.all plainU) = true := by simp [strs, plainU]
def okSs (l : List Bs) : Prop := l.length ≤ 9223372036854775807 ∧ ∀ t ∈ l, t.length ≤ 9223372036854775807
/-- As many marks, from k on. -/
def marks : Int → Nat → List Bs
  | _, 0 => []
  | k, n + 1 => markB k :: marks (k + 1) n
theorem marks_len : ∀ (n : Nat) (k : Int), (marks k n).length = n
  | 0, _ => rfl
  | n + 1, k => by simp [marks, marks_len n]
theorem marks_get : ∀ (n : Nat) (k : Int) (j : Nat), j < n → (marks k n)[j]? = some (markB (k + j))
  | 0, _, j, h => by omega
  | n + 1, k, 0, _ => by simp [marks]
  | n + 1, k, j + 1, h => by
    have := marks_get n (k + 1) j (by omega)
    simp only [marks, List.getElem?_cons_succ, this]
    congr 2; omega
theorem marks_snoc : ∀ (n : Nat) (k : Int), marks k (n + 1) = marks k n ++ [markB (k + n)]
  | 0, k => by simp [marks]
  | n + 1, k => by
    have := marks_snoc n (k + 1)
    rw [marks, this, marks, List.cons_append, show k + 1 + (n : Int) = k + ((n + 1 : Nat) : Int) by omega]
theorem okSs_marks {n : Nat} {k : Int} (h : n ≤ 16777216) (h1 : k ≤ 16777216) : okSs (marks k n) = True := by
  refine eq_true ⟨by rw [marks_len]; omega, ?_⟩
  intro t ht
  obtain ⟨j, hj, rfl⟩ := List.mem_iff_getElem.1 ht
  rw [marks_len] at hj
  have := marks_get n k j hj
  rw [List.getElem?_eq_getElem (by rw [marks_len]; exact hj)] at this
  rw [Option.some.inj this]
  have := markB_len (k + j)
  omega
theorem strs_set (l : List Bs) (j : Nat) (t : Bs) : (strs l).set j [.str t] = strs (l.set j t) := by simp [strs, List.map_set]
theorem marks_set {l : List Bs} {k : Int} {j : Nat} (h : j < l.length) : (marks k j ++ l.drop j).set j (markB (k + j)) = marks k (j + 1) ++ l.drop (j + 1) := by
  rw [List.set_append_right _ _ (by rw [marks_len]; exact Nat.le_refl _), marks_len, Nat.sub_self, List.drop_eq_getElem_cons h, List.set_cons_zero, marks_snoc, List.append_assoc]; rfl
theorem getD_of_get {l : List Bs} {k : Nat} {t : Bs} (h : l[k]? = some t) : l.getD k [] = t := by simp [List.getD_eq_getElem?_getD, h]
@[go_sem] def eqSsC : PC := rel (α := List Bs × List Bs) (fun x => [.seq (strs x.1), .seq (strs x.2)]) (fun x => okSs x.1 ∧ okSs x.2) (fun x => .bool (decide (x.1 = x.2)))
theorem eqSs_ok : PureOk Try.prog 23 eqSsC := by
  refine pure_rel 2 tab_nil mixed [.tmp 4] Try.func23 rfl rfl (by kernel_rfl) (by kernel_rfl) (fun _ => rfl) (by kernel_rfl) ?_
  rintro ⟨a, b⟩ K ⟨⟨ha, ha2⟩, hb, hb2⟩ hK
  dsimp only at *
  unfold entry
  repeat' (first | (refine qwd fun K hk => ?_; simp only [lvT2_23, mkT, go_sem, ↓upd_def, ↓evT, ↓aop, ↓aopc, ↓aopd, Nat.reduceEqDiff, Nat.reduceAdd, Nat.reduceLeDiff, Nat.reduceLT, Nat.reduceSub, Int.reduceToNat, ↓reduceIte, reduceCtorEq, strs_len]; apply hk; clear hk K) | refine qw8 ?_ | refine qw1 ?_ | refine qwc lvT2_23 ?_ | refine qt1 ?_ | refine qw5 ?_ | refine qw2 ?_ | refine qw9 ?_ | refine qt2 ?_ | refine qt3 ?_ | refine qt4 ?_ | refine qt5 ?_ | refine qt6 ?_ | refine qw3 ?_ | refine qw4 ?_ | refine qj1 ?_ | refine qj2 ?_ | refine qj3 ?_ | refine qj4 ?_ | refine qj5 ?_ | refine qu1 ?_ | refine qu2 ?_ | refine qne ?_ | refine qyn ?_ | refine qyz ?_ | refine qy0 ?_ | refine qnt rfl rfl ?_ | refine qnf rfl rfl ?_ | refine qyc rfl ?_ | refine qy1 rfl ?_ | refine qy2 rfl ?_ ?_ | ((first | refine qa1 fun K hk => ?_ | refine qa2 fun K hk => ?_ | refine qa3 fun K hk => ?_ | refine qh1 fun K hk => ?_ | refine qh2 fun K hk => ?_ | refine qm1 fun K hk => ?_ | refine qm2 fun K hk => ?_ | refine qm3 fun K hk => ?_); simp only [go_sem, ↓upd_def, ↓evT, ↓aop, ↓aopc, ↓aopd, Nat.reduceEqDiff, Nat.reduceAdd, Nat.reduceLeDiff, Nat.reduceLT, Nat.reduceSub, Int.reduceToNat, ↓reduceIte, reduceCtorEq, strs_len]; (repeat (refine And.intro ?_ ?_; focus (first | omega | assumption | with_reducible rfl | (simp only [go_sem, ↓upd_def, ↓evT, ↓aop, ↓aopc, ↓aopd, Nat.reduceEqDiff, Nat.reduceAdd, Nat.reduceLeDiff, Nat.reduceLT, Nat.reduceSub, Int.reduceToNat, ↓reduceIte, reduceCtorEq, strs_len]; done)))); intros; apply hk; clear hk K) | ((first | apply qg1 rfl | apply qcd); focus (simp only [go_sem, ↓upd_def, ↓evT, ↓aop, ↓aopc, ↓aopd, Nat.reduceEqDiff, Nat.reduceAdd, Nat.reduceLeDiff, Nat.reduceLT, Nat.reduceSub, Int.reduceToNat, ↓reduceIte, reduceCtorEq, strs_len]; exact rfl)) | (refine qj6 ?_ ?_ <;> intro hc <;> (try simp only [hc]) <;> (try simp only [decide_eq_true_eq, decide_eq_false_iff_not, Bool.not_eq_true', Bool.not_eq_false', Bool.not_eq_true, reduceCtorEq] at hc) <;> (try (exfalso; omega))) | (refine qk1 ?_ ?_; focus (repeat (first | exact qsub0 | (refine qsub1 ?_ ?_; focus (simp only [go_sem, ↓upd_def, ↓evT, ↓aop, ↓aopc, ↓aopd, Nat.reduceEqDiff, Nat.reduceAdd, Nat.reduceLeDiff, Nat.reduceLT, Nat.reduceSub, Int.reduceToNat, ↓reduceIte, reduceCtorEq, strs_len]))))) | (refine qt7 ?_ ?_; focus decide) | (refine qw7 ?_ ?_ ?_; (focus (decide +kernel)); (focus (decide +kernel))))
  · ((first | refine fin_ret ?_ | refine fin_end ?_); simp only [go_sem, ↓upd_def, Nat.reduceEqDiff, Nat.reduceAdd, ↓reduceIte, reduceCtorEq])
    refine K_bool hK (decide_eq_false ?_)
    rintro rfl; omega
  refine s_loop (ι := Nat) (fun k => [(0, .seq (strs a)), (1, .seq (strs b)), (5, .int .i64 k)]) (fun _ => []) 0 (fun k => k ≤ a.length ∧ a.take k = b.take k) (fun k => a.length - k) 0 (by omega) ⟨by omega, by simp⟩ ?_ ?_
  · simp [fits, fitsT, fitsM, upd_def, PV.nmb, nmbL, MB.nmb, List.getD_cons_zero, List.getD_cons_succ]
  rintro k ⟨hk, he⟩
  simp only [mkS, mkT, mkM]
  by_cases hka : k < a.length
  · obtain ⟨x, hx⟩ := get_some (xs := a) (k := k) hka
    obtain ⟨y, hy⟩ := get_some (xs := b) (k := k) (by omega)
    have ga := strs_get a k
    have gb := strs_get b k
    rw [hx] at ga
    rw [hy] at gb
    repeat' (first | (refine qwd fun K hk => ?_; simp only [lvT2_23, mkT, go_sem, ↓upd_def, ↓evT, ↓aop, ↓aopc, ↓aopd, Nat.reduceEqDiff, Nat.reduceAdd, Nat.reduceLeDiff, Nat.reduceLT, Nat.reduceSub, Int.reduceToNat, ↓reduceIte, reduceCtorEq, strs_len, ga, gb]; apply hk; clear hk K) | refine qw8 ?_ | refine qw1 ?_ | refine qwc lvT2_23 ?_ | refine qt1 ?_ | refine qw5 ?_ | refine qw2 ?_ | refine qw9 ?_ | refine qt2 ?_ | refine qt3 ?_ | refine qt4 ?_ | refine qt5 ?_ | refine qt6 ?_ | refine qw3 ?_ | refine qw4 ?_ | refine qj1 ?_ | refine qj2 ?_ | refine qj3 ?_ | refine qj4 ?_ | refine qj5 ?_ | refine qu1 ?_ | refine qu2 ?_ | refine qne ?_ | refine qyn ?_ | refine qyz ?_ | refine qy0 ?_ | refine qnt rfl rfl ?_ | refine qnf rfl rfl ?_ | refine qyc rfl ?_ | refine qy1 rfl ?_ | refine qy2 rfl ?_ ?_ | ((first | refine qa1 fun K hk => ?_ | refine qa2 fun K hk => ?_ | refine qa3 fun K hk => ?_ | refine qh1 fun K hk => ?_ | refine qh2 fun K hk => ?_ | refine qm1 fun K hk => ?_ | refine qm2 fun K hk => ?_ | refine qm3 fun K hk => ?_); simp only [go_sem, ↓upd_def, ↓evT, ↓aop, ↓aopc, ↓aopd, Nat.reduceEqDiff, Nat.reduceAdd, Nat.reduceLeDiff, Nat.reduceLT, Nat.reduceSub, Int.reduceToNat, ↓reduceIte, reduceCtorEq, strs_len, ga, gb]; (repeat (refine And.intro ?_ ?_; focus (first | omega | assumption | with_reducible rfl | (simp only [go_sem, ↓upd_def, ↓evT, ↓aop, ↓aopc, ↓aopd, Nat.reduceEqDiff, Nat.reduceAdd, Nat.reduceLeDiff, Nat.reduceLT, Nat.reduceSub, Int.reduceToNat, ↓reduceIte, reduceCtorEq, strs_len, ga, gb]; done)))); intros; apply hk; clear hk K) | ((first | apply qg1 rfl | apply qcd); focus (simp only [go_sem, ↓upd_def, ↓evT, ↓aop, ↓aopc, ↓aopd, Nat.reduceEqDiff, Nat.reduceAdd, Nat.reduceLeDiff, Nat.reduceLT, Nat.reduceSub, Int.reduceToNat, ↓reduceIte, reduceCtorEq, strs_len, ga, gb]; exact rfl)) | (refine qj6 ?_ ?_ <;> intro hc <;> (try simp only [hc]) <;> (try simp only [decide_eq_true_eq, decide_eq_false_iff_not, Bool.not_eq_true', Bool.not_eq_false', Bool.not_eq_true, reduceCtorEq] at hc) <;> (try (exfalso; omega))) | (refine qk1 ?_ ?_; focus (repeat (first | exact qsub0 | (refine qsub1 ?_ ?_; focus (simp only [go_sem, ↓upd_def, ↓evT, ↓aop, ↓aopc, ↓aopd, Nat.reduceEqDiff, Nat.reduceAdd, Nat.reduceLeDiff, Nat.reduceLT, Nat.reduceSub, Int.reduceToNat, ↓reduceIte, reduceCtorEq, strs_len, ga, gb]))))) | (refine qt7 ?_ ?_; focus decide) | (refine qw7 ?_ ?_ ?_; (focus (decide +kernel)); (focus (decide +kernel))))
    · ((first | refine fin_ret ?_ | refine fin_end ?_); simp only [go_sem, ↓upd_def, Nat.reduceEqDiff, Nat.reduceAdd, ↓reduceIte, reduceCtorEq])
      refine K_bool hK (decide_eq_false ?_)
      intro e
      rw [e, hy] at hx
      have hne : ¬ x = y := ‹_›
      exact hne (Option.some.inj hx).symm
    · refine s_again (k + 1) ?_ ?_ ?_ <;> (first | omega | (dsimp only; omega) | skip)
      · refine ⟨by omega, ?_⟩
        rw [take_snoc' hx, take_snoc' hy, he, hc]
      · simp [fits, fitsT, fitsM, upd_def, PV.nmb, nmbL, MB.nmb, List.getD_cons_zero, List.getD_cons_succ]
  · obtain rfl : k = a.length := by omega
    repeat' (first | (refine qwd fun K hk => ?_; simp only [lvT2_23, mkT, go_sem, ↓upd_def, ↓evT, ↓aop, ↓aopc, ↓aopd, Nat.reduceEqDiff, Nat.reduceAdd, Nat.reduceLeDiff, Nat.reduceLT, Nat.reduceSub, Int.reduceToNat, ↓reduceIte, reduceCtorEq, strs_len]; apply hk; clear hk K) | refine qw8 ?_ | refine qw1 ?_ | refine qwc lvT2_23 ?_ | refine qt1 ?_ | refine qw5 ?_ | refine qw2 ?_ | refine qw9 ?_ | refine qt2 ?_ | refine qt3 ?_ | refine qt4 ?_ | refine qt5 ?_ | refine qt6 ?_ | refine qw3 ?_ | refine qw4 ?_ | refine qj1 ?_ | refine qj2 ?_ | refine qj3 ?_ | refine qj4 ?_ | refine qj5 ?_ | refine qu1 ?_ | refine qu2 ?_ | refine qne ?_ | refine qyn ?_ | refine qyz ?_ | refine qy0 ?_ | refine qnt rfl rfl ?_ | refine qnf rfl rfl ?_ | refine qyc rfl ?_ | refine qy1 rfl ?_ | refine qy2 rfl ?_ ?_ | ((first | refine qa1 fun K hk => ?_ | refine qa2 fun K hk => ?_ | refine qa3 fun K hk => ?_ | refine qh1 fun K hk => ?_ | refine qh2 fun K hk => ?_ | refine qm1 fun K hk => ?_ | refine qm2 fun K hk => ?_ | refine qm3 fun K hk => ?_); simp only [go_sem, ↓upd_def, ↓evT, ↓aop, ↓aopc, ↓aopd, Nat.reduceEqDiff, Nat.reduceAdd, Nat.reduceLeDiff, Nat.reduceLT, Nat.reduceSub, Int.reduceToNat, ↓reduceIte, reduceCtorEq, strs_len]; (repeat (refine And.intro ?_ ?_; focus (first | omega | assumption | with_reducible rfl | (simp only [go_sem, ↓upd_def, ↓evT, ↓aop, ↓aopc, ↓aopd, Nat.reduceEqDiff, Nat.reduceAdd, Nat.reduceLeDiff, Nat.reduceLT, Nat.reduceSub, Int.reduceToNat, ↓reduceIte, reduceCtorEq, strs_len]; done)))); intros; apply hk; clear hk K) | ((first | apply qg1 rfl | apply qcd); focus (simp only [go_sem, ↓upd_def, ↓evT, ↓aop, ↓aopc, ↓aopd, Nat.reduceEqDiff, Nat.reduceAdd, Nat.reduceLeDiff, Nat.reduceLT, Nat.reduceSub, Int.reduceToNat, ↓reduceIte, reduceCtorEq, strs_len]; exact rfl)) | (refine qj6 ?_ ?_ <;> intro hc <;> (try simp only [hc]) <;> (try simp only [decide_eq_true_eq, decide_eq_false_iff_not, Bool.not_eq_true', Bool.not_eq_false', Bool.not_eq_true, reduceCtorEq] at hc) <;> (try (exfalso; omega))) | (refine qk1 ?_ ?_; focus (repeat (first | exact qsub0 | (refine qsub1 ?_ ?_; focus (simp only [go_sem, ↓upd_def, ↓evT, ↓aop, ↓aopc, ↓aopd, Nat.reduceEqDiff, Nat.reduceAdd, Nat.reduceLeDiff, Nat.reduceLT, Nat.reduceSub, Int.reduceToNat, ↓reduceIte, reduceCtorEq, strs_len]))))) | (refine qt7 ?_ ?_; focus decide) | (refine qw7 ?_ ?_ ?_; (focus (decide +kernel)); (focus (decide +kernel))))
    ((first | refine fin_ret ?_ | refine fin_end ?_); simp only [go_sem, ↓upd_def, Nat.reduceEqDiff, Nat.reduceAdd, ↓reduceIte, reduceCtorEq])
    refine K_bool hK (decide_eq_true ?_)
    rw [List.take_length] at he
    rw [he, List.take_of_length_le (by omega)]
@[go_sem] def mkSsC : AC := wrtF 9 1 (α := List Bs × Int) (fun x => [.int .i64 x.2]) (fun x => strs x.1) (fun x => x.1.length ≤ 16777216 ∧ 0 ≤ x.2 ∧ x.2 ≤ 16777216) (fun x => .int .i64 (x.2 + x.1.length)) (fun x => strs (marks x.2 x.1.length))
theorem mkSs_ok : ACok Try.prog 26 mkSsC := by
  refine wrtF_ok ?_
  refine wrtO_ok 2 (tabA_nil (Γof_ok (tab_cons mark_ok tab_nil))) (tab_cons mark_ok tab_nil) mixed [.tmp 4] Try.func26 rfl rfl (by kernel_rfl) (by kernel_rfl) (fun _ => rfl) (by kernel_rfl) (fun x => by simp [nmbL, PV.nmb]) ?_
  rintro ⟨l, k⟩ K ⟨h0, h1, h2⟩ hK
  dsimp only at *
  unfold entry
  repeat' (first | (refine qwd fun K hk => ?_; simp only [lvT2_26, mkT, go_sem, ↓upd_def, ↓evT, ↓aop, ↓aopc, ↓aopd, Nat.reduceEqDiff, Nat.reduceAdd, Nat.reduceLeDiff, Nat.reduceLT, Nat.reduceSub, Int.reduceToNat, ↓reduceIte, reduceCtorEq, strs_len]; apply hk; clear hk K) | refine qw8 ?_ | refine qw1 ?_ | refine qwc lvT2_26 ?_ | refine qt1 ?_ | refine qw5 ?_ | refine qw2 ?_ | refine qw9 ?_ | refine qt2 ?_ | refine qt3 ?_ | refine qt4 ?_ | refine qt5 ?_ | refine qt6 ?_ | refine qw3 ?_ | refine qw4 ?_ | refine qj1 ?_ | refine qj2 ?_ | refine qj3 ?_ | refine qj4 ?_ | refine qj5 ?_ | refine qu1 ?_ | refine qu2 ?_ | refine qne ?_ | refine qyn ?_ | refine qyz ?_ | refine qy0 ?_ | refine qnt rfl rfl ?_ | refine qnf rfl rfl ?_ | refine qyc rfl ?_ | refine qy1 rfl ?_ | refine qy2 rfl ?_ ?_ | ((first | refine qa1 fun K hk => ?_ | refine qa2 fun K hk => ?_ | refine qa3 fun K hk => ?_ | refine qh1 fun K hk => ?_ | refine qh2 fun K hk => ?_ | refine qm1 fun K hk => ?_ | refine qm2 fun K hk => ?_ | refine qm3 fun K hk => ?_); simp only [go_sem, ↓upd_def, ↓evT, ↓aop, ↓aopc, ↓aopd, Nat.reduceEqDiff, Nat.reduceAdd, Nat.reduceLeDiff, Nat.reduceLT, Nat.reduceSub, Int.reduceToNat, ↓reduceIte, reduceCtorEq, strs_len]; (repeat (refine And.intro ?_ ?_; focus (first | omega | assumption | with_reducible rfl | (simp only [go_sem, ↓upd_def, ↓evT, ↓aop, ↓aopc, ↓aopd, Nat.reduceEqDiff, Nat.reduceAdd, Nat.reduceLeDiff, Nat.reduceLT, Nat.reduceSub, Int.reduceToNat, ↓reduceIte, reduceCtorEq, strs_len]; done)))); intros; apply hk; clear hk K) | ((first | apply qg1 rfl | apply qcd); focus (simp only [go_sem, ↓upd_def, ↓evT, ↓aop, ↓aopc, ↓aopd, Nat.reduceEqDiff, Nat.reduceAdd, Nat.reduceLeDiff, Nat.reduceLT, Nat.reduceSub, Int.reduceToNat, ↓reduceIte, reduceCtorEq, strs_len]; exact rfl)) | (refine qj6 ?_ ?_ <;> intro hc <;> (try simp only [hc]) <;> (try simp only [decide_eq_true_eq, decide_eq_false_iff_not, Bool.not_eq_true', Bool.not_eq_false', Bool.not_eq_true, reduceCtorEq] at hc) <;> (try (exfalso; omega))) | (refine qk1 ?_ ?_; focus (repeat (first | exact qsub0 | (refine qsub1 ?_ ?_; focus (simp only [go_sem, ↓upd_def, ↓evT, ↓aop, ↓aopc, ↓aopd, Nat.reduceEqDiff, Nat.reduceAdd, Nat.reduceLeDiff, Nat.reduceLT, Nat.reduceSub, Int.reduceToNat, ↓reduceIte, reduceCtorEq, strs_len]))))) | (refine qt7 ?_ ?_; focus decide) | (refine qw7 ?_ ?_ ?_; (focus (decide +kernel)); (focus (decide +kernel))))
  refine s_loop (ι := Nat) (fun j => [(0, .own 0), (1, .int .i64 (k + j)), (5, .int .i64 j)]) (fun j => [(0, .row 9 1 (strs (marks k j ++ l.drop j)))]) 1 (fun j => j ≤ l.length) (fun j => l.length - j) 0 (by omega) (by omega) ?_ ?_
  · simp [fits, fitsT, fitsM, upd_def, PV.nmb, nmbL, MB.nmb, List.getD_cons_zero, List.getD_cons_succ, marks, mkM]
  rintro j hj
  have hml := marks_len j k
  have hL : (strs (marks k j ++ l.drop j)).length = l.length := by rw [strs_len, List.length_append, hml, List.length_drop]; omega
  simp only [mkS, mkT, mkM]
  by_cases hjl : j < l.length
  · obtain ⟨x, hx⟩ := get_some (xs := l) (k := j) hjl
    have gx : (strs (marks k j ++ l.drop j))[j]? = some [.str x] := by
      rw [strs_get, List.getElem?_append_right (by omega), hml, Nat.sub_self, List.getElem?_drop, Nat.add_zero, hx]; rfl
    repeat' (first | (refine qwd fun K hk => ?_; simp only [lvT2_26, mkT, go_sem, ↓upd_def, ↓evT, ↓aop, ↓aopc, ↓aopd, Nat.reduceEqDiff, Nat.reduceAdd, Nat.reduceLeDiff, Nat.reduceLT, Nat.reduceSub, Int.reduceToNat, ↓reduceIte, reduceCtorEq, hL, gx]; apply hk; clear hk K) | refine qw8 ?_ | refine qw1 ?_ | refine qwc lvT2_26 ?_ | refine qt1 ?_ | refine qw5 ?_ | refine qw2 ?_ | refine qw9 ?_ | refine qt2 ?_ | refine qt3 ?_ | refine qt4 ?_ | refine qt5 ?_ | refine qt6 ?_ | refine qw3 ?_ | refine qw4 ?_ | refine qj1 ?_ | refine qj2 ?_ | refine qj3 ?_ | refine qj4 ?_ | refine qj5 ?_ | refine qu1 ?_ | refine qu2 ?_ | refine qne ?_ | refine qyn ?_ | refine qyz ?_ | refine qy0 ?_ | refine qnt rfl rfl ?_ | refine qnf rfl rfl ?_ | refine qyc rfl ?_ | refine qy1 rfl ?_ | refine qy2 rfl ?_ ?_ | ((first | refine qa1 fun K hk => ?_ | refine qa2 fun K hk => ?_ | refine qa3 fun K hk => ?_ | refine qh1 fun K hk => ?_ | refine qh2 fun K hk => ?_ | refine qm1 fun K hk => ?_ | refine qm2 fun K hk => ?_ | refine qm3 fun K hk => ?_); simp only [go_sem, ↓upd_def, ↓evT, ↓aop, ↓aopc, ↓aopd, Nat.reduceEqDiff, Nat.reduceAdd, Nat.reduceLeDiff, Nat.reduceLT, Nat.reduceSub, Int.reduceToNat, ↓reduceIte, reduceCtorEq, hL, gx]; (repeat (refine And.intro ?_ ?_; focus (first | omega | assumption | with_reducible rfl | (simp only [go_sem, ↓upd_def, ↓evT, ↓aop, ↓aopc, ↓aopd, Nat.reduceEqDiff, Nat.reduceAdd, Nat.reduceLeDiff, Nat.reduceLT, Nat.reduceSub, Int.reduceToNat, ↓reduceIte, reduceCtorEq, hL, gx]; done)))); intros; apply hk; clear hk K) | ((first | apply qg1 rfl | apply qcd); focus (simp only [go_sem, ↓upd_def, ↓evT, ↓aop, ↓aopc, ↓aopd, Nat.reduceEqDiff, Nat.reduceAdd, Nat.reduceLeDiff, Nat.reduceLT, Nat.reduceSub, Int.reduceToNat, ↓reduceIte, reduceCtorEq, hL, gx]; exact rfl)) | (refine qj6 ?_ ?_ <;> intro hc <;> (try simp only [hc]) <;> (try simp only [decide_eq_true_eq, decide_eq_false_iff_not, Bool.not_eq_true', Bool.not_eq_false', Bool.not_eq_true, reduceCtorEq] at hc) <;> (try (exfalso; omega))) | (refine qk1 ?_ ?_; focus (repeat (first | exact qsub0 | (refine qsub1 ?_ ?_; focus (simp only [go_sem, ↓upd_def, ↓evT, ↓aop, ↓aopc, ↓aopd, Nat.reduceEqDiff, Nat.reduceAdd, Nat.reduceLeDiff, Nat.reduceLT, Nat.reduceSub, Int.reduceToNat, ↓reduceIte, reduceCtorEq, hL, gx]))))) | (refine qt7 ?_ ?_; focus decide) | (refine qw7 ?_ ?_ ?_; (focus (decide +kernel)); (focus (decide +kernel))))
    refine s_again (j + 1) ?_ ?_ ?_ <;> (first | omega | (dsimp only; omega) | skip)
    simp [fits, fitsT, fitsM, upd_def, PV.nmb, nmbL, MB.nmb, List.getD_cons_zero, List.getD_cons_succ, strs_set, marks_set hjl]
    omega
  · obtain rfl : j = l.length := by omega
    repeat' (first | (refine qwd fun K hk => ?_; simp only [lvT2_26, mkT, go_sem, ↓upd_def, ↓evT, ↓aop, ↓aopc, ↓aopd, Nat.reduceEqDiff, Nat.reduceAdd, Nat.reduceLeDiff, Nat.reduceLT, Nat.reduceSub, Int.reduceToNat, ↓reduceIte, reduceCtorEq, hL]; apply hk; clear hk K) | refine qw8 ?_ | refine qw1 ?_ | refine qwc lvT2_26 ?_ | refine qt1 ?_ | refine qw5 ?_ | refine qw2 ?_ | refine qw9 ?_ | refine qt2 ?_ | refine qt3 ?_ | refine qt4 ?_ | refine qt5 ?_ | refine qt6 ?_ | refine qw3 ?_ | refine qw4 ?_ | refine qj1 ?_ | refine qj2 ?_ | refine qj3 ?_ | refine qj4 ?_ | refine qj5 ?_ | refine qu1 ?_ | refine qu2 ?_ | refine qne ?_ | refine qyn ?_ | refine qyz ?_ | refine qy0 ?_ | refine qnt rfl rfl ?_ | refine qnf rfl rfl ?_ | refine qyc rfl ?_ | refine qy1 rfl ?_ | refine qy2 rfl ?_ ?_ | ((first | refine qa1 fun K hk => ?_ | refine qa2 fun K hk => ?_ | refine qa3 fun K hk => ?_ | refine qh1 fun K hk => ?_ | refine qh2 fun K hk => ?_ | refine qm1 fun K hk => ?_ | refine qm2 fun K hk => ?_ | refine qm3 fun K hk => ?_); simp only [go_sem, ↓upd_def, ↓evT, ↓aop, ↓aopc, ↓aopd, Nat.reduceEqDiff, Nat.reduceAdd, Nat.reduceLeDiff, Nat.reduceLT, Nat.reduceSub, Int.reduceToNat, ↓reduceIte, reduceCtorEq, hL]; (repeat (refine And.intro ?_ ?_; focus (first | omega | assumption | with_reducible rfl | (simp only [go_sem, ↓upd_def, ↓evT, ↓aop, ↓aopc, ↓aopd, Nat.reduceEqDiff, Nat.reduceAdd, Nat.reduceLeDiff, Nat.reduceLT, Nat.reduceSub, Int.reduceToNat, ↓reduceIte, reduceCtorEq, hL]; done)))); intros; apply hk; clear hk K) | ((first | apply qg1 rfl | apply qcd); focus (simp only [go_sem, ↓upd_def, ↓evT, ↓aop, ↓aopc, ↓aopd, Nat.reduceEqDiff, Nat.reduceAdd, Nat.reduceLeDiff, Nat.reduceLT, Nat.reduceSub, Int.reduceToNat, ↓reduceIte, reduceCtorEq, hL]; exact rfl)) | (refine qj6 ?_ ?_ <;> intro hc <;> (try simp only [hc]) <;> (try simp only [decide_eq_true_eq, decide_eq_false_iff_not, Bool.not_eq_true', Bool.not_eq_false', Bool.not_eq_true, reduceCtorEq] at hc) <;> (try (exfalso; omega))) | (refine qk1 ?_ ?_; focus (repeat (first | exact qsub0 | (refine qsub1 ?_ ?_; focus (simp only [go_sem, ↓upd_def, ↓evT, ↓aop, ↓aopc, ↓aopd, Nat.reduceEqDiff, Nat.reduceAdd, Nat.reduceLeDiff, Nat.reduceLT, Nat.reduceSub, Int.reduceToNat, ↓reduceIte, reduceCtorEq, hL]))))) | (refine qt7 ?_ ?_; focus decide) | (refine qw7 ?_ ?_ ?_; (focus (decide +kernel)); (focus (decide +kernel))))
    ((first | refine fin_V ?_ | refine fin_Ve ?_ | refine fin_O ?_ | refine fin_Oe ?_ | refine fin_X ?_ | refine fin_Xe ?_ | refine fin_B ?_ | refine fin_Be ?_); simp only [go_sem, PV.own.injEq, MB.row.injEq, MB.nmb, not_false_eq_true, ne_eq, ↓upd_def, Nat.reduceEqDiff, Nat.reduceAdd, ↓reduceIte, reduceCtorEq])
    exact hK _ _ ⟨rfl, by rw [List.drop_of_length_le (Nat.le_refl _), List.append_nil]⟩
def heldM (l : List Bs) (k : Int) : Int := if l = marks k l.length then k + l.length else -1
theorem heldM_marks (n : Nat) (k : Int) : heldM (marks k n) k = k + n := by unfold heldM; rw [marks_len, if_pos rfl]
@[go_sem] def hlSsC : PC := rel (α := List Bs × Int) (fun x => [.seq (strs x.1), .int .i64 x.2]) (fun x => okSs x.1 ∧ x.1.length ≤ 16777216 ∧ 0 ≤ x.2 ∧ x.2 ≤ 16777216) (fun x => .int .i64 (heldM x.1 x.2))
theorem hlSs_ok : PureOk Try.prog 27 hlSsC := by
  refine pure_rel 2 (tab_cons mark_ok tab_nil) mixed [.tmp 4] Try.func27 rfl rfl (by kernel_rfl) (by kernel_rfl) (fun _ => rfl) (by kernel_rfl) ?_
  rintro ⟨l, k⟩ K ⟨⟨_, h3⟩, h0, h1, h2⟩ hK
  dsimp only at *
  unfold entry
  repeat' (first | (refine qwd fun K hk => ?_; simp only [lvT2_27, mkT, go_sem, ↓upd_def, ↓evT, ↓aop, ↓aopc, ↓aopd, Nat.reduceEqDiff, Nat.reduceAdd, Nat.reduceLeDiff, Nat.reduceLT, Nat.reduceSub, Int.reduceToNat, ↓reduceIte, reduceCtorEq, strs_len]; apply hk; clear hk K) | refine qw8 ?_ | refine qw1 ?_ | refine qwc lvT2_27 ?_ | refine qt1 ?_ | refine qw5 ?_ | refine qw2 ?_ | refine qw9 ?_ | refine qt2 ?_ | refine qt3 ?_ | refine qt4 ?_ | refine qt5 ?_ | refine qt6 ?_ | refine qw3 ?_ | refine qw4 ?_ | refine qj1 ?_ | refine qj2 ?_ | refine qj3 ?_ | refine qj4 ?_ | refine qj5 ?_ | refine qu1 ?_ | refine qu2 ?_ | refine qne ?_ | refine qyn ?_ | refine qyz ?_ | refine qy0 ?_ | refine qnt rfl rfl ?_ | refine qnf rfl rfl ?_ | refine qyc rfl ?_ | refine qy1 rfl ?_ | refine qy2 rfl ?_ ?_ | ((first | refine qa1 fun K hk => ?_ | refine qa2 fun K hk => ?_ | refine qa3 fun K hk => ?_ | refine qh1 fun K hk => ?_ | refine qh2 fun K hk => ?_ | refine qm1 fun K hk => ?_ | refine qm2 fun K hk => ?_ | refine qm3 fun K hk => ?_); simp only [go_sem, ↓upd_def, ↓evT, ↓aop, ↓aopc, ↓aopd, Nat.reduceEqDiff, Nat.reduceAdd, Nat.reduceLeDiff, Nat.reduceLT, Nat.reduceSub, Int.reduceToNat, ↓reduceIte, reduceCtorEq, strs_len]; (repeat (refine And.intro ?_ ?_; focus (first | omega | assumption | with_reducible rfl | (simp only [go_sem, ↓upd_def, ↓evT, ↓aop, ↓aopc, ↓aopd, Nat.reduceEqDiff, Nat.reduceAdd, Nat.reduceLeDiff, Nat.reduceLT, Nat.reduceSub, Int.reduceToNat, ↓reduceIte, reduceCtorEq, strs_len]; done)))); intros; apply hk; clear hk K) | ((first | apply qg1 rfl | apply qcd); focus (simp only [go_sem, ↓upd_def, ↓evT, ↓aop, ↓aopc, ↓aopd, Nat.reduceEqDiff, Nat.reduceAdd, Nat.reduceLeDiff, Nat.reduceLT, Nat.reduceSub, Int.reduceToNat, ↓reduceIte, reduceCtorEq, strs_len]; exact rfl)) | (refine qj6 ?_ ?_ <;> intro hc <;> (try simp only [hc]) <;> (try simp only [decide_eq_true_eq, decide_eq_false_iff_not, Bool.not_eq_true', Bool.not_eq_false', Bool.not_eq_true, reduceCtorEq] at hc) <;> (try (exfalso; omega))) | (refine qk1 ?_ ?_; focus (repeat (first | exact qsub0 | (refine qsub1 ?_ ?_; focus (simp only [go_sem, ↓upd_def, ↓evT, ↓aop, ↓aopc, ↓aopd, Nat.reduceEqDiff, Nat.reduceAdd, Nat.reduceLeDiff, Nat.reduceLT, Nat.reduceSub, Int.reduceToNat, ↓reduceIte, reduceCtorEq, strs_len]))))) | (refine qt7 ?_ ?_; focus decide) | (refine qw7 ?_ ?_ ?_; (focus (decide +kernel)); (focus (decide +kernel))))
  refine s_loop (ι := Nat) (fun j => [(0, .seq (strs l)), (1, .int .i64 (k + j)), (5, .int .i64 j)]) (fun j => []) 0 (fun j => j ≤ l.length ∧ l.take j = marks k j) (fun j => l.length - j) 0 (by omega) ⟨by omega, by simp [marks]⟩ ?_ ?_
  · simp [fits, fitsT, fitsM, upd_def, PV.nmb, nmbL, MB.nmb, List.getD_cons_zero, List.getD_cons_succ]
  rintro j ⟨hj, he⟩
  simp only [mkS, mkT, mkM]
  by_cases hjl : j < l.length
  · obtain ⟨x, hx⟩ := get_some (xs := l) (k := j) hjl
    have gx : (strs l)[j]? = some [.str x] := by rw [strs_get, hx]; rfl
    repeat' (first | (refine qwd fun K hk => ?_; simp only [lvT2_27, mkT, go_sem, ↓upd_def, ↓evT, ↓aop, ↓aopc, ↓aopd, Nat.reduceEqDiff, Nat.reduceAdd, Nat.reduceLeDiff, Nat.reduceLT, Nat.reduceSub, Int.reduceToNat, ↓reduceIte, reduceCtorEq, strs_len, gx]; apply hk; clear hk K) | refine qw8 ?_ | refine qw1 ?_ | refine qwc lvT2_27 ?_ | refine qt1 ?_ | refine qw5 ?_ | refine qw2 ?_ | refine qw9 ?_ | refine qt2 ?_ | refine qt3 ?_ | refine qt4 ?_ | refine qt5 ?_ | refine qt6 ?_ | refine qw3 ?_ | refine qw4 ?_ | refine qj1 ?_ | refine qj2 ?_ | refine qj3 ?_ | refine qj4 ?_ | refine qj5 ?_ | refine qu1 ?_ | refine qu2 ?_ | refine qne ?_ | refine qyn ?_ | refine qyz ?_ | refine qy0 ?_ | refine qnt rfl rfl ?_ | refine qnf rfl rfl ?_ | refine qyc rfl ?_ | refine qy1 rfl ?_ | refine qy2 rfl ?_ ?_ | ((first | refine qa1 fun K hk => ?_ | refine qa2 fun K hk => ?_ | refine qa3 fun K hk => ?_ | refine qh1 fun K hk => ?_ | refine qh2 fun K hk => ?_ | refine qm1 fun K hk => ?_ | refine qm2 fun K hk => ?_ | refine qm3 fun K hk => ?_); simp only [go_sem, ↓upd_def, ↓evT, ↓aop, ↓aopc, ↓aopd, Nat.reduceEqDiff, Nat.reduceAdd, Nat.reduceLeDiff, Nat.reduceLT, Nat.reduceSub, Int.reduceToNat, ↓reduceIte, reduceCtorEq, strs_len, gx]; (repeat (refine And.intro ?_ ?_; focus (first | omega | assumption | with_reducible rfl | (simp only [go_sem, ↓upd_def, ↓evT, ↓aop, ↓aopc, ↓aopd, Nat.reduceEqDiff, Nat.reduceAdd, Nat.reduceLeDiff, Nat.reduceLT, Nat.reduceSub, Int.reduceToNat, ↓reduceIte, reduceCtorEq, strs_len, gx]; done)))); intros; apply hk; clear hk K) | ((first | apply qg1 rfl | apply qcd); focus (simp only [go_sem, ↓upd_def, ↓evT, ↓aop, ↓aopc, ↓aopd, Nat.reduceEqDiff, Nat.reduceAdd, Nat.reduceLeDiff, Nat.reduceLT, Nat.reduceSub, Int.reduceToNat, ↓reduceIte, reduceCtorEq, strs_len, gx]; exact rfl)) | (refine qj6 ?_ ?_ <;> intro hc <;> (try simp only [hc]) <;> (try simp only [decide_eq_true_eq, decide_eq_false_iff_not, Bool.not_eq_true', Bool.not_eq_false', Bool.not_eq_true, reduceCtorEq] at hc) <;> (try (exfalso; omega))) | (refine qk1 ?_ ?_; focus (repeat (first | exact qsub0 | (refine qsub1 ?_ ?_; focus (simp only [go_sem, ↓upd_def, ↓evT, ↓aop, ↓aopc, ↓aopd, Nat.reduceEqDiff, Nat.reduceAdd, Nat.reduceLeDiff, Nat.reduceLT, Nat.reduceSub, Int.reduceToNat, ↓reduceIte, reduceCtorEq, strs_len, gx]))))) | (refine qt7 ?_ ?_; focus decide) | (refine qw7 ?_ ?_ ?_; (focus (decide +kernel)); (focus (decide +kernel))))
    · ((first | refine fin_ret ?_ | refine fin_end ?_); simp only [go_sem, ↓upd_def, Nat.reduceEqDiff, Nat.reduceAdd, ↓reduceIte, reduceCtorEq])
      have hne : ¬ x = markB (k + j) := ‹_›
      refine K_int hK ?_
      unfold heldM
      rw [if_neg]
      intro e
      have h8 := marks_get l.length k j hjl
      rw [← e, hx] at h8
      exact hne (Option.some.inj h8)
    · have hne : x = markB (k + j) := ‹_›
      refine s_again (j + 1) ?_ ?_ ?_ <;> (first | omega | (dsimp only; omega) | skip)
      · refine ⟨by omega, ?_⟩
        rw [take_snoc' hx, he, marks_snoc, hne]
      · simp [fits, fitsT, fitsM, upd_def, PV.nmb, nmbL, MB.nmb, List.getD_cons_zero, List.getD_cons_succ]
        omega
  · obtain rfl : j = l.length := by omega
    repeat' (first | (refine qwd fun K hk => ?_; simp only [lvT2_27, mkT, go_sem, ↓upd_def, ↓evT, ↓aop, ↓aopc, ↓aopd, Nat.reduceEqDiff, Nat.reduceAdd, Nat.reduceLeDiff, Nat.reduceLT, Nat.reduceSub, Int.reduceToNat, ↓reduceIte, reduceCtorEq, strs_len]; apply hk; clear hk K) | refine qw8 ?_ | refine qw1 ?_ | refine qwc lvT2_27 ?_ | refine qt1 ?_ | refine qw5 ?_ | refine qw2 ?_ | refine qw9 ?_ | refine qt2 ?_ | refine qt3 ?_ | refine qt4 ?_ | refine qt5 ?_ | refine qt6 ?_ | refine qw3 ?_ | refine qw4 ?_ | refine qj1 ?_ | refine qj2 ?_ | refine qj3 ?_ | refine qj4 ?_ | refine qj5 ?_ | refine qu1 ?_ | refine qu2 ?_ | refine qne ?_ | refine qyn ?_ | refine qyz ?_ | refine qy0 ?_ | refine qnt rfl rfl ?_ | refine qnf rfl rfl ?_ | refine qyc rfl ?_ | refine qy1 rfl ?_ | refine qy2 rfl ?_ ?_ | ((first | refine qa1 fun K hk => ?_ | refine qa2 fun K hk => ?_ | refine qa3 fun K hk => ?_ | refine qh1 fun K hk => ?_ | refine qh2 fun K hk => ?_ | refine qm1 fun K hk => ?_ | refine qm2 fun K hk => ?_ | refine qm3 fun K hk => ?_); simp only [go_sem, ↓upd_def, ↓evT, ↓aop, ↓aopc, ↓aopd, Nat.reduceEqDiff, Nat.reduceAdd, Nat.reduceLeDiff, Nat.reduceLT, Nat.reduceSub, Int.reduceToNat, ↓reduceIte, reduceCtorEq, strs_len]; (repeat (refine And.intro ?_ ?_; focus (first | omega | assumption | with_reducible rfl | (simp only [go_sem, ↓upd_def, ↓evT, ↓aop, ↓aopc, ↓aopd, Nat.reduceEqDiff, Nat.reduceAdd, Nat.reduceLeDiff, Nat.reduceLT, Nat.reduceSub, Int.reduceToNat, ↓reduceIte, reduceCtorEq, strs_len]; done)))); intros; apply hk; clear hk K) | ((first | apply qg1 rfl | apply qcd); focus (simp only [go_sem, ↓upd_def, ↓evT, ↓aop, ↓aopc, ↓aopd, Nat.reduceEqDiff, Nat.reduceAdd, Nat.reduceLeDiff, Nat.reduceLT, Nat.reduceSub, Int.reduceToNat, ↓reduceIte, reduceCtorEq, strs_len]; exact rfl)) | (refine qj6 ?_ ?_ <;> intro hc <;> (try simp only [hc]) <;> (try simp only [decide_eq_true_eq, decide_eq_false_iff_not, Bool.not_eq_true', Bool.not_eq_false', Bool.not_eq_true, reduceCtorEq] at hc) <;> (try (exfalso; omega))) | (refine qk1 ?_ ?_; focus (repeat (first | exact qsub0 | (refine qsub1 ?_ ?_; focus (simp only [go_sem, ↓upd_def, ↓evT, ↓aop, ↓aopc, ↓aopd, Nat.reduceEqDiff, Nat.reduceAdd, Nat.reduceLeDiff, Nat.reduceLT, Nat.reduceSub, Int.reduceToNat, ↓reduceIte, reduceCtorEq, strs_len]))))) | (refine qt7 ?_ ?_; focus decide) | (refine qw7 ?_ ?_ ?_; (focus (decide +kernel)); (focus (decide +kernel))))
    ((first | refine fin_ret ?_ | refine fin_end ?_); simp only [go_sem, ↓upd_def, Nat.reduceEqDiff, Nat.reduceAdd, ↓reduceIte, reduceCtorEq])
    rw [List.take_length] at he
    unfold heldM at hK
    rw [if_pos he] at hK
    exact hK
/-! ### Filled holes -/
def encH (x : Int × Bs) : List PV := [.int .i64 x.1, .str x.2]
theorem encH_mk (p : Int) (t : Bs) : encH (p, t) = [.int .i64 p, .str t] := rfl
def encHs (l : List (Int × Bs)) : List (List PV) := l.map encH
theorem encHs_len (l : List (Int × Bs)) : (encHs l).length = l.length := by simp [encHs]
theorem encHs_get (l : List (Int × Bs)) (k : Nat) : (encHs l)[k]? = (l[k]?).map encH := by simp [encHs]
theorem encH_inj {x y : Int × Bs} : encH x = encH y ↔ x = y := by
  cases x; cases y; simp [encH]
@[go_sem] theorem encHs_inj {a b : List (Int × Bs)} : encHs a = encHs b ↔ a = b := by
  constructor
  · intro h
    unfold encHs at h
    exact (List.map_inj_right (fun x y e => encH_inj.1 e)).1 h
  · rintro rfl; rfl
theorem encHs_append (a b : List (Int × Bs)) : encHs (a ++ b) = encHs a ++ encHs b := by simp [encHs]
theorem encHs_plain (l : List (Int × Bs)) : (encHs l).all (·.all plainU) = true := by simp [encHs, encH, plainU]
theorem encHs_cell (l : List (Int × Bs)) : ∀ e ∈ encHs l, e.length = 2 := by
  intro e he
  obtain ⟨x, _, rfl⟩ := List.mem_map.1 he
  rfl
theorem strs_cell (l : List Bs) : ∀ e ∈ strs l, e.length = 1 := by
  intro e he
  obtain ⟨x, _, rfl⟩ := List.mem_map.1 he
  rfl
def okH (l : List (Int × Bs)) : Prop := l.length ≤ 9223372036854775807 ∧ ∀ x ∈ l, x.2.length ≤ 9223372036854775807
def wtH (l : List (Int × Bs)) : Nat := (l.map fun x => x.2.length).sum
theorem wtH_snoc {l : List (Int × Bs)} {k : Nat} {x : Int × Bs} (h : l[k]? = some x) : wtH (l.take (k + 1)) = wtH (l.take k) + x.2.length := by
  rw [take_snoc' h]; simp [wtH]
theorem wtH_append (a b : List (Int × Bs)) : wtH (a ++ b) = wtH a + wtH b := by simp [wtH]
theorem wtH_le (l : List (Int × Bs)) (k : Nat) : wtH (l.take k) ≤ wtH l := by
  have := wtH_append (l.take k) (l.drop k)
  rw [List.take_append_drop] at this
  omega
theorem wtH_mem : ∀ {l : List (Int × Bs)} {x : Int × Bs}, x ∈ l → x.2.length ≤ wtH l
  | [], x, h => by simp at h
  | y :: l, x, h => by
    have e : wtH (y :: l) = y.2.length + wtH l := by simp [wtH]
    rcases List.mem_cons.1 h with rfl | h
    · omega
    · have := wtH_mem h; omega
theorem mem_of_get {α : Type} {l : List α} {k : Nat} {x : α} (h : l[k]? = some x) : x ∈ l := by
  obtain ⟨h1, rfl⟩ := List.getElem?_eq_some_iff.1 h
  exact List.getElem_mem h1
@[go_sem] def szHC : PC := rel (α := (Int × Bs) × Int) (fun x => [.agg (encH x.1), .int .i64 x.2]) (fun x => x.1.2.length ≤ 9223372036854775807 ∧ 0 ≤ x.2 ∧ x.2 ≤ 1048576) (fun x => .int .i64 (leftI x.2 x.1.2.length))
theorem szH_ok : PureOk Try.prog 71 szHC := by
  refine pure_rel 2 tab_nil mixed [.tmp 4] Try.func71 rfl rfl (by kernel_rfl) (by kernel_rfl) (fun _ => rfl) (by kernel_rfl) ?_
  rintro ⟨⟨p, t⟩, m⟩ K ⟨h0, h1, h2⟩ hK
  simp only [encH] at *
  unfold entry
  repeat' (first | (refine qwd fun K hk => ?_; simp only [lvT2_71, mkT, go_sem, ↓upd_def, ↓evT, ↓aop, ↓aopc, ↓aopd, Nat.reduceEqDiff, Nat.reduceAdd, Nat.reduceLeDiff, Nat.reduceLT, Nat.reduceSub, Int.reduceToNat, ↓reduceIte, reduceCtorEq]; apply hk; clear hk K) | refine qw8 ?_ | refine qw1 ?_ | refine qwc lvT2_71 ?_ | refine qt1 ?_ | refine qw5 ?_ | refine qw2 ?_ | refine qw9 ?_ | refine qt2 ?_ | refine qt3 ?_ | refine qt4 ?_ | refine qt5 ?_ | refine qt6 ?_ | refine qw3 ?_ | refine qw4 ?_ | refine qj1 ?_ | refine qj2 ?_ | refine qj3 ?_ | refine qj4 ?_ | refine qj5 ?_ | refine qu1 ?_ | refine qu2 ?_ | refine qne ?_ | refine qyn ?_ | refine qyz ?_ | refine qy0 ?_ | refine qnt rfl rfl ?_ | refine qnf rfl rfl ?_ | refine qyc rfl ?_ | refine qy1 rfl ?_ | refine qy2 rfl ?_ ?_ | ((first | refine qa1 fun K hk => ?_ | refine qa2 fun K hk => ?_ | refine qa3 fun K hk => ?_ | refine qh1 fun K hk => ?_ | refine qh2 fun K hk => ?_ | refine qm1 fun K hk => ?_ | refine qm2 fun K hk => ?_ | refine qm3 fun K hk => ?_); simp only [go_sem, ↓upd_def, ↓evT, ↓aop, ↓aopc, ↓aopd, Nat.reduceEqDiff, Nat.reduceAdd, Nat.reduceLeDiff, Nat.reduceLT, Nat.reduceSub, Int.reduceToNat, ↓reduceIte, reduceCtorEq]; (repeat (refine And.intro ?_ ?_; focus (first | omega | assumption | with_reducible rfl | (simp only [go_sem, ↓upd_def, ↓evT, ↓aop, ↓aopc, ↓aopd, Nat.reduceEqDiff, Nat.reduceAdd, Nat.reduceLeDiff, Nat.reduceLT, Nat.reduceSub, Int.reduceToNat, ↓reduceIte, reduceCtorEq]; done)))); intros; apply hk; clear hk K) | ((first | apply qg1 rfl | apply qcd); focus (simp only [go_sem, ↓upd_def, ↓evT, ↓aop, ↓aopc, ↓aopd, Nat.reduceEqDiff, Nat.reduceAdd, Nat.reduceLeDiff, Nat.reduceLT, Nat.reduceSub, Int.reduceToNat, ↓reduceIte, reduceCtorEq]; exact rfl)) | (refine qj6 ?_ ?_ <;> intro hc <;> (try simp only [hc]) <;> (try simp only [decide_eq_true_eq, decide_eq_false_iff_not, Bool.not_eq_true', Bool.not_eq_false', Bool.not_eq_true, reduceCtorEq] at hc) <;> (try (exfalso; omega))) | (refine qk1 ?_ ?_; focus (repeat (first | exact qsub0 | (refine qsub1 ?_ ?_; focus (simp only [go_sem, ↓upd_def, ↓evT, ↓aop, ↓aopc, ↓aopd, Nat.reduceEqDiff, Nat.reduceAdd, Nat.reduceLeDiff, Nat.reduceLT, Nat.reduceSub, Int.reduceToNat, ↓reduceIte, reduceCtorEq]))))) | (refine qt7 ?_ ?_; focus decide) | (refine qw7 ?_ ?_ ?_; (focus (decide +kernel)); (focus (decide +kernel))))
  all_goals
    ((first | refine fin_ret ?_ | refine fin_end ?_); simp only [go_sem, ↓upd_def, Nat.reduceEqDiff, Nat.reduceAdd, ↓reduceIte, reduceCtorEq])
    refine K_int hK ?_
    unfold leftI
    split <;> omega
@[go_sem] def szHsC : PC := rel (α := List (Int × Bs) × Int) (fun x => [.seq (encHs x.1), .int .i64 x.2]) (fun x => okH x.1 ∧ 0 ≤ x.2 ∧ x.2 ≤ 1048576) (fun x => .int .i64 (leftI x.2 (x.1.length + wtH x.1)))
theorem szHs_ok : PureOk Try.prog 19 szHsC := by
  refine pure_rel 2 (tab_cons szH_ok tab_nil) mixed [.tmp 4] Try.func19 rfl rfl (by kernel_rfl) (by kernel_rfl) (fun _ => rfl) (by kernel_rfl) ?_
  rintro ⟨l, m⟩ K ⟨⟨h0, h3⟩, h1, h2⟩ hK
  dsimp only at *
  unfold entry
  repeat' (first | (refine qwd fun K hk => ?_; simp only [lvT2_19, mkT, go_sem, ↓upd_def, ↓evT, ↓aop, ↓aopc, ↓aopd, Nat.reduceEqDiff, Nat.reduceAdd, Nat.reduceLeDiff, Nat.reduceLT, Nat.reduceSub, Int.reduceToNat, ↓reduceIte, reduceCtorEq, encHs_len]; apply hk; clear hk K) | refine qw8 ?_ | refine qw1 ?_ | refine qwc lvT2_19 ?_ | refine qt1 ?_ | refine qw5 ?_ | refine qw2 ?_ | refine qw9 ?_ | refine qt2 ?_ | refine qt3 ?_ | refine qt4 ?_ | refine qt5 ?_ | refine qt6 ?_ | refine qw3 ?_ | refine qw4 ?_ | refine qj1 ?_ | refine qj2 ?_ | refine qj3 ?_ | refine qj4 ?_ | refine qj5 ?_ | refine qu1 ?_ | refine qu2 ?_ | refine qne ?_ | refine qyn ?_ | refine qyz ?_ | refine qy0 ?_ | refine qnt rfl rfl ?_ | refine qnf rfl rfl ?_ | refine qyc rfl ?_ | refine qy1 rfl ?_ | refine qy2 rfl ?_ ?_ | ((first | refine qa1 fun K hk => ?_ | refine qa2 fun K hk => ?_ | refine qa3 fun K hk => ?_ | refine qh1 fun K hk => ?_ | refine qh2 fun K hk => ?_ | refine qm1 fun K hk => ?_ | refine qm2 fun K hk => ?_ | refine qm3 fun K hk => ?_); simp only [go_sem, ↓upd_def, ↓evT, ↓aop, ↓aopc, ↓aopd, Nat.reduceEqDiff, Nat.reduceAdd, Nat.reduceLeDiff, Nat.reduceLT, Nat.reduceSub, Int.reduceToNat, ↓reduceIte, reduceCtorEq, encHs_len]; (repeat (refine And.intro ?_ ?_; focus (first | omega | assumption | with_reducible rfl | (simp only [go_sem, ↓upd_def, ↓evT, ↓aop, ↓aopc, ↓aopd, Nat.reduceEqDiff, Nat.reduceAdd, Nat.reduceLeDiff, Nat.reduceLT, Nat.reduceSub, Int.reduceToNat, ↓reduceIte, reduceCtorEq, encHs_len]; done)))); intros; apply hk; clear hk K) | ((first | apply qg1 rfl | apply qcd); focus (simp only [go_sem, ↓upd_def, ↓evT, ↓aop, ↓aopc, ↓aopd, Nat.reduceEqDiff, Nat.reduceAdd, Nat.reduceLeDiff, Nat.reduceLT, Nat.reduceSub, Int.reduceToNat, ↓reduceIte, reduceCtorEq, encHs_len]; exact rfl)) | (refine qj6 ?_ ?_ <;> intro hc <;> (try simp only [hc]) <;> (try simp only [decide_eq_true_eq, decide_eq_false_iff_not, Bool.not_eq_true', Bool.not_eq_false', Bool.not_eq_true, reduceCtorEq] at hc) <;> (try (exfalso; omega))) | (refine qk1 ?_ ?_; focus (repeat (first | exact qsub0 | (refine qsub1 ?_ ?_; focus (simp only [go_sem, ↓upd_def, ↓evT, ↓aop, ↓aopc, ↓aopd, Nat.reduceEqDiff, Nat.reduceAdd, Nat.reduceLeDiff, Nat.reduceLT, Nat.reduceSub, Int.reduceToNat, ↓reduceIte, reduceCtorEq, encHs_len]))))) | (refine qt7 ?_ ?_; focus decide) | (refine qw7 ?_ ?_ ?_; (focus (decide +kernel)); (focus (decide +kernel))))
  · ((first | refine fin_ret ?_ | refine fin_end ?_); simp only [go_sem, ↓upd_def, Nat.reduceEqDiff, Nat.reduceAdd, ↓reduceIte, reduceCtorEq])
    refine K_int hK ?_
    unfold leftI
    split <;> omega
  refine s_loop (ι := Nat) (fun k => [(0, .seq (encHs l)), (1, .int .i64 (m - l.length - wtH (l.take k))), (5, .int .i64 k)]) (fun _ => []) 0 (fun k => k ≤ l.length ∧ 0 ≤ m - l.length - wtH (l.take k)) (fun k => l.length - k) 0 (by omega) ⟨by omega, by simp [wtH]; omega⟩ ?_ ?_
  · simp [fits, fitsT, fitsM, upd_def, PV.nmb, nmbL, MB.nmb, List.getD_cons_zero, List.getD_cons_succ, wtH]
  rintro k ⟨hk, he⟩
  simp only [mkS, mkT, mkM]
  by_cases hka : k < l.length
  · obtain ⟨⟨p, t⟩, hx⟩ := get_some (xs := l) (k := k) hka
    have ga : (encHs l)[k]? = some [.int .i64 p, .str t] := by rw [encHs_get, hx]; rfl
    have hxl := h3 _ (mem_of_get hx)
    have hw := wtH_snoc hx
    have hwl := wtH_le l (k + 1)
    dsimp only at hxl hw
    repeat' (first | (refine qwd fun K hk => ?_; simp only [lvT2_19, mkT, go_sem, ↓upd_def, ↓evT, ↓aop, ↓aopc, ↓aopd, Nat.reduceEqDiff, Nat.reduceAdd, Nat.reduceLeDiff, Nat.reduceLT, Nat.reduceSub, Int.reduceToNat, ↓reduceIte, reduceCtorEq, encHs_len, ga, encH_mk]; apply hk; clear hk K) | refine qw8 ?_ | refine qw1 ?_ | refine qwc lvT2_19 ?_ | refine qt1 ?_ | refine qw5 ?_ | refine qw2 ?_ | refine qw9 ?_ | refine qt2 ?_ | refine qt3 ?_ | refine qt4 ?_ | refine qt5 ?_ | refine qt6 ?_ | refine qw3 ?_ | refine qw4 ?_ | refine qj1 ?_ | refine qj2 ?_ | refine qj3 ?_ | refine qj4 ?_ | refine qj5 ?_ | refine qu1 ?_ | refine qu2 ?_ | refine qne ?_ | refine qyn ?_ | refine qyz ?_ | refine qy0 ?_ | refine qnt rfl rfl ?_ | refine qnf rfl rfl ?_ | refine qyc rfl ?_ | refine qy1 rfl ?_ | refine qy2 rfl ?_ ?_ | ((first | refine qa1 fun K hk => ?_ | refine qa2 fun K hk => ?_ | refine qa3 fun K hk => ?_ | refine qh1 fun K hk => ?_ | refine qh2 fun K hk => ?_ | refine qm1 fun K hk => ?_ | refine qm2 fun K hk => ?_ | refine qm3 fun K hk => ?_); simp only [go_sem, ↓upd_def, ↓evT, ↓aop, ↓aopc, ↓aopd, Nat.reduceEqDiff, Nat.reduceAdd, Nat.reduceLeDiff, Nat.reduceLT, Nat.reduceSub, Int.reduceToNat, ↓reduceIte, reduceCtorEq, encHs_len, ga, encH_mk]; (repeat (refine And.intro ?_ ?_; focus (first | omega | assumption | with_reducible rfl | (simp only [go_sem, ↓upd_def, ↓evT, ↓aop, ↓aopc, ↓aopd, Nat.reduceEqDiff, Nat.reduceAdd, Nat.reduceLeDiff, Nat.reduceLT, Nat.reduceSub, Int.reduceToNat, ↓reduceIte, reduceCtorEq, encHs_len, ga, encH_mk]; done)))); intros; apply hk; clear hk K) | ((first | apply qg1 rfl | apply qcd); focus (simp only [go_sem, ↓upd_def, ↓evT, ↓aop, ↓aopc, ↓aopd, Nat.reduceEqDiff, Nat.reduceAdd, Nat.reduceLeDiff, Nat.reduceLT, Nat.reduceSub, Int.reduceToNat, ↓reduceIte, reduceCtorEq, encHs_len, ga, encH_mk]; exact rfl)) | (refine qj6 ?_ ?_ <;> intro hc <;> (try simp only [hc]) <;> (try simp only [decide_eq_true_eq, decide_eq_false_iff_not, Bool.not_eq_true', Bool.not_eq_false', Bool.not_eq_true, reduceCtorEq] at hc) <;> (try (exfalso; omega))) | (refine qk1 ?_ ?_; focus (repeat (first | exact qsub0 | (refine qsub1 ?_ ?_; focus (simp only [go_sem, ↓upd_def, ↓evT, ↓aop, ↓aopc, ↓aopd, Nat.reduceEqDiff, Nat.reduceAdd, Nat.reduceLeDiff, Nat.reduceLT, Nat.reduceSub, Int.reduceToNat, ↓reduceIte, reduceCtorEq, encHs_len, ga, encH_mk]))))) | (refine qt7 ?_ ?_; focus decide) | (refine qw7 ?_ ?_ ?_; (focus (decide +kernel)); (focus (decide +kernel))))
    · ((first | refine fin_ret ?_ | refine fin_end ?_); simp only [go_sem, ↓upd_def, Nat.reduceEqDiff, Nat.reduceAdd, ↓reduceIte, reduceCtorEq])
      have h9 := leftI_neg ‹_›
      refine K_int hK ?_
      unfold leftI
      split <;> omega
    · have h9 := leftI_pos ‹_›
      rw [h9.2]
      refine s_again (k + 1) ?_ ?_ ?_ <;> (first | omega | (dsimp only; omega) | skip)
      simp [fits, fitsT, fitsM, upd_def, PV.nmb, nmbL, MB.nmb, List.getD_cons_zero, List.getD_cons_succ, hw]
      omega
  · obtain rfl : k = l.length := by omega
    repeat' (first | (refine qwd fun K hk => ?_; simp only [lvT2_19, mkT, go_sem, ↓upd_def, ↓evT, ↓aop, ↓aopc, ↓aopd, Nat.reduceEqDiff, Nat.reduceAdd, Nat.reduceLeDiff, Nat.reduceLT, Nat.reduceSub, Int.reduceToNat, ↓reduceIte, reduceCtorEq, encHs_len]; apply hk; clear hk K) | refine qw8 ?_ | refine qw1 ?_ | refine qwc lvT2_19 ?_ | refine qt1 ?_ | refine qw5 ?_ | refine qw2 ?_ | refine qw9 ?_ | refine qt2 ?_ | refine qt3 ?_ | refine qt4 ?_ | refine qt5 ?_ | refine qt6 ?_ | refine qw3 ?_ | refine qw4 ?_ | refine qj1 ?_ | refine qj2 ?_ | refine qj3 ?_ | refine qj4 ?_ | refine qj5 ?_ | refine qu1 ?_ | refine qu2 ?_ | refine qne ?_ | refine qyn ?_ | refine qyz ?_ | refine qy0 ?_ | refine qnt rfl rfl ?_ | refine qnf rfl rfl ?_ | refine qyc rfl ?_ | refine qy1 rfl ?_ | refine qy2 rfl ?_ ?_ | ((first | refine qa1 fun K hk => ?_ | refine qa2 fun K hk => ?_ | refine qa3 fun K hk => ?_ | refine qh1 fun K hk => ?_ | refine qh2 fun K hk => ?_ | refine qm1 fun K hk => ?_ | refine qm2 fun K hk => ?_ | refine qm3 fun K hk => ?_); simp only [go_sem, ↓upd_def, ↓evT, ↓aop, ↓aopc, ↓aopd, Nat.reduceEqDiff, Nat.reduceAdd, Nat.reduceLeDiff, Nat.reduceLT, Nat.reduceSub, Int.reduceToNat, ↓reduceIte, reduceCtorEq, encHs_len]; (repeat (refine And.intro ?_ ?_; focus (first | omega | assumption | with_reducible rfl | (simp only [go_sem, ↓upd_def, ↓evT, ↓aop, ↓aopc, ↓aopd, Nat.reduceEqDiff, Nat.reduceAdd, Nat.reduceLeDiff, Nat.reduceLT, Nat.reduceSub, Int.reduceToNat, ↓reduceIte, reduceCtorEq, encHs_len]; done)))); intros; apply hk; clear hk K) | ((first | apply qg1 rfl | apply qcd); focus (simp only [go_sem, ↓upd_def, ↓evT, ↓aop, ↓aopc, ↓aopd, Nat.reduceEqDiff, Nat.reduceAdd, Nat.reduceLeDiff, Nat.reduceLT, Nat.reduceSub, Int.reduceToNat, ↓reduceIte, reduceCtorEq, encHs_len]; exact rfl)) | (refine qj6 ?_ ?_ <;> intro hc <;> (try simp only [hc]) <;> (try simp only [decide_eq_true_eq, decide_eq_false_iff_not, Bool.not_eq_true', Bool.not_eq_false', Bool.not_eq_true, reduceCtorEq] at hc) <;> (try (exfalso; omega))) | (refine qk1 ?_ ?_; focus (repeat (first | exact qsub0 | (refine qsub1 ?_ ?_; focus (simp only [go_sem, ↓upd_def, ↓evT, ↓aop, ↓aopc, ↓aopd, Nat.reduceEqDiff, Nat.reduceAdd, Nat.reduceLeDiff, Nat.reduceLT, Nat.reduceSub, Int.reduceToNat, ↓reduceIte, reduceCtorEq, encHs_len]))))) | (refine qt7 ?_ ?_; focus decide) | (refine qw7 ?_ ?_ ?_; (focus (decide +kernel)); (focus (decide +kernel))))
    ((first | refine fin_ret ?_ | refine fin_end ?_); simp only [go_sem, ↓upd_def, Nat.reduceEqDiff, Nat.reduceAdd, ↓reduceIte, reduceCtorEq])
    refine K_int hK ?_
    rw [List.take_length] at *
    unfold leftI
    split <;> omega
@[go_sem] def toHC : PC := rel (α := Int × Bs) (fun x => [.agg (encH x)]) (fun x => x.2.length ≤ 9223372036854775807) (fun x => .agg (encH x))
theorem toH_ok : PureOk Try.prog 72 toHC := by
  refine pure_rel 1 tab_nil mixed [.cell 2 87] Try.func72 rfl rfl (by kernel_rfl) (by kernel_rfl) (fun _ => rfl) (by kernel_rfl) ?_
  rintro ⟨p, t⟩ K hl hK
  simp only [encH] at *
  unfold entry
  repeat' (first | (refine qwd fun K hk => ?_; simp only [lvT2_72, mkT, go_sem, ↓upd_def, ↓evT, ↓aop, ↓aopc, ↓aopd, Nat.reduceEqDiff, Nat.reduceAdd, Nat.reduceLeDiff, Nat.reduceLT, Nat.reduceSub, Int.reduceToNat, ↓reduceIte, reduceCtorEq]; apply hk; clear hk K) | refine qw8 ?_ | refine qw1 ?_ | refine qwc lvT2_72 ?_ | refine qt1 ?_ | refine qw5 ?_ | refine qw2 ?_ | refine qw9 ?_ | refine qt2 ?_ | refine qt3 ?_ | refine qt4 ?_ | refine qt5 ?_ | refine qt6 ?_ | refine qw3 ?_ | refine qw4 ?_ | refine qj1 ?_ | refine qj2 ?_ | refine qj3 ?_ | refine qj4 ?_ | refine qj5 ?_ | refine qu1 ?_ | refine qu2 ?_ | refine qne ?_ | refine qyn ?_ | refine qyz ?_ | refine qy0 ?_ | refine qnt rfl rfl ?_ | refine qnf rfl rfl ?_ | refine qyc rfl ?_ | refine qy1 rfl ?_ | refine qy2 rfl ?_ ?_ | ((first | refine qa1 fun K hk => ?_ | refine qa2 fun K hk => ?_ | refine qa3 fun K hk => ?_ | refine qh1 fun K hk => ?_ | refine qh2 fun K hk => ?_ | refine qm1 fun K hk => ?_ | refine qm2 fun K hk => ?_ | refine qm3 fun K hk => ?_); simp only [go_sem, ↓upd_def, ↓evT, ↓aop, ↓aopc, ↓aopd, Nat.reduceEqDiff, Nat.reduceAdd, Nat.reduceLeDiff, Nat.reduceLT, Nat.reduceSub, Int.reduceToNat, ↓reduceIte, reduceCtorEq]; (repeat (refine And.intro ?_ ?_; focus (first | omega | assumption | with_reducible rfl | (simp only [go_sem, ↓upd_def, ↓evT, ↓aop, ↓aopc, ↓aopd, Nat.reduceEqDiff, Nat.reduceAdd, Nat.reduceLeDiff, Nat.reduceLT, Nat.reduceSub, Int.reduceToNat, ↓reduceIte, reduceCtorEq]; done)))); intros; apply hk; clear hk K) | ((first | apply qg1 rfl | apply qcd); focus (simp only [go_sem, ↓upd_def, ↓evT, ↓aop, ↓aopc, ↓aopd, Nat.reduceEqDiff, Nat.reduceAdd, Nat.reduceLeDiff, Nat.reduceLT, Nat.reduceSub, Int.reduceToNat, ↓reduceIte, reduceCtorEq]; exact rfl)) | (refine qj6 ?_ ?_ <;> intro hc <;> (try simp only [hc]) <;> (try simp only [decide_eq_true_eq, decide_eq_false_iff_not, Bool.not_eq_true', Bool.not_eq_false', Bool.not_eq_true, reduceCtorEq] at hc) <;> (try (exfalso; omega))) | (refine qk1 ?_ ?_; focus (repeat (first | exact qsub0 | (refine qsub1 ?_ ?_; focus (simp only [go_sem, ↓upd_def, ↓evT, ↓aop, ↓aopc, ↓aopd, Nat.reduceEqDiff, Nat.reduceAdd, Nat.reduceLeDiff, Nat.reduceLT, Nat.reduceSub, Int.reduceToNat, ↓reduceIte, reduceCtorEq]))))) | (refine qt7 ?_ ?_; focus decide) | (refine qw7 ?_ ?_ ?_; (focus (decide +kernel)); (focus (decide +kernel))))
  ((first | refine fin_ret ?_ | refine fin_end ?_); simp only [go_sem, ↓upd_def, Nat.reduceEqDiff, Nat.reduceAdd, ↓reduceIte, reduceCtorEq])
  exact ⟨by omega, hK⟩
@[go_sem] def toHsC : AC := newO 87 2 (α := List (Int × Bs)) (fun x => [.seq (encHs x)]) (fun x => okH x ∧ x.length ≤ 1048576) (fun x es => es = encHs x)
theorem toHs_ok : ACok Try.prog 21 toHsC := by
  refine newO_ok 1 (tabA_nil (Γof_ok (tab_cons toH_ok tab_nil))) (tab_cons toH_ok tab_nil) mixed [.tmp 2] Try.func21 rfl rfl (by kernel_rfl) (by kernel_rfl) (fun _ => rfl) (by kernel_rfl) (fun x => by simp [nmbL, PV.nmb]) ?_ ?_
  · rintro x es rfl; exact encHs_plain x
  rintro l K ⟨⟨h0, h2⟩, h1⟩ hK
  unfold entry
  repeat' (first | (refine qwd fun K hk => ?_; simp only [lvT2_21, mkT, go_sem, ↓upd_def, ↓evT, ↓aop, ↓aopc, ↓aopd, Nat.reduceEqDiff, Nat.reduceAdd, Nat.reduceLeDiff, Nat.reduceLT, Nat.reduceSub, Int.reduceToNat, ↓reduceIte, reduceCtorEq, encHs_len]; apply hk; clear hk K) | refine qw8 ?_ | refine qw1 ?_ | refine qwc lvT2_21 ?_ | refine qt1 ?_ | refine qw5 ?_ | refine qw2 ?_ | refine qw9 ?_ | refine qt2 ?_ | refine qt3 ?_ | refine qt4 ?_ | refine qt5 ?_ | refine qt6 ?_ | refine qw3 ?_ | refine qw4 ?_ | refine qj1 ?_ | refine qj2 ?_ | refine qj3 ?_ | refine qj4 ?_ | refine qj5 ?_ | refine qu1 ?_ | refine qu2 ?_ | refine qne ?_ | refine qyn ?_ | refine qyz ?_ | refine qy0 ?_ | refine qnt rfl rfl ?_ | refine qnf rfl rfl ?_ | refine qyc rfl ?_ | refine qy1 rfl ?_ | refine qy2 rfl ?_ ?_ | ((first | refine qa1 fun K hk => ?_ | refine qa2 fun K hk => ?_ | refine qa3 fun K hk => ?_ | refine qh1 fun K hk => ?_ | refine qh2 fun K hk => ?_ | refine qm1 fun K hk => ?_ | refine qm2 fun K hk => ?_ | refine qm3 fun K hk => ?_); simp only [go_sem, ↓upd_def, ↓evT, ↓aop, ↓aopc, ↓aopd, Nat.reduceEqDiff, Nat.reduceAdd, Nat.reduceLeDiff, Nat.reduceLT, Nat.reduceSub, Int.reduceToNat, ↓reduceIte, reduceCtorEq, encHs_len]; (repeat (refine And.intro ?_ ?_; focus (first | omega | assumption | with_reducible rfl | (simp only [go_sem, ↓upd_def, ↓evT, ↓aop, ↓aopc, ↓aopd, Nat.reduceEqDiff, Nat.reduceAdd, Nat.reduceLeDiff, Nat.reduceLT, Nat.reduceSub, Int.reduceToNat, ↓reduceIte, reduceCtorEq, encHs_len]; done)))); intros; apply hk; clear hk K) | ((first | apply qg1 rfl | apply qcd); focus (simp only [go_sem, ↓upd_def, ↓evT, ↓aop, ↓aopc, ↓aopd, Nat.reduceEqDiff, Nat.reduceAdd, Nat.reduceLeDiff, Nat.reduceLT, Nat.reduceSub, Int.reduceToNat, ↓reduceIte, reduceCtorEq, encHs_len]; exact rfl)) | (refine qj6 ?_ ?_ <;> intro hc <;> (try simp only [hc]) <;> (try simp only [decide_eq_true_eq, decide_eq_false_iff_not, Bool.not_eq_true', Bool.not_eq_false', Bool.not_eq_true, reduceCtorEq] at hc) <;> (try (exfalso; omega))) | (refine qk1 ?_ ?_; focus (repeat (first | exact qsub0 | (refine qsub1 ?_ ?_; focus (simp only [go_sem, ↓upd_def, ↓evT, ↓aop, ↓aopc, ↓aopd, Nat.reduceEqDiff, Nat.reduceAdd, Nat.reduceLeDiff, Nat.reduceLT, Nat.reduceSub, Int.reduceToNat, ↓reduceIte, reduceCtorEq, encHs_len]))))) | (refine qt7 ?_ ?_; focus decide) | (refine qw7 ?_ ?_ ?_; (focus (decide +kernel)); (focus (decide +kernel))))
  refine s_loop (ι := Nat) (fun j => [(0, .seq (encHs l)), (3, .own 0), (4, .int .i64 j)]) (fun j => [(0, .row 87 2 (encHs (l.take j) ++ List.replicate (l.length - j) [PV.int .i64 0, PV.str []]))]) 1 (fun j => j ≤ l.length) (fun j => l.length - j) 0 (by omega) (by omega) ?_ ?_
  · simp [fits, fitsT, fitsM, upd_def, PV.nmb, nmbL, MB.nmb, List.getD_cons_zero, List.getD_cons_succ, encHs]
  rintro j hj
  have hL : (encHs (l.take j) ++ List.replicate (l.length - j) [PV.int .i64 0, PV.str []]).length = l.length := by rw [List.length_append, encHs_len, List.length_take, List.length_replicate]; omega
  simp only [mkS, mkT, mkM]
  by_cases hjl : j < l.length
  · obtain ⟨⟨p, t⟩, hx⟩ := get_some (xs := l) (k := j) hjl
    have ga : (encHs l)[j]? = some [.int .i64 p, .str t] := by rw [encHs_get, hx]; rfl
    have hxl := h2 _ (mem_of_get hx)
    dsimp only at hxl
    have gx : (encHs (l.take j) ++ List.replicate (l.length - j) [PV.int .i64 0, PV.str []])[j]? = some [.int .i64 0, .str []] := by
      rw [List.getElem?_append_right (by rw [encHs_len, List.length_take]; omega), encHs_len, List.length_take, List.getElem?_replicate, if_pos (by omega)]
    repeat' (first | (refine qwd fun K hk => ?_; simp only [lvT2_21, mkT, go_sem, ↓upd_def, ↓evT, ↓aop, ↓aopc, ↓aopd, Nat.reduceEqDiff, Nat.reduceAdd, Nat.reduceLeDiff, Nat.reduceLT, Nat.reduceSub, Int.reduceToNat, ↓reduceIte, reduceCtorEq, encHs_len, ga, gx, hL, encH_mk]; apply hk; clear hk K) | refine qw8 ?_ | refine qw1 ?_ | refine qwc lvT2_21 ?_ | refine qt1 ?_ | refine qw5 ?_ | refine qw2 ?_ | refine qw9 ?_ | refine qt2 ?_ | refine qt3 ?_ | refine qt4 ?_ | refine qt5 ?_ | refine qt6 ?_ | refine qw3 ?_ | refine qw4 ?_ | refine qj1 ?_ | refine qj2 ?_ | refine qj3 ?_ | refine qj4 ?_ | refine qj5 ?_ | refine qu1 ?_ | refine qu2 ?_ | refine qne ?_ | refine qyn ?_ | refine qyz ?_ | refine qy0 ?_ | refine qnt rfl rfl ?_ | refine qnf rfl rfl ?_ | refine qyc rfl ?_ | refine qy1 rfl ?_ | refine qy2 rfl ?_ ?_ | ((first | refine qa1 fun K hk => ?_ | refine qa2 fun K hk => ?_ | refine qa3 fun K hk => ?_ | refine qh1 fun K hk => ?_ | refine qh2 fun K hk => ?_ | refine qm1 fun K hk => ?_ | refine qm2 fun K hk => ?_ | refine qm3 fun K hk => ?_); simp only [go_sem, ↓upd_def, ↓evT, ↓aop, ↓aopc, ↓aopd, Nat.reduceEqDiff, Nat.reduceAdd, Nat.reduceLeDiff, Nat.reduceLT, Nat.reduceSub, Int.reduceToNat, ↓reduceIte, reduceCtorEq, encHs_len, ga, gx, hL, encH_mk]; (repeat (refine And.intro ?_ ?_; focus (first | omega | assumption | with_reducible rfl | (simp only [go_sem, ↓upd_def, ↓evT, ↓aop, ↓aopc, ↓aopd, Nat.reduceEqDiff, Nat.reduceAdd, Nat.reduceLeDiff, Nat.reduceLT, Nat.reduceSub, Int.reduceToNat, ↓reduceIte, reduceCtorEq, encHs_len, ga, gx, hL, encH_mk]; done)))); intros; apply hk; clear hk K) | ((first | apply qg1 rfl | apply qcd); focus (simp only [go_sem, ↓upd_def, ↓evT, ↓aop, ↓aopc, ↓aopd, Nat.reduceEqDiff, Nat.reduceAdd, Nat.reduceLeDiff, Nat.reduceLT, Nat.reduceSub, Int.reduceToNat, ↓reduceIte, reduceCtorEq, encHs_len, ga, gx, hL, encH_mk]; exact rfl)) | (refine qj6 ?_ ?_ <;> intro hc <;> (try simp only [hc]) <;> (try simp only [decide_eq_true_eq, decide_eq_false_iff_not, Bool.not_eq_true', Bool.not_eq_false', Bool.not_eq_true, reduceCtorEq] at hc) <;> (try (exfalso; omega))) | (refine qk1 ?_ ?_; focus (repeat (first | exact qsub0 | (refine qsub1 ?_ ?_; focus (simp only [go_sem, ↓upd_def, ↓evT, ↓aop, ↓aopc, ↓aopd, Nat.reduceEqDiff, Nat.reduceAdd, Nat.reduceLeDiff, Nat.reduceLT, Nat.reduceSub, Int.reduceToNat, ↓reduceIte, reduceCtorEq, encHs_len, ga, gx, hL, encH_mk]))))) | (refine qt7 ?_ ?_; focus decide) | (refine qw7 ?_ ?_ ?_; (focus (decide +kernel)); (focus (decide +kernel))))
    refine s_again (j + 1) ?_ ?_ ?_ <;> (first | omega | (dsimp only; omega) | skip)
    have hlt : (encHs (l.take j)).length = j := by rw [encHs_len, List.length_take]; omega
    have e1 : l.length - j = (l.length - (j + 1)) + 1 := by omega
    have e2 : encHs (l.take (j + 1)) = encHs (l.take j) ++ [[.int .i64 p, .str t]] := by rw [take_snoc' hx, encHs_append]; rfl
    have e3 : (encHs (l.take j) ++ List.replicate (l.length - j) [PV.int .i64 0, PV.str []]).set j [.int .i64 p, .str t] = encHs (l.take (j + 1)) ++ List.replicate (l.length - (j + 1)) [PV.int .i64 0, PV.str []] := by
      rw [List.set_append_right _ _ (by omega), hlt, Nat.sub_self, e1, List.replicate_succ, List.set_cons_zero, e2, List.append_assoc]; rfl
    simp [fits, fitsT, fitsM, upd_def, PV.nmb, nmbL, MB.nmb, List.getD_cons_zero, List.getD_cons_succ, e3]
  · obtain rfl : j = l.length := by omega
    repeat' (first | (refine qwd fun K hk => ?_; simp only [lvT2_21, mkT, go_sem, ↓upd_def, ↓evT, ↓aop, ↓aopc, ↓aopd, Nat.reduceEqDiff, Nat.reduceAdd, Nat.reduceLeDiff, Nat.reduceLT, Nat.reduceSub, Int.reduceToNat, ↓reduceIte, reduceCtorEq, encHs_len]; apply hk; clear hk K) | refine qw8 ?_ | refine qw1 ?_ | refine qwc lvT2_21 ?_ | refine qt1 ?_ | refine qw5 ?_ | refine qw2 ?_ | refine qw9 ?_ | refine qt2 ?_ | refine qt3 ?_ | refine qt4 ?_ | refine qt5 ?_ | refine qt6 ?_ | refine qw3 ?_ | refine qw4 ?_ | refine qj1 ?_ | refine qj2 ?_ | refine qj3 ?_ | refine qj4 ?_ | refine qj5 ?_ | refine qu1 ?_ | refine qu2 ?_ | refine qne ?_ | refine qyn ?_ | refine qyz ?_ | refine qy0 ?_ | refine qnt rfl rfl ?_ | refine qnf rfl rfl ?_ | refine qyc rfl ?_ | refine qy1 rfl ?_ | refine qy2 rfl ?_ ?_ | ((first | refine qa1 fun K hk => ?_ | refine qa2 fun K hk => ?_ | refine qa3 fun K hk => ?_ | refine qh1 fun K hk => ?_ | refine qh2 fun K hk => ?_ | refine qm1 fun K hk => ?_ | refine qm2 fun K hk => ?_ | refine qm3 fun K hk => ?_); simp only [go_sem, ↓upd_def, ↓evT, ↓aop, ↓aopc, ↓aopd, Nat.reduceEqDiff, Nat.reduceAdd, Nat.reduceLeDiff, Nat.reduceLT, Nat.reduceSub, Int.reduceToNat, ↓reduceIte, reduceCtorEq, encHs_len]; (repeat (refine And.intro ?_ ?_; focus (first | omega | assumption | with_reducible rfl | (simp only [go_sem, ↓upd_def, ↓evT, ↓aop, ↓aopc, ↓aopd, Nat.reduceEqDiff, Nat.reduceAdd, Nat.reduceLeDiff, Nat.reduceLT, Nat.reduceSub, Int.reduceToNat, ↓reduceIte, reduceCtorEq, encHs_len]; done)))); intros; apply hk; clear hk K) | ((first | apply qg1 rfl | apply qcd); focus (simp only [go_sem, ↓upd_def, ↓evT, ↓aop, ↓aopc, ↓aopd, Nat.reduceEqDiff, Nat.reduceAdd, Nat.reduceLeDiff, Nat.reduceLT, Nat.reduceSub, Int.reduceToNat, ↓reduceIte, reduceCtorEq, encHs_len]; exact rfl)) | (refine qj6 ?_ ?_ <;> intro hc <;> (try simp only [hc]) <;> (try simp only [decide_eq_true_eq, decide_eq_false_iff_not, Bool.not_eq_true', Bool.not_eq_false', Bool.not_eq_true, reduceCtorEq] at hc) <;> (try (exfalso; omega))) | (refine qk1 ?_ ?_; focus (repeat (first | exact qsub0 | (refine qsub1 ?_ ?_; focus (simp only [go_sem, ↓upd_def, ↓evT, ↓aop, ↓aopc, ↓aopd, Nat.reduceEqDiff, Nat.reduceAdd, Nat.reduceLeDiff, Nat.reduceLT, Nat.reduceSub, Int.reduceToNat, ↓reduceIte, reduceCtorEq, encHs_len]))))) | (refine qt7 ?_ ?_; focus decide) | (refine qw7 ?_ ?_ ?_; (focus (decide +kernel)); (focus (decide +kernel))))
    ((first | refine fin_V ?_ | refine fin_Ve ?_ | refine fin_O ?_ | refine fin_Oe ?_ | refine fin_X ?_ | refine fin_Xe ?_ | refine fin_B ?_ | refine fin_Be ?_); simp only [go_sem, PV.own.injEq, MB.row.injEq, MB.nmb, not_false_eq_true, ne_eq, ↓upd_def, Nat.reduceEqDiff, Nat.reduceAdd, ↓reduceIte, reduceCtorEq])
    exact hK _ (by rw [List.take_length, Nat.sub_self]; simp)
@[go_sem] def eqHC : PC := rel (α := (Int × Bs) × (Int × Bs)) (fun x => [.agg (encH x.1), .agg (encH x.2)]) (fun x => x.1.2.length ≤ 9223372036854775807 ∧ x.2.2.length ≤ 9223372036854775807) (fun x => .bool (decide (x.1 = x.2)))
theorem eqH_ok : PureOk Try.prog 73 eqHC := by
  refine pure_rel 2 tab_nil mixed [.tmp 4] Try.func73 rfl rfl (by kernel_rfl) (by kernel_rfl) (fun _ => rfl) (by kernel_rfl) ?_
  rintro ⟨⟨p, t⟩, q, u⟩ K ⟨h0, h1⟩ hK
  simp only [encH] at *
  unfold entry
  repeat' (first | (refine qwd fun K hk => ?_; simp only [lvT2_73, mkT, go_sem, ↓upd_def, ↓evT, ↓aop, ↓aopc, ↓aopd, Nat.reduceEqDiff, Nat.reduceAdd, Nat.reduceLeDiff, Nat.reduceLT, Nat.reduceSub, Int.reduceToNat, ↓reduceIte, reduceCtorEq]; apply hk; clear hk K) | refine qw8 ?_ | refine qw1 ?_ | refine qwc lvT2_73 ?_ | refine qt1 ?_ | refine qw5 ?_ | refine qw2 ?_ | refine qw9 ?_ | refine qt2 ?_ | refine qt3 ?_ | refine qt4 ?_ | refine qt5 ?_ | refine qt6 ?_ | refine qw3 ?_ | refine qw4 ?_ | refine qj1 ?_ | refine qj2 ?_ | refine qj3 ?_ | refine qj4 ?_ | refine qj5 ?_ | refine qu1 ?_ | refine qu2 ?_ | refine qne ?_ | refine qyn ?_ | refine qyz ?_ | refine qy0 ?_ | refine qnt rfl rfl ?_ | refine qnf rfl rfl ?_ | refine qyc rfl ?_ | refine qy1 rfl ?_ | refine qy2 rfl ?_ ?_ | ((first | refine qa1 fun K hk => ?_ | refine qa2 fun K hk => ?_ | refine qa3 fun K hk => ?_ | refine qh1 fun K hk => ?_ | refine qh2 fun K hk => ?_ | refine qm1 fun K hk => ?_ | refine qm2 fun K hk => ?_ | refine qm3 fun K hk => ?_); simp only [go_sem, ↓upd_def, ↓evT, ↓aop, ↓aopc, ↓aopd, Nat.reduceEqDiff, Nat.reduceAdd, Nat.reduceLeDiff, Nat.reduceLT, Nat.reduceSub, Int.reduceToNat, ↓reduceIte, reduceCtorEq]; (repeat (refine And.intro ?_ ?_; focus (first | omega | assumption | with_reducible rfl | (simp only [go_sem, ↓upd_def, ↓evT, ↓aop, ↓aopc, ↓aopd, Nat.reduceEqDiff, Nat.reduceAdd, Nat.reduceLeDiff, Nat.reduceLT, Nat.reduceSub, Int.reduceToNat, ↓reduceIte, reduceCtorEq]; done)))); intros; apply hk; clear hk K) | ((first | apply qg1 rfl | apply qcd); focus (simp only [go_sem, ↓upd_def, ↓evT, ↓aop, ↓aopc, ↓aopd, Nat.reduceEqDiff, Nat.reduceAdd, Nat.reduceLeDiff, Nat.reduceLT, Nat.reduceSub, Int.reduceToNat, ↓reduceIte, reduceCtorEq]; exact rfl)) | (refine qj6 ?_ ?_ <;> intro hc <;> (try simp only [hc]) <;> (try simp only [decide_eq_true_eq, decide_eq_false_iff_not, Bool.not_eq_true', Bool.not_eq_false', Bool.not_eq_true, reduceCtorEq] at hc) <;> (try (exfalso; omega))) | (refine qk1 ?_ ?_; focus (repeat (first | exact qsub0 | (refine qsub1 ?_ ?_; focus (simp only [go_sem, ↓upd_def, ↓evT, ↓aop, ↓aopc, ↓aopd, Nat.reduceEqDiff, Nat.reduceAdd, Nat.reduceLeDiff, Nat.reduceLT, Nat.reduceSub, Int.reduceToNat, ↓reduceIte, reduceCtorEq]))))) | (refine qt7 ?_ ?_; focus decide) | (refine qw7 ?_ ?_ ?_; (focus (decide +kernel)); (focus (decide +kernel))))
  all_goals
    ((first | refine fin_ret ?_ | refine fin_end ?_); simp only [go_sem, ↓upd_def, Nat.reduceEqDiff, Nat.reduceAdd, ↓reduceIte, reduceCtorEq])
    refine K_bool hK ?_
    simp [*]
@[go_sem] def eqHsC : PC := rel (α := List (Int × Bs) × List (Int × Bs)) (fun x => [.seq (encHs x.1), .seq (encHs x.2)]) (fun x => okH x.1 ∧ okH x.2) (fun x => .bool (decide (x.1 = x.2)))
theorem eqHs_ok : PureOk Try.prog 24 eqHsC := by
  refine pure_rel 2 (tab_cons eqH_ok tab_nil) mixed [.tmp 4] Try.func24 rfl rfl (by kernel_rfl) (by kernel_rfl) (fun _ => rfl) (by kernel_rfl) ?_
  rintro ⟨a, b⟩ K ⟨⟨ha, ha2⟩, hb, hb2⟩ hK
  dsimp only at *
  unfold entry
  repeat' (first | (refine qwd fun K hk => ?_; simp only [lvT2_24, mkT, go_sem, ↓upd_def, ↓evT, ↓aop, ↓aopc, ↓aopd, Nat.reduceEqDiff, Nat.reduceAdd, Nat.reduceLeDiff, Nat.reduceLT, Nat.reduceSub, Int.reduceToNat, ↓reduceIte, reduceCtorEq, encHs_len]; apply hk; clear hk K) | refine qw8 ?_ | refine qw1 ?_ | refine qwc lvT2_24 ?_ | refine qt1 ?_ | refine qw5 ?_ | refine qw2 ?_ | refine qw9 ?_ | refine qt2 ?_ | refine qt3 ?_ | refine qt4 ?_ | refine qt5 ?_ | refine qt6 ?_ | refine qw3 ?_ | refine qw4 ?_ | refine qj1 ?_ | refine qj2 ?_ | refine qj3 ?_ | refine qj4 ?_ | refine qj5 ?_ | refine qu1 ?_ | refine qu2 ?_ | refine qne ?_ | refine qyn ?_ | refine qyz ?_ | refine qy0 ?_ | refine qnt rfl rfl ?_ | refine qnf rfl rfl ?_ | refine qyc rfl ?_ | refine qy1 rfl ?_ | refine qy2 rfl ?_ ?_ | ((first | refine qa1 fun K hk => ?_ | refine qa2 fun K hk => ?_ | refine qa3 fun K hk => ?_ | refine qh1 fun K hk => ?_ | refine qh2 fun K hk => ?_ | refine qm1 fun K hk => ?_ | refine qm2 fun K hk => ?_ | refine qm3 fun K hk => ?_); simp only [go_sem, ↓upd_def, ↓evT, ↓aop, ↓aopc, ↓aopd, Nat.reduceEqDiff, Nat.reduceAdd, Nat.reduceLeDiff, Nat.reduceLT, Nat.reduceSub, Int.reduceToNat, ↓reduceIte, reduceCtorEq, encHs_len]; (repeat (refine And.intro ?_ ?_; focus (first | omega | assumption | with_reducible rfl | (simp only [go_sem, ↓upd_def, ↓evT, ↓aop, ↓aopc, ↓aopd, Nat.reduceEqDiff, Nat.reduceAdd, Nat.reduceLeDiff, Nat.reduceLT, Nat.reduceSub, Int.reduceToNat, ↓reduceIte, reduceCtorEq, encHs_len]; done)))); intros; apply hk; clear hk K) | ((first | apply qg1 rfl | apply qcd); focus (simp only [go_sem, ↓upd_def, ↓evT, ↓aop, ↓aopc, ↓aopd, Nat.reduceEqDiff, Nat.reduceAdd, Nat.reduceLeDiff, Nat.reduceLT, Nat.reduceSub, Int.reduceToNat, ↓reduceIte, reduceCtorEq, encHs_len]; exact rfl)) | (refine qj6 ?_ ?_ <;> intro hc <;> (try simp only [hc]) <;> (try simp only [decide_eq_true_eq, decide_eq_false_iff_not, Bool.not_eq_true', Bool.not_eq_false', Bool.not_eq_true, reduceCtorEq] at hc) <;> (try (exfalso; omega))) | (refine qk1 ?_ ?_; focus (repeat (first | exact qsub0 | (refine qsub1 ?_ ?_; focus (simp only [go_sem, ↓upd_def, ↓evT, ↓aop, ↓aopc, ↓aopd, Nat.reduceEqDiff, Nat.reduceAdd, Nat.reduceLeDiff, Nat.reduceLT, Nat.reduceSub, Int.reduceToNat, ↓reduceIte, reduceCtorEq, encHs_len]))))) | (refine qt7 ?_ ?_; focus decide) | (refine qw7 ?_ ?_ ?_; (focus (decide +kernel)); (focus (decide +kernel))))
  · ((first | refine fin_ret ?_ | refine fin_end ?_); simp only [go_sem, ↓upd_def, Nat.reduceEqDiff, Nat.reduceAdd, ↓reduceIte, reduceCtorEq])
    refine K_bool hK (decide_eq_false ?_)
    rintro rfl; omega
  refine s_loop (ι := Nat) (fun k => [(0, .seq (encHs a)), (1, .seq (encHs b)), (5, .int .i64 k)]) (fun _ => []) 0 (fun k => k ≤ a.length ∧ a.take k = b.take k) (fun k => a.length - k) 0 (by omega) ⟨by omega, by simp⟩ ?_ ?_
  · simp [fits, fitsT, fitsM, upd_def, PV.nmb, nmbL, MB.nmb, List.getD_cons_zero, List.getD_cons_succ]
  rintro k ⟨hk, he⟩
  simp only [mkS, mkT, mkM]
  by_cases hka : k < a.length
  · obtain ⟨⟨p, t⟩, hx⟩ := get_some (xs := a) (k := k) hka
    obtain ⟨⟨q, u⟩, hy⟩ := get_some (xs := b) (k := k) (by omega)
    have ga : (encHs a)[k]? = some [.int .i64 p, .str t] := by rw [encHs_get, hx]; rfl
    have gb : (encHs b)[k]? = some [.int .i64 q, .str u] := by rw [encHs_get, hy]; rfl
    have hxl := ha2 _ (mem_of_get hx)
    have hyl := hb2 _ (mem_of_get hy)
    dsimp only at hxl hyl
    repeat' (first | (refine qwd fun K hk => ?_; simp only [lvT2_24, mkT, go_sem, ↓upd_def, ↓evT, ↓aop, ↓aopc, ↓aopd, Nat.reduceEqDiff, Nat.reduceAdd, Nat.reduceLeDiff, Nat.reduceLT, Nat.reduceSub, Int.reduceToNat, ↓reduceIte, reduceCtorEq, encHs_len, ga, gb, encH_mk]; apply hk; clear hk K) | refine qw8 ?_ | refine qw1 ?_ | refine qwc lvT2_24 ?_ | refine qt1 ?_ | refine qw5 ?_ | refine qw2 ?_ | refine qw9 ?_ | refine qt2 ?_ | refine qt3 ?_ | refine qt4 ?_ | refine qt5 ?_ | refine qt6 ?_ | refine qw3 ?_ | refine qw4 ?_ | refine qj1 ?_ | refine qj2 ?_ | refine qj3 ?_ | refine qj4 ?_ | refine qj5 ?_ | refine qu1 ?_ | refine qu2 ?_ | refine qne ?_ | refine qyn ?_ | refine qyz ?_ | refine qy0 ?_ | refine qnt rfl rfl ?_ | refine qnf rfl rfl ?_ | refine qyc rfl ?_ | refine qy1 rfl ?_ | refine qy2 rfl ?_ ?_ | ((first | refine qa1 fun K hk => ?_ | refine qa2 fun K hk => ?_ | refine qa3 fun K hk => ?_ | refine qh1 fun K hk => ?_ | refine qh2 fun K hk => ?_ | refine qm1 fun K hk => ?_ | refine qm2 fun K hk => ?_ | refine qm3 fun K hk => ?_); simp only [go_sem, ↓upd_def, ↓evT, ↓aop, ↓aopc, ↓aopd, Nat.reduceEqDiff, Nat.reduceAdd, Nat.reduceLeDiff, Nat.reduceLT, Nat.reduceSub, Int.reduceToNat, ↓reduceIte, reduceCtorEq, encHs_len, ga, gb, encH_mk]; (repeat (refine And.intro ?_ ?_; focus (first | omega | assumption | with_reducible rfl | (simp only [go_sem, ↓upd_def, ↓evT, ↓aop, ↓aopc, ↓aopd, Nat.reduceEqDiff, Nat.reduceAdd, Nat.reduceLeDiff, Nat.reduceLT, Nat.reduceSub, Int.reduceToNat, ↓reduceIte, reduceCtorEq, encHs_len, ga, gb, encH_mk]; done)))); intros; apply hk; clear hk K) | ((first | apply qg1 rfl | apply qcd); focus (simp only [go_sem, ↓upd_def, ↓evT, ↓aop, ↓aopc, ↓aopd, Nat.reduceEqDiff, Nat.reduceAdd, Nat.reduceLeDiff, Nat.reduceLT, Nat.reduceSub, Int.reduceToNat, ↓reduceIte, reduceCtorEq, encHs_len, ga, gb, encH_mk]; exact rfl)) | (refine qj6 ?_ ?_ <;> intro hc <;> (try simp only [hc]) <;> (try simp only [decide_eq_true_eq, decide_eq_false_iff_not, Bool.not_eq_true', Bool.not_eq_false', Bool.not_eq_true, reduceCtorEq] at hc) <;> (try (exfalso; omega))) | (refine qk1 ?_ ?_; focus (repeat (first | exact qsub0 | (refine qsub1 ?_ ?_; focus (simp only [go_sem, ↓upd_def, ↓evT, ↓aop, ↓aopc, ↓aopd, Nat.reduceEqDiff, Nat.reduceAdd, Nat.reduceLeDiff, Nat.reduceLT, Nat.reduceSub, Int.reduceToNat, ↓reduceIte, reduceCtorEq, encHs_len, ga, gb, encH_mk]))))) | (refine qt7 ?_ ?_; focus decide) | (refine qw7 ?_ ?_ ?_; (focus (decide +kernel)); (focus (decide +kernel))))
    · ((first | refine fin_ret ?_ | refine fin_end ?_); simp only [go_sem, ↓upd_def, Nat.reduceEqDiff, Nat.reduceAdd, ↓reduceIte, reduceCtorEq])
      refine K_bool hK (decide_eq_false ?_)
      intro e
      rw [e, hy] at hx
      have hne : ¬ (p, t) = (q, u) := ‹_›
      exact hne (Option.some.inj hx).symm
    · refine s_again (k + 1) ?_ ?_ ?_ <;> (first | omega | (dsimp only; omega) | skip)
      · refine ⟨by omega, ?_⟩
        rw [take_snoc' hx, take_snoc' hy, he, show (p, t) = (q, u) from ‹_›]
      · simp [fits, fitsT, fitsM, upd_def, PV.nmb, nmbL, MB.nmb, List.getD_cons_zero, List.getD_cons_succ]
  · obtain rfl : k = a.length := by omega
    repeat' (first | (refine qwd fun K hk => ?_; simp only [lvT2_24, mkT, go_sem, ↓upd_def, ↓evT, ↓aop, ↓aopc, ↓aopd, Nat.reduceEqDiff, Nat.reduceAdd, Nat.reduceLeDiff, Nat.reduceLT, Nat.reduceSub, Int.reduceToNat, ↓reduceIte, reduceCtorEq, encHs_len]; apply hk; clear hk K) | refine qw8 ?_ | refine qw1 ?_ | refine qwc lvT2_24 ?_ | refine qt1 ?_ | refine qw5 ?_ | refine qw2 ?_ | refine qw9 ?_ | refine qt2 ?_ | refine qt3 ?_ | refine qt4 ?_ | refine qt5 ?_ | refine qt6 ?_ | refine qw3 ?_ | refine qw4 ?_ | refine qj1 ?_ | refine qj2 ?_ | refine qj3 ?_ | refine qj4 ?_ | refine qj5 ?_ | refine qu1 ?_ | refine qu2 ?_ | refine qne ?_ | refine qyn ?_ | refine qyz ?_ | refine qy0 ?_ | refine qnt rfl rfl ?_ | refine qnf rfl rfl ?_ | refine qyc rfl ?_ | refine qy1 rfl ?_ | refine qy2 rfl ?_ ?_ | ((first | refine qa1 fun K hk => ?_ | refine qa2 fun K hk => ?_ | refine qa3 fun K hk => ?_ | refine qh1 fun K hk => ?_ | refine qh2 fun K hk => ?_ | refine qm1 fun K hk => ?_ | refine qm2 fun K hk => ?_ | refine qm3 fun K hk => ?_); simp only [go_sem, ↓upd_def, ↓evT, ↓aop, ↓aopc, ↓aopd, Nat.reduceEqDiff, Nat.reduceAdd, Nat.reduceLeDiff, Nat.reduceLT, Nat.reduceSub, Int.reduceToNat, ↓reduceIte, reduceCtorEq, encHs_len]; (repeat (refine And.intro ?_ ?_; focus (first | omega | assumption | with_reducible rfl | (simp only [go_sem, ↓upd_def, ↓evT, ↓aop, ↓aopc, ↓aopd, Nat.reduceEqDiff, Nat.reduceAdd, Nat.reduceLeDiff, Nat.reduceLT, Nat.reduceSub, Int.reduceToNat, ↓reduceIte, reduceCtorEq, encHs_len]; done)))); intros; apply hk; clear hk K) | ((first | apply qg1 rfl | apply qcd); focus (simp only [go_sem, ↓upd_def, ↓evT, ↓aop, ↓aopc, ↓aopd, Nat.reduceEqDiff, Nat.reduceAdd, Nat.reduceLeDiff, Nat.reduceLT, Nat.reduceSub, Int.reduceToNat, ↓reduceIte, reduceCtorEq, encHs_len]; exact rfl)) | (refine qj6 ?_ ?_ <;> intro hc <;> (try simp only [hc]) <;> (try simp only [decide_eq_true_eq, decide_eq_false_iff_not, Bool.not_eq_true', Bool.not_eq_false', Bool.not_eq_true, reduceCtorEq] at hc) <;> (try (exfalso; omega))) | (refine qk1 ?_ ?_; focus (repeat (first | exact qsub0 | (refine qsub1 ?_ ?_; focus (simp only [go_sem, ↓upd_def, ↓evT, ↓aop, ↓aopc, ↓aopd, Nat.reduceEqDiff, Nat.reduceAdd, Nat.reduceLeDiff, Nat.reduceLT, Nat.reduceSub, Int.reduceToNat, ↓reduceIte, reduceCtorEq, encHs_len]))))) | (refine qt7 ?_ ?_; focus decide) | (refine qw7 ?_ ?_ ?_; (focus (decide +kernel)); (focus (decide +kernel))))
    ((first | refine fin_ret ?_ | refine fin_end ?_); simp only [go_sem, ↓upd_def, Nat.reduceEqDiff, Nat.reduceAdd, ↓reduceIte, reduceCtorEq])
    refine K_bool hK (decide_eq_true ?_)
    rw [List.take_length] at he
    rw [he, List.take_of_length_le (by omega)]
def marksH : Int → Nat → List (Int × Bs)
  | _, 0 => []
  | k, n + 1 => (k, markB (k + 1)) :: marksH (k + 2) n
theorem marksH_len : ∀ (n : Nat) (k : Int), (marksH k n).length = n
  | 0, _ => rfl
  | n + 1, k => by simp [marksH, marksH_len n]
theorem marksH_snoc : ∀ (n : Nat) (k : Int), marksH k (n + 1) = marksH k n ++ [(k + 2 * n, markB (k + 2 * n + 1))]
  | 0, k => by simp [marksH]
  | n + 1, k => by
    have := marksH_snoc n (k + 2)
    rw [marksH, this, marksH, List.cons_append, show k + 2 + 2 * (n : Int) = k + 2 * ((n + 1 : Nat) : Int) by omega]
theorem marksH_set {l : List (Int × Bs)} {k : Int} {j : Nat} (h : j < l.length) : (marksH k j ++ l.drop j).set j (k + 2 * j, markB (k + 2 * j + 1)) = marksH k (j + 1) ++ l.drop (j + 1) := by
  rw [List.set_append_right _ _ (by rw [marksH_len]; exact Nat.le_refl _), marksH_len, Nat.sub_self, List.drop_eq_getElem_cons h, List.set_cons_zero, marksH_snoc, List.append_assoc]; rfl
theorem encHs_set (l : List (Int × Bs)) (j : Nat) (p : Int) (t : Bs) : (encHs l).set j [.int .i64 p, .str t] = encHs (l.set j (p, t)) := by simp [encHs, List.map_set, encH]
theorem set_set {α : Type} (l : List α) (j : Nat) (a b : α) : (l.set j a).set j b = l.set j b := by simp
@[go_sem] def mkHsC : AC := wrtF 87 2 (α := List (Int × Bs) × Int) (fun x => [.int .i64 x.2]) (fun x => encHs x.1) (fun x => x.1.length ≤ 16777216 ∧ 0 ≤ x.2 ∧ x.2 ≤ 16777216) (fun x => .int .i64 (x.2 + 2 * x.1.length)) (fun x => encHs (marksH x.2 x.1.length))
theorem mkHs_ok : ACok Try.prog 25 mkHsC := by
  refine wrtF_ok ?_
  refine wrtO_ok 2 (tabA_nil (Γof_ok (tab_cons mark_ok tab_nil))) (tab_cons mark_ok tab_nil) mixed [.tmp 4] Try.func25 rfl rfl (by kernel_rfl) (by kernel_rfl) (fun _ => rfl) (by kernel_rfl) (fun x => by simp [nmbL, PV.nmb]) ?_
  rintro ⟨l, k⟩ K ⟨h0, h1, h2⟩ hK
  dsimp only at *
  unfold entry
  repeat' (first | (refine qwd fun K hk => ?_; simp only [lvT2_25, mkT, go_sem, ↓upd_def, ↓evT, ↓aop, ↓aopc, ↓aopd, Nat.reduceEqDiff, Nat.reduceAdd, Nat.reduceLeDiff, Nat.reduceLT, Nat.reduceSub, Int.reduceToNat, ↓reduceIte, reduceCtorEq, encHs_len]; apply hk; clear hk K) | refine qw8 ?_ | refine qw1 ?_ | refine qwc lvT2_25 ?_ | refine qt1 ?_ | refine qw5 ?_ | refine qw2 ?_ | refine qw9 ?_ | refine qt2 ?_ | refine qt3 ?_ | refine qt4 ?_ | refine qt5 ?_ | refine qt6 ?_ | refine qw3 ?_ | refine qw4 ?_ | refine qj1 ?_ | refine qj2 ?_ | refine qj3 ?_ | refine qj4 ?_ | refine qj5 ?_ | refine qu1 ?_ | refine qu2 ?_ | refine qne ?_ | refine qyn ?_ | refine qyz ?_ | refine qy0 ?_ | refine qnt rfl rfl ?_ | refine qnf rfl rfl ?_ | refine qyc rfl ?_ | refine qy1 rfl ?_ | refine qy2 rfl ?_ ?_ | ((first | refine qa1 fun K hk => ?_ | refine qa2 fun K hk => ?_ | refine qa3 fun K hk => ?_ | refine qh1 fun K hk => ?_ | refine qh2 fun K hk => ?_ | refine qm1 fun K hk => ?_ | refine qm2 fun K hk => ?_ | refine qm3 fun K hk => ?_); simp only [go_sem, ↓upd_def, ↓evT, ↓aop, ↓aopc, ↓aopd, Nat.reduceEqDiff, Nat.reduceAdd, Nat.reduceLeDiff, Nat.reduceLT, Nat.reduceSub, Int.reduceToNat, ↓reduceIte, reduceCtorEq, encHs_len]; (repeat (refine And.intro ?_ ?_; focus (first | omega | assumption | with_reducible rfl | (simp only [go_sem, ↓upd_def, ↓evT, ↓aop, ↓aopc, ↓aopd, Nat.reduceEqDiff, Nat.reduceAdd, Nat.reduceLeDiff, Nat.reduceLT, Nat.reduceSub, Int.reduceToNat, ↓reduceIte, reduceCtorEq, encHs_len]; done)))); intros; apply hk; clear hk K) | ((first | apply qg1 rfl | apply qcd); focus (simp only [go_sem, ↓upd_def, ↓evT, ↓aop, ↓aopc, ↓aopd, Nat.reduceEqDiff, Nat.reduceAdd, Nat.reduceLeDiff, Nat.reduceLT, Nat.reduceSub, Int.reduceToNat, ↓reduceIte, reduceCtorEq, encHs_len]; exact rfl)) | (refine qj6 ?_ ?_ <;> intro hc <;> (try simp only [hc]) <;> (try simp only [decide_eq_true_eq, decide_eq_false_iff_not, Bool.not_eq_true', Bool.not_eq_false', Bool.not_eq_true, reduceCtorEq] at hc) <;> (try (exfalso; omega))) | (refine qk1 ?_ ?_; focus (repeat (first | exact qsub0 | (refine qsub1 ?_ ?_; focus (simp only [go_sem, ↓upd_def, ↓evT, ↓aop, ↓aopc, ↓aopd, Nat.reduceEqDiff, Nat.reduceAdd, Nat.reduceLeDiff, Nat.reduceLT, Nat.reduceSub, Int.reduceToNat, ↓reduceIte, reduceCtorEq, encHs_len]))))) | (refine qt7 ?_ ?_; focus decide) | (refine qw7 ?_ ?_ ?_; (focus (decide +kernel)); (focus (decide +kernel))))
  refine s_loop (ι := Nat) (fun j => [(0, .own 0), (1, .int .i64 (k + 2 * j)), (5, .int .i64 j)]) (fun j => [(0, .row 87 2 (encHs (marksH k j ++ l.drop j)))]) 1 (fun j => j ≤ l.length) (fun j => l.length - j) 0 (by omega) (by omega) ?_ ?_
  · simp [fits, fitsT, fitsM, upd_def, PV.nmb, nmbL, MB.nmb, List.getD_cons_zero, List.getD_cons_succ, marksH, mkM]
  rintro j hj
  have hml := marksH_len j k
  have hL : (encHs (marksH k j ++ l.drop j)).length = l.length := by rw [encHs_len, List.length_append, hml, List.length_drop]; omega
  simp only [mkS, mkT, mkM]
  by_cases hjl : j < l.length
  · obtain ⟨⟨p, t⟩, hx⟩ := get_some (xs := l) (k := j) hjl
    have gx : (encHs (marksH k j ++ l.drop j))[j]? = some [.int .i64 p, .str t] := by
      rw [encHs_get, List.getElem?_append_right (by omega), hml, Nat.sub_self, List.getElem?_drop, Nat.add_zero, hx]; rfl
    have gy : ∀ c : List PV, ((encHs (marksH k j ++ l.drop j)).set j c)[j]? = some c := fun c => by rw [List.getElem?_set_self (by omega)]
    repeat' (first | (refine qwd fun K hk => ?_; simp only [lvT2_25, mkT, go_sem, ↓upd_def, ↓evT, ↓aop, ↓aopc, ↓aopd, Nat.reduceEqDiff, Nat.reduceAdd, Nat.reduceLeDiff, Nat.reduceLT, Nat.reduceSub, Int.reduceToNat, ↓reduceIte, reduceCtorEq, hL, gx, gy, List.length_set]; apply hk; clear hk K) | refine qw8 ?_ | refine qw1 ?_ | refine qwc lvT2_25 ?_ | refine qt1 ?_ | refine qw5 ?_ | refine qw2 ?_ | refine qw9 ?_ | refine qt2 ?_ | refine qt3 ?_ | refine qt4 ?_ | refine qt5 ?_ | refine qt6 ?_ | refine qw3 ?_ | refine qw4 ?_ | refine qj1 ?_ | refine qj2 ?_ | refine qj3 ?_ | refine qj4 ?_ | refine qj5 ?_ | refine qu1 ?_ | refine qu2 ?_ | refine qne ?_ | refine qyn ?_ | refine qyz ?_ | refine qy0 ?_ | refine qnt rfl rfl ?_ | refine qnf rfl rfl ?_ | refine qyc rfl ?_ | refine qy1 rfl ?_ | refine qy2 rfl ?_ ?_ | ((first | refine qa1 fun K hk => ?_ | refine qa2 fun K hk => ?_ | refine qa3 fun K hk => ?_ | refine qh1 fun K hk => ?_ | refine qh2 fun K hk => ?_ | refine qm1 fun K hk => ?_ | refine qm2 fun K hk => ?_ | refine qm3 fun K hk => ?_); simp only [go_sem, ↓upd_def, ↓evT, ↓aop, ↓aopc, ↓aopd, Nat.reduceEqDiff, Nat.reduceAdd, Nat.reduceLeDiff, Nat.reduceLT, Nat.reduceSub, Int.reduceToNat, ↓reduceIte, reduceCtorEq, hL, gx, gy, List.length_set]; (repeat (refine And.intro ?_ ?_; focus (first | omega | assumption | with_reducible rfl | (simp only [go_sem, ↓upd_def, ↓evT, ↓aop, ↓aopc, ↓aopd, Nat.reduceEqDiff, Nat.reduceAdd, Nat.reduceLeDiff, Nat.reduceLT, Nat.reduceSub, Int.reduceToNat, ↓reduceIte, reduceCtorEq, hL, gx, gy, List.length_set]; done)))); intros; apply hk; clear hk K) | ((first | apply qg1 rfl | apply qcd); focus (simp only [go_sem, ↓upd_def, ↓evT, ↓aop, ↓aopc, ↓aopd, Nat.reduceEqDiff, Nat.reduceAdd, Nat.reduceLeDiff, Nat.reduceLT, Nat.reduceSub, Int.reduceToNat, ↓reduceIte, reduceCtorEq, hL, gx, gy, List.length_set]; exact rfl)) | (refine qj6 ?_ ?_ <;> intro hc <;> (try simp only [hc]) <;> (try simp only [decide_eq_true_eq, decide_eq_false_iff_not, Bool.not_eq_true', Bool.not_eq_false', Bool.not_eq_true, reduceCtorEq] at hc) <;> (try (exfalso; omega))) | (refine qk1 ?_ ?_; focus (repeat (first | exact qsub0 | (refine qsub1 ?_ ?_; focus (simp only [go_sem, ↓upd_def, ↓evT, ↓aop, ↓aopc, ↓aopd, Nat.reduceEqDiff, Nat.reduceAdd, Nat.reduceLeDiff, Nat.reduceLT, Nat.reduceSub, Int.reduceToNat, ↓reduceIte, reduceCtorEq, hL, gx, gy, List.length_set]))))) | (refine qt7 ?_ ?_; focus decide) | (refine qw7 ?_ ?_ ?_; (focus (decide +kernel)); (focus (decide +kernel))))
    refine s_again (j + 1) ?_ ?_ ?_ <;> (first | omega | (dsimp only; omega) | skip)
    have e3 := marksH_set (k := k) hjl
    have e4 : k + 2 * (j : Int) + 1 + 1 = k + 2 * ((j : Int) + 1) := by omega
    simp [fits, fitsT, fitsM, upd_def, PV.nmb, nmbL, MB.nmb, List.getD_cons_zero, List.getD_cons_succ, encHs_set, e3, e4]
  · obtain rfl : j = l.length := by omega
    repeat' (first | (refine qwd fun K hk => ?_; simp only [lvT2_25, mkT, go_sem, ↓upd_def, ↓evT, ↓aop, ↓aopc, ↓aopd, Nat.reduceEqDiff, Nat.reduceAdd, Nat.reduceLeDiff, Nat.reduceLT, Nat.reduceSub, Int.reduceToNat, ↓reduceIte, reduceCtorEq, hL]; apply hk; clear hk K) | refine qw8 ?_ | refine qw1 ?_ | refine qwc lvT2_25 ?_ | refine qt1 ?_ | refine qw5 ?_ | refine qw2 ?_ | refine qw9 ?_ | refine qt2 ?_ | refine qt3 ?_ | refine qt4 ?_ | refine qt5 ?_ | refine qt6 ?_ | refine qw3 ?_ | refine qw4 ?_ | refine qj1 ?_ | refine qj2 ?_ | refine qj3 ?_ | refine qj4 ?_ | refine qj5 ?_ | refine qu1 ?_ | refine qu2 ?_ | refine qne ?_ | refine qyn ?_ | refine qyz ?_ | refine qy0 ?_ | refine qnt rfl rfl ?_ | refine qnf rfl rfl ?_ | refine qyc rfl ?_ | refine qy1 rfl ?_ | refine qy2 rfl ?_ ?_ | ((first | refine qa1 fun K hk => ?_ | refine qa2 fun K hk => ?_ | refine qa3 fun K hk => ?_ | refine qh1 fun K hk => ?_ | refine qh2 fun K hk => ?_ | refine qm1 fun K hk => ?_ | refine qm2 fun K hk => ?_ | refine qm3 fun K hk => ?_); simp only [go_sem, ↓upd_def, ↓evT, ↓aop, ↓aopc, ↓aopd, Nat.reduceEqDiff, Nat.reduceAdd, Nat.reduceLeDiff, Nat.reduceLT, Nat.reduceSub, Int.reduceToNat, ↓reduceIte, reduceCtorEq, hL]; (repeat (refine And.intro ?_ ?_; focus (first | omega | assumption | with_reducible rfl | (simp only [go_sem, ↓upd_def, ↓evT, ↓aop, ↓aopc, ↓aopd, Nat.reduceEqDiff, Nat.reduceAdd, Nat.reduceLeDiff, Nat.reduceLT, Nat.reduceSub, Int.reduceToNat, ↓reduceIte, reduceCtorEq, hL]; done)))); intros; apply hk; clear hk K) | ((first | apply qg1 rfl | apply qcd); focus (simp only [go_sem, ↓upd_def, ↓evT, ↓aop, ↓aopc, ↓aopd, Nat.reduceEqDiff, Nat.reduceAdd, Nat.reduceLeDiff, Nat.reduceLT, Nat.reduceSub, Int.reduceToNat, ↓reduceIte, reduceCtorEq, hL]; exact rfl)) | (refine qj6 ?_ ?_ <;> intro hc <;> (try simp only [hc]) <;> (try simp only [decide_eq_true_eq, decide_eq_false_iff_not, Bool.not_eq_true', Bool.not_eq_false', Bool.not_eq_true, reduceCtorEq] at hc) <;> (try (exfalso; omega))) | (refine qk1 ?_ ?_; focus (repeat (first | exact qsub0 | (refine qsub1 ?_ ?_; focus (simp only [go_sem, ↓upd_def, ↓evT, ↓aop, ↓aopc, ↓aopd, Nat.reduceEqDiff, Nat.reduceAdd, Nat.reduceLeDiff, Nat.reduceLT, Nat.reduceSub, Int.reduceToNat, ↓reduceIte, reduceCtorEq, hL]))))) | (refine qt7 ?_ ?_; focus decide) | (refine qw7 ?_ ?_ ?_; (focus (decide +kernel)); (focus (decide +kernel))))
    ((first | refine fin_V ?_ | refine fin_Ve ?_ | refine fin_O ?_ | refine fin_Oe ?_ | refine fin_X ?_ | refine fin_Xe ?_ | refine fin_B ?_ | refine fin_Be ?_); simp only [go_sem, PV.own.injEq, MB.row.injEq, MB.nmb, not_false_eq_true, ne_eq, ↓upd_def, Nat.reduceEqDiff, Nat.reduceAdd, ↓reduceIte, reduceCtorEq])
    exact hK _ _ ⟨rfl, by rw [List.drop_of_length_le (Nat.le_refl _), List.append_nil]⟩
def textsM (l : List (Int × Bs)) (p : Int) : List Bs := (l.filter fun x => decide (x.1 = p)).map (·.2)
theorem textsM_snoc {l : List (Int × Bs)} {k : Nat} {x : Int × Bs} {p : Int} (h : l[k]? = some x) : textsM (l.take (k + 1)) p = textsM (l.take k) p ++ (if x.1 = p then [x.2] else []) := by
  rw [take_snoc' h]
  unfold textsM
  rw [List.filter_append, List.map_append]
  congr 1
  by_cases hp : x.1 = p <;> simp [hp]
theorem textsM_len (l : List (Int × Bs)) (p : Int) : (textsM l p).length ≤ l.length := by unfold textsM; rw [List.length_map]; exact List.length_filter_le _ _
@[go_sem] def txoC : AC := newO 9 1 (α := List (Int × Bs) × Int) (fun x => [.seq (encHs x.1), .int .i64 x.2]) (fun x => x.1.length ≤ 1048576) (fun x es => es = strs (textsM x.1 x.2))
theorem txo_i : ACok Try.prog 22 txoC := by
  refine newO_ok 2 (tabA_nil (Γof_ok tab_nil)) tab_nil mixed [.tmp 4] Try.func22 rfl rfl (by kernel_rfl) (by kernel_rfl) (fun _ => rfl) (by kernel_rfl) (fun x => by simp [nmbL, PV.nmb]) ?_ ?_
  · rintro x es rfl; exact strs_plain _
  rintro ⟨l, p⟩ K h0 hK
  dsimp only at *
  unfold entry
  repeat' (first | (refine qwd fun K hk => ?_; simp only [lvT2_22, mkT, go_sem, ↓upd_def, ↓evT, ↓aop, ↓aopc, ↓aopd, Nat.reduceEqDiff, Nat.reduceAdd, Nat.reduceLeDiff, Nat.reduceLT, Nat.reduceSub, Int.reduceToNat, ↓reduceIte, reduceCtorEq, encHs_len]; apply hk; clear hk K) | refine qw8 ?_ | refine qw1 ?_ | refine qwc lvT2_22 ?_ | refine qt1 ?_ | refine qw5 ?_ | refine qw2 ?_ | refine qw9 ?_ | refine qt2 ?_ | refine qt3 ?_ | refine qt4 ?_ | refine qt5 ?_ | refine qt6 ?_ | refine qw3 ?_ | refine qw4 ?_ | refine qj1 ?_ | refine qj2 ?_ | refine qj3 ?_ | refine qj4 ?_ | refine qj5 ?_ | refine qu1 ?_ | refine qu2 ?_ | refine qne ?_ | refine qyn ?_ | refine qyz ?_ | refine qy0 ?_ | refine qnt rfl rfl ?_ | refine qnf rfl rfl ?_ | refine qyc rfl ?_ | refine qy1 rfl ?_ | refine qy2 rfl ?_ ?_ | ((first | refine qa1 fun K hk => ?_ | refine qa2 fun K hk => ?_ | refine qa3 fun K hk => ?_ | refine qh1 fun K hk => ?_ | refine qh2 fun K hk => ?_ | refine qm1 fun K hk => ?_ | refine qm2 fun K hk => ?_ | refine qm3 fun K hk => ?_); simp only [go_sem, ↓upd_def, ↓evT, ↓aop, ↓aopc, ↓aopd, Nat.reduceEqDiff, Nat.reduceAdd, Nat.reduceLeDiff, Nat.reduceLT, Nat.reduceSub, Int.reduceToNat, ↓reduceIte, reduceCtorEq, encHs_len]; (repeat (refine And.intro ?_ ?_; focus (first | omega | assumption | with_reducible rfl | (simp only [go_sem, ↓upd_def, ↓evT, ↓aop, ↓aopc, ↓aopd, Nat.reduceEqDiff, Nat.reduceAdd, Nat.reduceLeDiff, Nat.reduceLT, Nat.reduceSub, Int.reduceToNat, ↓reduceIte, reduceCtorEq, encHs_len]; done)))); intros; apply hk; clear hk K) | ((first | apply qg1 rfl | apply qcd); focus (simp only [go_sem, ↓upd_def, ↓evT, ↓aop, ↓aopc, ↓aopd, Nat.reduceEqDiff, Nat.reduceAdd, Nat.reduceLeDiff, Nat.reduceLT, Nat.reduceSub, Int.reduceToNat, ↓reduceIte, reduceCtorEq, encHs_len]; exact rfl)) | (refine qj6 ?_ ?_ <;> intro hc <;> (try simp only [hc]) <;> (try simp only [decide_eq_true_eq, decide_eq_false_iff_not, Bool.not_eq_true', Bool.not_eq_false', Bool.not_eq_true, reduceCtorEq] at hc) <;> (try (exfalso; omega))) | (refine qk1 ?_ ?_; focus (repeat (first | exact qsub0 | (refine qsub1 ?_ ?_; focus (simp only [go_sem, ↓upd_def, ↓evT, ↓aop, ↓aopc, ↓aopd, Nat.reduceEqDiff, Nat.reduceAdd, Nat.reduceLeDiff, Nat.reduceLT, Nat.reduceSub, Int.reduceToNat, ↓reduceIte, reduceCtorEq, encHs_len]))))) | (refine qt7 ?_ ?_; focus decide) | (refine qw7 ?_ ?_ ?_; (focus (decide +kernel)); (focus (decide +kernel))))
  refine s_loop (ι := Nat) (fun j => [(1, .int .i64 p), (5, .own 0), (9, .seq (encHs l)), (10, .int .i64 l.length), (11, .int .i64 j)]) (fun j => [(0, .row 9 1 (strs (textsM (l.take j) p)))]) 1 (fun j => j ≤ l.length) (fun j => l.length - j) 0 (by omega) (by omega) ?_ ?_
  · simp [fits, fitsT, fitsM, upd_def, PV.nmb, nmbL, MB.nmb, List.getD_cons_zero, List.getD_cons_succ, textsM, strs]
  rintro j hj
  have hl9 := textsM_len (l.take j) p
  rw [List.length_take] at hl9
  simp only [mkS, mkT, mkM]
  by_cases hjl : j < l.length
  · obtain ⟨⟨q, t⟩, hx⟩ := get_some (xs := l) (k := j) hjl
    have ga : (encHs l)[j]? = some [.int .i64 q, .str t] := by rw [encHs_get, hx]; rfl
    have hs := textsM_snoc (p := p) hx
    dsimp only at hs
    repeat' (first | (refine qwd fun K hk => ?_; simp only [lvT2_22, mkT, go_sem, ↓upd_def, ↓evT, ↓aop, ↓aopc, ↓aopd, Nat.reduceEqDiff, Nat.reduceAdd, Nat.reduceLeDiff, Nat.reduceLT, Nat.reduceSub, Int.reduceToNat, ↓reduceIte, reduceCtorEq, encHs_len, strs_len, ga, strs_cell]; apply hk; clear hk K) | refine qw8 ?_ | refine qw1 ?_ | refine qwc lvT2_22 ?_ | refine qt1 ?_ | refine qw5 ?_ | refine qw2 ?_ | refine qw9 ?_ | refine qt2 ?_ | refine qt3 ?_ | refine qt4 ?_ | refine qt5 ?_ | refine qt6 ?_ | refine qw3 ?_ | refine qw4 ?_ | refine qj1 ?_ | refine qj2 ?_ | refine qj3 ?_ | refine qj4 ?_ | refine qj5 ?_ | refine qu1 ?_ | refine qu2 ?_ | refine qne ?_ | refine qyn ?_ | refine qyz ?_ | refine qy0 ?_ | refine qnt rfl rfl ?_ | refine qnf rfl rfl ?_ | refine qyc rfl ?_ | refine qy1 rfl ?_ | refine qy2 rfl ?_ ?_ | ((first | refine qa1 fun K hk => ?_ | refine qa2 fun K hk => ?_ | refine qa3 fun K hk => ?_ | refine qh1 fun K hk => ?_ | refine qh2 fun K hk => ?_ | refine qm1 fun K hk => ?_ | refine qm2 fun K hk => ?_ | refine qm3 fun K hk => ?_); simp only [go_sem, ↓upd_def, ↓evT, ↓aop, ↓aopc, ↓aopd, Nat.reduceEqDiff, Nat.reduceAdd, Nat.reduceLeDiff, Nat.reduceLT, Nat.reduceSub, Int.reduceToNat, ↓reduceIte, reduceCtorEq, encHs_len, strs_len, ga, strs_cell]; (repeat (refine And.intro ?_ ?_; focus (first | omega | assumption | with_reducible rfl | (simp only [go_sem, ↓upd_def, ↓evT, ↓aop, ↓aopc, ↓aopd, Nat.reduceEqDiff, Nat.reduceAdd, Nat.reduceLeDiff, Nat.reduceLT, Nat.reduceSub, Int.reduceToNat, ↓reduceIte, reduceCtorEq, encHs_len, strs_len, ga, strs_cell]; done)))); intros; apply hk; clear hk K) | ((first | apply qg1 rfl | apply qcd); focus (simp only [go_sem, ↓upd_def, ↓evT, ↓aop, ↓aopc, ↓aopd, Nat.reduceEqDiff, Nat.reduceAdd, Nat.reduceLeDiff, Nat.reduceLT, Nat.reduceSub, Int.reduceToNat, ↓reduceIte, reduceCtorEq, encHs_len, strs_len, ga, strs_cell]; exact rfl)) | (refine qj6 ?_ ?_ <;> intro hc <;> (try simp only [hc]) <;> (try simp only [decide_eq_true_eq, decide_eq_false_iff_not, Bool.not_eq_true', Bool.not_eq_false', Bool.not_eq_true, reduceCtorEq] at hc) <;> (try (exfalso; omega))) | (refine qk1 ?_ ?_; focus (repeat (first | exact qsub0 | (refine qsub1 ?_ ?_; focus (simp only [go_sem, ↓upd_def, ↓evT, ↓aop, ↓aopc, ↓aopd, Nat.reduceEqDiff, Nat.reduceAdd, Nat.reduceLeDiff, Nat.reduceLT, Nat.reduceSub, Int.reduceToNat, ↓reduceIte, reduceCtorEq, encHs_len, strs_len, ga, strs_cell]))))) | (refine qt7 ?_ ?_; focus decide) | (refine qw7 ?_ ?_ ?_; (focus (decide +kernel)); (focus (decide +kernel))))
    · refine s_againR (j + 1) (fun i => if i = 0 then 3 else i) ?_ ?_ ?_ ?_ ?_ ?_ <;> (first | omega | (dsimp only; omega) | (intro i hi; (try dsimp only); (repeat' split) <;> omega) | (intro i j hi hj h; (try dsimp only at h); (repeat' split at h) <;> omega) | skip)
      · simp [fitsTR, fitsMR, PV.ren, renL, MB.ren, upd_def, PV.nmb, nmbL, MB.nmb, List.getD_cons_zero, List.getD_cons_succ, frz, drp]
      · rw [if_pos ‹_›] at hs
        simp [fitsTR, fitsMR, PV.ren, renL, MB.ren, upd_def, PV.nmb, nmbL, MB.nmb, List.getD_cons_zero, List.getD_cons_succ, frz, drp, hs, strs_append]
        rfl
    · refine s_again (j + 1) ?_ ?_ ?_ <;> (first | omega | (dsimp only; omega) | skip)
      rw [if_neg ‹_›, List.append_nil] at hs
      simp [fits, fitsT, fitsM, upd_def, PV.nmb, nmbL, MB.nmb, List.getD_cons_zero, List.getD_cons_succ, hs]
  · obtain rfl : j = l.length := by omega
    repeat' (first | (refine qwd fun K hk => ?_; simp only [lvT2_22, mkT, go_sem, ↓upd_def, ↓evT, ↓aop, ↓aopc, ↓aopd, Nat.reduceEqDiff, Nat.reduceAdd, Nat.reduceLeDiff, Nat.reduceLT, Nat.reduceSub, Int.reduceToNat, ↓reduceIte, reduceCtorEq, encHs_len]; apply hk; clear hk K) | refine qw8 ?_ | refine qw1 ?_ | refine qwc lvT2_22 ?_ | refine qt1 ?_ | refine qw5 ?_ | refine qw2 ?_ | refine qw9 ?_ | refine qt2 ?_ | refine qt3 ?_ | refine qt4 ?_ | refine qt5 ?_ | refine qt6 ?_ | refine qw3 ?_ | refine qw4 ?_ | refine qj1 ?_ | refine qj2 ?_ | refine qj3 ?_ | refine qj4 ?_ | refine qj5 ?_ | refine qu1 ?_ | refine qu2 ?_ | refine qne ?_ | refine qyn ?_ | refine qyz ?_ | refine qy0 ?_ | refine qnt rfl rfl ?_ | refine qnf rfl rfl ?_ | refine qyc rfl ?_ | refine qy1 rfl ?_ | refine qy2 rfl ?_ ?_ | ((first | refine qa1 fun K hk => ?_ | refine qa2 fun K hk => ?_ | refine qa3 fun K hk => ?_ | refine qh1 fun K hk => ?_ | refine qh2 fun K hk => ?_ | refine qm1 fun K hk => ?_ | refine qm2 fun K hk => ?_ | refine qm3 fun K hk => ?_); simp only [go_sem, ↓upd_def, ↓evT, ↓aop, ↓aopc, ↓aopd, Nat.reduceEqDiff, Nat.reduceAdd, Nat.reduceLeDiff, Nat.reduceLT, Nat.reduceSub, Int.reduceToNat, ↓reduceIte, reduceCtorEq, encHs_len]; (repeat (refine And.intro ?_ ?_; focus (first | omega | assumption | with_reducible rfl | (simp only [go_sem, ↓upd_def, ↓evT, ↓aop, ↓aopc, ↓aopd, Nat.reduceEqDiff, Nat.reduceAdd, Nat.reduceLeDiff, Nat.reduceLT, Nat.reduceSub, Int.reduceToNat, ↓reduceIte, reduceCtorEq, encHs_len]; done)))); intros; apply hk; clear hk K) | ((first | apply qg1 rfl | apply qcd); focus (simp only [go_sem, ↓upd_def, ↓evT, ↓aop, ↓aopc, ↓aopd, Nat.reduceEqDiff, Nat.reduceAdd, Nat.reduceLeDiff, Nat.reduceLT, Nat.reduceSub, Int.reduceToNat, ↓reduceIte, reduceCtorEq, encHs_len]; exact rfl)) | (refine qj6 ?_ ?_ <;> intro hc <;> (try simp only [hc]) <;> (try simp only [decide_eq_true_eq, decide_eq_false_iff_not, Bool.not_eq_true', Bool.not_eq_false', Bool.not_eq_true, reduceCtorEq] at hc) <;> (try (exfalso; omega))) | (refine qk1 ?_ ?_; focus (repeat (first | exact qsub0 | (refine qsub1 ?_ ?_; focus (simp only [go_sem, ↓upd_def, ↓evT, ↓aop, ↓aopc, ↓aopd, Nat.reduceEqDiff, Nat.reduceAdd, Nat.reduceLeDiff, Nat.reduceLT, Nat.reduceSub, Int.reduceToNat, ↓reduceIte, reduceCtorEq, encHs_len]))))) | (refine qt7 ?_ ?_; focus decide) | (refine qw7 ?_ ?_ ?_; (focus (decide +kernel)); (focus (decide +kernel))))
    ((first | refine fin_V ?_ | refine fin_Ve ?_ | refine fin_O ?_ | refine fin_Oe ?_ | refine fin_X ?_ | refine fin_Xe ?_ | refine fin_B ?_ | refine fin_Be ?_); simp only [go_sem, PV.own.injEq, MB.row.injEq, MB.nmb, not_false_eq_true, ne_eq, ↓upd_def, Nat.reduceEqDiff, Nat.reduceAdd, ↓reduceIte, reduceCtorEq])
    exact hK _ (by rw [List.take_length])
@[go_sem] def txsC : PC := rel (α := List (Int × Bs) × Int) (fun x => [.seq (encHs x.1), .int .i64 x.2]) (fun x => x.1.length ≤ 1048576) (fun x => .seq (strs (textsM x.1 x.2)))
theorem txs_s : PureOk Try.prog 20 txsC := by
  refine pure_rel 2 tab_nil mixed [.tmp 4] Try.func20 rfl rfl (by kernel_rfl) (by kernel_rfl) (fun _ => rfl) (by kernel_rfl) ?_
  rintro ⟨l, p⟩ K h0 hK
  dsimp only at *
  unfold entry
  repeat' (first | (refine qwd fun K hk => ?_; simp only [lvT2_20, mkT, go_sem, ↓upd_def, ↓evT, ↓aop, ↓aopc, ↓aopd, Nat.reduceEqDiff, Nat.reduceAdd, Nat.reduceLeDiff, Nat.reduceLT, Nat.reduceSub, Int.reduceToNat, ↓reduceIte, reduceCtorEq, encHs_len]; apply hk; clear hk K) | refine qw8 ?_ | refine qw1 ?_ | refine qwc lvT2_20 ?_ | refine qt1 ?_ | refine qw5 ?_ | refine qw2 ?_ | refine qw9 ?_ | refine qt2 ?_ | refine qt3 ?_ | refine qt4 ?_ | refine qt5 ?_ | refine qt6 ?_ | refine qw3 ?_ | refine qw4 ?_ | refine qj1 ?_ | refine qj2 ?_ | refine qj3 ?_ | refine qj4 ?_ | refine qj5 ?_ | refine qu1 ?_ | refine qu2 ?_ | refine qne ?_ | refine qyn ?_ | refine qyz ?_ | refine qy0 ?_ | refine qnt rfl rfl ?_ | refine qnf rfl rfl ?_ | refine qyc rfl ?_ | refine qy1 rfl ?_ | refine qy2 rfl ?_ ?_ | ((first | refine qa1 fun K hk => ?_ | refine qa2 fun K hk => ?_ | refine qa3 fun K hk => ?_ | refine qh1 fun K hk => ?_ | refine qh2 fun K hk => ?_ | refine qm1 fun K hk => ?_ | refine qm2 fun K hk => ?_ | refine qm3 fun K hk => ?_); simp only [go_sem, ↓upd_def, ↓evT, ↓aop, ↓aopc, ↓aopd, Nat.reduceEqDiff, Nat.reduceAdd, Nat.reduceLeDiff, Nat.reduceLT, Nat.reduceSub, Int.reduceToNat, ↓reduceIte, reduceCtorEq, encHs_len]; (repeat (refine And.intro ?_ ?_; focus (first | omega | assumption | with_reducible rfl | (simp only [go_sem, ↓upd_def, ↓evT, ↓aop, ↓aopc, ↓aopd, Nat.reduceEqDiff, Nat.reduceAdd, Nat.reduceLeDiff, Nat.reduceLT, Nat.reduceSub, Int.reduceToNat, ↓reduceIte, reduceCtorEq, encHs_len]; done)))); intros; apply hk; clear hk K) | ((first | apply qg1 rfl | apply qcd); focus (simp only [go_sem, ↓upd_def, ↓evT, ↓aop, ↓aopc, ↓aopd, Nat.reduceEqDiff, Nat.reduceAdd, Nat.reduceLeDiff, Nat.reduceLT, Nat.reduceSub, Int.reduceToNat, ↓reduceIte, reduceCtorEq, encHs_len]; exact rfl)) | (refine qj6 ?_ ?_ <;> intro hc <;> (try simp only [hc]) <;> (try simp only [decide_eq_true_eq, decide_eq_false_iff_not, Bool.not_eq_true', Bool.not_eq_false', Bool.not_eq_true, reduceCtorEq] at hc) <;> (try (exfalso; omega))) | (refine qk1 ?_ ?_; focus (repeat (first | exact qsub0 | (refine qsub1 ?_ ?_; focus (simp only [go_sem, ↓upd_def, ↓evT, ↓aop, ↓aopc, ↓aopd, Nat.reduceEqDiff, Nat.reduceAdd, Nat.reduceLeDiff, Nat.reduceLT, Nat.reduceSub, Int.reduceToNat, ↓reduceIte, reduceCtorEq, encHs_len]))))) | (refine qt7 ?_ ?_; focus decide) | (refine qw7 ?_ ?_ ?_; (focus (decide +kernel)); (focus (decide +kernel))))
  refine s_loop (ι := Nat) (fun j => [(0, .seq (encHs l)), (1, .int .i64 p), (5, .own 0), (6, .int .i64 j)]) (fun j => [(0, .row 9 1 (strs (textsM (l.take j) p)))]) 1 (fun j => j ≤ l.length) (fun j => l.length - j) 0 (by omega) (by omega) ?_ ?_
  · simp [fits, fitsT, fitsM, upd_def, PV.nmb, nmbL, MB.nmb, List.getD_cons_zero, List.getD_cons_succ, textsM, strs]
  rintro j hj
  have hl9 := textsM_len (l.take j) p
  rw [List.length_take] at hl9
  simp only [mkS, mkT, mkM]
  by_cases hjl : j < l.length
  · obtain ⟨⟨q, t⟩, hx⟩ := get_some (xs := l) (k := j) hjl
    have ga : (encHs l)[j]? = some [.int .i64 q, .str t] := by rw [encHs_get, hx]; rfl
    have hs := textsM_snoc (p := p) hx
    dsimp only at hs
    repeat' (first | (refine qwd fun K hk => ?_; simp only [lvT2_20, mkT, go_sem, ↓upd_def, ↓evT, ↓aop, ↓aopc, ↓aopd, Nat.reduceEqDiff, Nat.reduceAdd, Nat.reduceLeDiff, Nat.reduceLT, Nat.reduceSub, Int.reduceToNat, ↓reduceIte, reduceCtorEq, encHs_len, strs_len, ga, strs_cell]; apply hk; clear hk K) | refine qw8 ?_ | refine qw1 ?_ | refine qwc lvT2_20 ?_ | refine qt1 ?_ | refine qw5 ?_ | refine qw2 ?_ | refine qw9 ?_ | refine qt2 ?_ | refine qt3 ?_ | refine qt4 ?_ | refine qt5 ?_ | refine qt6 ?_ | refine qw3 ?_ | refine qw4 ?_ | refine qj1 ?_ | refine qj2 ?_ | refine qj3 ?_ | refine qj4 ?_ | refine qj5 ?_ | refine qu1 ?_ | refine qu2 ?_ | refine qne ?_ | refine qyn ?_ | refine qyz ?_ | refine qy0 ?_ | refine qnt rfl rfl ?_ | refine qnf rfl rfl ?_ | refine qyc rfl ?_ | refine qy1 rfl ?_ | refine qy2 rfl ?_ ?_ | ((first | refine qa1 fun K hk => ?_ | refine qa2 fun K hk => ?_ | refine qa3 fun K hk => ?_ | refine qh1 fun K hk => ?_ | refine qh2 fun K hk => ?_ | refine qm1 fun K hk => ?_ | refine qm2 fun K hk => ?_ | refine qm3 fun K hk => ?_); simp only [go_sem, ↓upd_def, ↓evT, ↓aop, ↓aopc, ↓aopd, Nat.reduceEqDiff, Nat.reduceAdd, Nat.reduceLeDiff, Nat.reduceLT, Nat.reduceSub, Int.reduceToNat, ↓reduceIte, reduceCtorEq, encHs_len, strs_len, ga, strs_cell]; (repeat (refine And.intro ?_ ?_; focus (first | omega | assumption | with_reducible rfl | (simp only [go_sem, ↓upd_def, ↓evT, ↓aop, ↓aopc, ↓aopd, Nat.reduceEqDiff, Nat.reduceAdd, Nat.reduceLeDiff, Nat.reduceLT, Nat.reduceSub, Int.reduceToNat, ↓reduceIte, reduceCtorEq, encHs_len, strs_len, ga, strs_cell]; done)))); intros; apply hk; clear hk K) | ((first | apply qg1 rfl | apply qcd); focus (simp only [go_sem, ↓upd_def, ↓evT, ↓aop, ↓aopc, ↓aopd, Nat.reduceEqDiff, Nat.reduceAdd, Nat.reduceLeDiff, Nat.reduceLT, Nat.reduceSub, Int.reduceToNat, ↓reduceIte, reduceCtorEq, encHs_len, strs_len, ga, strs_cell]; exact rfl)) | (refine qj6 ?_ ?_ <;> intro hc <;> (try simp only [hc]) <;> (try simp only [decide_eq_true_eq, decide_eq_false_iff_not, Bool.not_eq_true', Bool.not_eq_false', Bool.not_eq_true, reduceCtorEq] at hc) <;> (try (exfalso; omega))) | (refine qk1 ?_ ?_; focus (repeat (first | exact qsub0 | (refine qsub1 ?_ ?_; focus (simp only [go_sem, ↓upd_def, ↓evT, ↓aop, ↓aopc, ↓aopd, Nat.reduceEqDiff, Nat.reduceAdd, Nat.reduceLeDiff, Nat.reduceLT, Nat.reduceSub, Int.reduceToNat, ↓reduceIte, reduceCtorEq, encHs_len, strs_len, ga, strs_cell]))))) | (refine qt7 ?_ ?_; focus decide) | (refine qw7 ?_ ?_ ?_; (focus (decide +kernel)); (focus (decide +kernel))))
    · refine s_againR (j + 1) (fun i => if i = 0 then 2 else i) ?_ ?_ ?_ ?_ ?_ ?_ <;> (first | omega | (dsimp only; omega) | (intro i hi; (try dsimp only); (repeat' split) <;> omega) | (intro i j hi hj h; (try dsimp only at h); (repeat' split at h) <;> omega) | skip)
      · simp [fitsTR, fitsMR, PV.ren, renL, MB.ren, upd_def, PV.nmb, nmbL, MB.nmb, List.getD_cons_zero, List.getD_cons_succ, frz, drp]
      · rw [if_pos ‹_›] at hs
        simp [fitsTR, fitsMR, PV.ren, renL, MB.ren, upd_def, PV.nmb, nmbL, MB.nmb, List.getD_cons_zero, List.getD_cons_succ, frz, drp, hs, strs_append]
        rfl
    · refine s_again (j + 1) ?_ ?_ ?_ <;> (first | omega | (dsimp only; omega) | skip)
      rw [if_neg ‹_›, List.append_nil] at hs
      simp [fits, fitsT, fitsM, upd_def, PV.nmb, nmbL, MB.nmb, List.getD_cons_zero, List.getD_cons_succ, hs]
  · obtain rfl : j = l.length := by omega
    repeat' (first | (refine qwd fun K hk => ?_; simp only [lvT2_20, mkT, go_sem, ↓upd_def, ↓evT, ↓aop, ↓aopc, ↓aopd, Nat.reduceEqDiff, Nat.reduceAdd, Nat.reduceLeDiff, Nat.reduceLT, Nat.reduceSub, Int.reduceToNat, ↓reduceIte, reduceCtorEq, encHs_len]; apply hk; clear hk K) | refine qw8 ?_ | refine qw1 ?_ | refine qwc lvT2_20 ?_ | refine qt1 ?_ | refine qw5 ?_ | refine qw2 ?_ | refine qw9 ?_ | refine qt2 ?_ | refine qt3 ?_ | refine qt4 ?_ | refine qt5 ?_ | refine qt6 ?_ | refine qw3 ?_ | refine qw4 ?_ | refine qj1 ?_ | refine qj2 ?_ | refine qj3 ?_ | refine qj4 ?_ | refine qj5 ?_ | refine qu1 ?_ | refine qu2 ?_ | refine qne ?_ | refine qyn ?_ | refine qyz ?_ | refine qy0 ?_ | refine qnt rfl rfl ?_ | refine qnf rfl rfl ?_ | refine qyc rfl ?_ | refine qy1 rfl ?_ | refine qy2 rfl ?_ ?_ | ((first | refine qa1 fun K hk => ?_ | refine qa2 fun K hk => ?_ | refine qa3 fun K hk => ?_ | refine qh1 fun K hk => ?_ | refine qh2 fun K hk => ?_ | refine qm1 fun K hk => ?_ | refine qm2 fun K hk => ?_ | refine qm3 fun K hk => ?_); simp only [go_sem, ↓upd_def, ↓evT, ↓aop, ↓aopc, ↓aopd, Nat.reduceEqDiff, Nat.reduceAdd, Nat.reduceLeDiff, Nat.reduceLT, Nat.reduceSub, Int.reduceToNat, ↓reduceIte, reduceCtorEq, encHs_len]; (repeat (refine And.intro ?_ ?_; focus (first | omega | assumption | with_reducible rfl | (simp only [go_sem, ↓upd_def, ↓evT, ↓aop, ↓aopc, ↓aopd, Nat.reduceEqDiff, Nat.reduceAdd, Nat.reduceLeDiff, Nat.reduceLT, Nat.reduceSub, Int.reduceToNat, ↓reduceIte, reduceCtorEq, encHs_len]; done)))); intros; apply hk; clear hk K) | ((first | apply qg1 rfl | apply qcd); focus (simp only [go_sem, ↓upd_def, ↓evT, ↓aop, ↓aopc, ↓aopd, Nat.reduceEqDiff, Nat.reduceAdd, Nat.reduceLeDiff, Nat.reduceLT, Nat.reduceSub, Int.reduceToNat, ↓reduceIte, reduceCtorEq, encHs_len]; exact rfl)) | (refine qj6 ?_ ?_ <;> intro hc <;> (try simp only [hc]) <;> (try simp only [decide_eq_true_eq, decide_eq_false_iff_not, Bool.not_eq_true', Bool.not_eq_false', Bool.not_eq_true, reduceCtorEq] at hc) <;> (try (exfalso; omega))) | (refine qk1 ?_ ?_; focus (repeat (first | exact qsub0 | (refine qsub1 ?_ ?_; focus (simp only [go_sem, ↓upd_def, ↓evT, ↓aop, ↓aopc, ↓aopd, Nat.reduceEqDiff, Nat.reduceAdd, Nat.reduceLeDiff, Nat.reduceLT, Nat.reduceSub, Int.reduceToNat, ↓reduceIte, reduceCtorEq, encHs_len]))))) | (refine qt7 ?_ ?_; focus decide) | (refine qw7 ?_ ?_ ?_; (focus (decide +kernel)); (focus (decide +kernel))))
    ((first | refine fin_ret ?_ | refine fin_end ?_); simp only [go_sem, ↓upd_def, Nat.reduceEqDiff, Nat.reduceAdd, ↓reduceIte, reduceCtorEq])
    rw [List.take_length]
    exact hK
end Go.Proofs.Ytcagfbgplpokkaa
