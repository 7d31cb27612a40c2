/- The law's walk over drawn parts and data: FillPlain. -/
import Derived.Test.YtoocbpendccngaaZX21
import Derived.Test.YtoocbpendccngaaZR11
import Derived.Test.YtoocbpendccngaaZY9

namespace Go.Proofs.Ytoocbpendccngaa
attribute [local irreducible] awp arun acalm FinP Fin AX.then AX.inBlock Again aG gsel amix amixN amixC aop aopc aopd cutK
attribute [local go_sem] aBSliceD aSlice aSliceC boundOf aMk aCall aCallC aLenL aLen aPick_t aPick_f aNil aAlloc aBox aBuild bldPV aBSlice bsPV aApp newsOf destOf drp aConvX aConv aConvInt aLoad cellsAt aStore cellsPV setAt aFld aField aIdx aIndex aUn aBin' aBin aMax aExtract pvOf PV.isCell nmbL PV.nmb List.map_cons List.map_nil List.all_cons List.all_nil Bool.and_true Bool.true_and if_true if_false List.getD_cons_zero List.getD_cons_succ List.getD_nil Option.isSome_some true_and and_true and_self eq_self true_or or_true List.drop_zero List.drop_succ_cons List.drop_nil List.take_zero List.take_succ_cons List.take_nil List.length_cons List.length_nil List.length_map Option.getD_some Option.getD_none List.nil_append List.cons_append List.append_nil Option.some.injEq exists_eq_left' List.getElem?_cons_zero List.getElem?_cons_succ Int.toNat_natCast Int.natCast_inj toNat_succ Nat.zero_add res res1 resC owns owns1 ownsC List.flatMap_cons List.flatMap_nil List.flatten_cons List.flatten_nil List.mem_cons List.not_mem_nil or_false false_or forall_eq forall_eq_or_imp isFro frz frz1 pureC tabA isBld List.cons.injEq PV.seq.injEq PV.int.injEq PV.str.injEq PV.bool.injEq PV.agg.injEq inR tab Γof aRes packR Option.map_some Option.map_none rel Prod.exists exists_and_left exists_eq_left and_assoc beq_self_eq_true Bool.not_true Bool.not_false decide_true decide_false List.set_cons_zero List.set_cons_succ rst_nil rst_cons
attribute [local go_sem ↓] evT upd_def aop aopc aopd
set_option maxRecDepth 100000
set_option linter.unusedVariables false
set_option linter.unusedSimpArgs false
open Go.RowKit
def lvY18_8 : Nat → List Nat
  | 0 => [0]
  | 1 => [0, 9]
  | 2 => [2]
  | 3 => [3, 4]
  | 4 => [3, 4, 5]
  | 5 => [3, 4, 5, 22]
  | 6 => [2]
  | 7 => [3, 4, 5, 30]
  | 8 => [2]
  | 9 => [3, 4, 5, 6]
  | 10 => [2]
  | _ => []
--LV=Y18
theorem gdL_weak18 {d : Nat} : ∀ {xs : List PartD} {b : Bool}, gdL d b xs = true → gdL d false xs = true
  | [], _, _ => gdL_nil _ _
  | x :: xs, b, h => by
    rw [gdL] at h ⊢
    simp only [Bool.and_eq_true] at h ⊢
    exact ⟨⟨h.1.1, by simp⟩, h.2⟩
theorem cntL_app18 : ∀ xs ys : List PartD, cntL (xs ++ ys) = cntL xs + cntL ys
  | [], ys => by simp [cntL]
  | x :: xs, ys => by rw [List.cons_append, cntL, cntL, cntL_app18 xs ys]; omega
theorem parts_split18 {xs ys : List PartD} (h : partsB (xs ++ ys) = true) : partsB xs = true ∧ partsB ys = true := by
  unfold partsB at h ⊢
  rw [cntL_app18, gdL_append] at h
  simp only [Bool.and_eq_true, decide_eq_true_eq] at h ⊢
  exact ⟨⟨by omega, h.2.1⟩, by omega, gdL_weak18 h.2.2⟩
theorem ps_take (k : Nat) (xs : List PartD) : List.take k (encPs xs) = encPs (List.take k xs) := by rw [encPs_map, encPs_map, List.map_take]
theorem ps_drop (k : Nat) (xs : List PartD) : List.drop k (encPs xs) = encPs (List.drop k xs) := by rw [encPs_map, encPs_map, List.map_drop]
theorem plainM_split {xs : List PartD} {data : List FieldD} (h : Nat) (hp : partsB xs = true) (hd : dataB data = true) : plainM (xs.take h) data ++ plainM (xs.drop h) data = plainM xs data := by
  have e := List.take_append_drop h xs
  obtain ⟨h1, h2⟩ := parts_split18 (xs := xs.take h) (ys := xs.drop h) (by rw [e]; exact hp)
  have e2 := plain_append data (xs.take h) (xs.drop h) st0
  rw [e] at e2
  unfold plainM
  rw [if_pos ⟨h1, hd⟩, if_pos ⟨h2, hd⟩, if_pos ⟨hp, hd⟩, e2]
theorem plainM_none {xs : List PartD} {data : List FieldD} (h : ¬ (partsB xs = true ∧ dataB data = true)) : plainM xs data = [] := by unfold plainM; rw [if_neg h]
theorem plainM_len {xs : List PartD} {data : List FieldD} (hw : wtL xs ≤ 6000) : (plainM xs data).length ≤ 1000000000 := by
  unfold plainM
  split
  · rename_i h
    have h1 := evL_wt xs 3 data st0 false (parts_gd3 h.1) (dataB_bd h.2)
    have h2 := cat_len outP_len (evL data st0 xs).1
    omega
  · simp
theorem bdFs_ok {d : List FieldD} (h : bdFs d) : okF d := ⟨by have := h.1; omega, fun f hf => by
  obtain ⟨h1, h2, h3, h4⟩ := h.2 f hf
  exact ⟨by omega, by omega, by omega, fun t ht => by have := h4 t ht; omega⟩⟩
theorem wtL_drop (xs : List PartD) (k : Nat) : wtL (xs.drop k) ≤ wtL xs := by
  have := wtL_append (xs.take k) (xs.drop k)
  rw [List.take_append_drop] at this; omega
set_option maxHeartbeats 8000000 in
theorem FnFillPlain_pure : PureOk Try.prog 8 (rel (α := Bs) (fun x => [.seq (x.map bc)]) (fun x => x.length ≤ 9223372036854775807) (fun _ => .bool true)) := by
  refine pure_relA 1 (tabA_cons drwFP (tabA_nil (Γof_ok (tab_cons fp_i (tab_cons fp_s (tab_cons pv_s (tab_cons dv_s (tab_cons alive9 tab_nil)))))))) (tab_cons fp_i (tab_cons fp_s (tab_cons pv_s (tab_cons dv_s (tab_cons alive9 tab_nil))))) mixed [.tmp 2] Try.func8 rfl rfl (by kernel_rfl) (by kernel_rfl) (fun _ => rfl) (by kernel_rfl) ?_
  rintro l K hl hK
  have hba := bc_all l
  unfold entry
  repeat' (first | (refine qwd fun K hk => ?_; simp only [lvY18_8, mkT, go_sem, Nat.reduceEqDiff, Nat.reduceAdd, Nat.reduceLeDiff, Nat.reduceLT, Nat.reduceSub, Int.reduceToNat, ↓reduceIte, reduceCtorEq, exl, ex_unit9, true_and, encPs_iff, encFs_iff, gdX, decide_true, Bool.not_true, encPs_length]; apply hk; clear hk K) | apply qw8 | apply qw1 | refine qwc lvY18_8 ?_ | apply qt1 | apply qw5 | apply qw2 | apply qw9 | apply qt2 | apply qt3 | apply qt4 | apply qt5 | apply qt6 | apply qw3 | apply qw4 | apply qj1 | apply qj2 | apply qj3 | apply qj4 | apply qj5 | apply qu1 | apply qu2 | ((first | apply qa1 | apply qa2 | apply qa3 | apply qh1 | apply qh2); intro K hk; simp only [go_sem, Nat.reduceEqDiff, Nat.reduceAdd, Nat.reduceLeDiff, Nat.reduceLT, Nat.reduceSub, Int.reduceToNat, ↓reduceIte, reduceCtorEq, exl, ex_unit9, true_and, encPs_iff, encFs_iff, gdX, decide_true, Bool.not_true, encPs_length]; (repeat (refine And.intro ?_ ?_; focus (first | omega | assumption | with_reducible rfl | (simp only [go_sem, Nat.reduceEqDiff, Nat.reduceAdd, Nat.reduceLeDiff, Nat.reduceLT, Nat.reduceSub, Int.reduceToNat, ↓reduceIte, reduceCtorEq, exl, ex_unit9, true_and, encPs_iff, encFs_iff, gdX, decide_true, Bool.not_true, encPs_length]; done)))); intros; apply hk; clear hk K) | ((first | apply qg1 rfl | apply qcd); focus (simp only [go_sem, Nat.reduceEqDiff, Nat.reduceAdd, Nat.reduceLeDiff, Nat.reduceLT, Nat.reduceSub, Int.reduceToNat, ↓reduceIte, reduceCtorEq, exl, ex_unit9, true_and, encPs_iff, encFs_iff, gdX, decide_true, Bool.not_true, encPs_length]; exact rfl)) | (refine qj6 ?_ ?_ <;> intro hc <;> (try simp only [hc]) <;> (try simp only [decide_eq_true_eq, decide_eq_false_iff_not, Bool.not_eq_true', Bool.not_eq_false', Bool.not_eq_true, reduceCtorEq] at hc) <;> (try (exfalso; omega))) | (refine qt7 ?_ ?_; focus decide) | (refine qw7 ?_ ?_ ?_; (focus (decide +kernel)); (focus (decide +kernel))))
  · ((first | refine fin_ret ?_ | refine fin_end ?_); simp only [go_sem, ↓upd_def, Nat.reduceEqDiff, Nat.reduceAdd, ↓reduceIte, reduceCtorEq])
    exact hK
  rename (List PartD × List FieldD) => x
  obtain ⟨xs, d⟩ := x
  rename _ ∧ _ ∧ _ => hgx
  obtain ⟨b1, b2, b3⟩ := hgx
  dsimp only at b1 b2 b3
  have hok := bdFs_ok b3
  have hpa := ps_a6 xs
  have k2 : (xs.length : Int) / 2 = ((xs.length / 2 : Nat) : Int) := by omega
  have w1 := wtL_take xs (xs.length / 2)
  have w2 := wtL_drop xs (xs.length / 2)
  have l1 := plainM_len (data := d) (xs := xs.take (xs.length / 2)) (by omega)
  have l2 := plainM_len (data := d) (xs := xs.drop (xs.length / 2)) (by omega)
  by_cases hp : partsB xs = true ∧ dataB d = true
  · obtain ⟨hp1, hp2⟩ := hp
    have hsp := plainM_split (xs.length / 2) hp1 hp2
    repeat' (first | (refine s_draw 13 ?_ ?_; focus (decide +kernel)) | (first | (refine qwd fun K hk => ?_; simp only [lvY18_8, mkT, go_sem, Nat.reduceEqDiff, Nat.reduceAdd, Nat.reduceLeDiff, Nat.reduceLT, Nat.reduceSub, Int.reduceToNat, ↓reduceIte, reduceCtorEq, exl, ex_unit9, true_and, encPs_iff, encFs_iff, gdX, decide_true, Bool.not_true, Bool.not_false, encPs_length, bne_self_eq_false, hp1, hp2, hpa, k2, ps_take, ps_drop, Int.toNat_natCast, List.take_length, hsp]; apply hk; clear hk K) | apply qw8 | apply qw1 | refine qwc lvY18_8 ?_ | apply qt1 | apply qw5 | apply qw2 | apply qw9 | apply qt2 | apply qt3 | apply qt4 | apply qt5 | apply qt6 | apply qw3 | apply qw4 | apply qj1 | apply qj2 | apply qj3 | apply qj4 | apply qj5 | apply qu1 | apply qu2 | ((first | apply qa1 | apply qa2 | apply qa3 | apply qh1 | apply qh2); intro K hk; simp only [go_sem, Nat.reduceEqDiff, Nat.reduceAdd, Nat.reduceLeDiff, Nat.reduceLT, Nat.reduceSub, Int.reduceToNat, ↓reduceIte, reduceCtorEq, exl, ex_unit9, true_and, encPs_iff, encFs_iff, gdX, decide_true, Bool.not_true, Bool.not_false, encPs_length, bne_self_eq_false, hp1, hp2, hpa, k2, ps_take, ps_drop, Int.toNat_natCast, List.take_length, hsp]; (repeat (refine And.intro ?_ ?_; focus (first | omega | assumption | with_reducible rfl | (simp only [go_sem, Nat.reduceEqDiff, Nat.reduceAdd, Nat.reduceLeDiff, Nat.reduceLT, Nat.reduceSub, Int.reduceToNat, ↓reduceIte, reduceCtorEq, exl, ex_unit9, true_and, encPs_iff, encFs_iff, gdX, decide_true, Bool.not_true, Bool.not_false, encPs_length, bne_self_eq_false, hp1, hp2, hpa, k2, ps_take, ps_drop, Int.toNat_natCast, List.take_length, hsp]; done)))); intros; apply hk; clear hk K) | ((first | apply qg1 rfl | apply qcd); focus (simp only [go_sem, Nat.reduceEqDiff, Nat.reduceAdd, Nat.reduceLeDiff, Nat.reduceLT, Nat.reduceSub, Int.reduceToNat, ↓reduceIte, reduceCtorEq, exl, ex_unit9, true_and, encPs_iff, encFs_iff, gdX, decide_true, Bool.not_true, Bool.not_false, encPs_length, bne_self_eq_false, hp1, hp2, hpa, k2, ps_take, ps_drop, Int.toNat_natCast, List.take_length, hsp]; exact rfl)) | (refine qj6 ?_ ?_ <;> intro hc <;> (try simp only [hc]) <;> (try simp only [decide_eq_true_eq, decide_eq_false_iff_not, Bool.not_eq_true', Bool.not_eq_false', Bool.not_eq_true, reduceCtorEq] at hc) <;> (try (exfalso; omega))) | (refine qt7 ?_ ?_; focus decide) | (refine qw7 ?_ ?_ ?_; (focus (decide +kernel)); (focus (decide +kernel)))))
    all_goals first
      | (((first | refine fin_ret ?_ | refine fin_end ?_); simp only [go_sem, ↓upd_def, Nat.reduceEqDiff, Nat.reduceAdd, ↓reduceIte, reduceCtorEq])
         exact hK)
      | skip
  · have hn := plainM_none hp
    cases hp1 : partsB xs
    · repeat' (first | (refine qwd fun K hk => ?_; simp only [lvY18_8, mkT, go_sem, Nat.reduceEqDiff, Nat.reduceAdd, Nat.reduceLeDiff, Nat.reduceLT, Nat.reduceSub, Int.reduceToNat, ↓reduceIte, reduceCtorEq, exl, ex_unit9, true_and, encPs_iff, encFs_iff, gdX, decide_true, Bool.not_true, Bool.not_false, encPs_length, bne_self_eq_false, hp1, hn]; apply hk; clear hk K) | apply qw8 | apply qw1 | refine qwc lvY18_8 ?_ | apply qt1 | apply qw5 | apply qw2 | apply qw9 | apply qt2 | apply qt3 | apply qt4 | apply qt5 | apply qt6 | apply qw3 | apply qw4 | apply qj1 | apply qj2 | apply qj3 | apply qj4 | apply qj5 | apply qu1 | apply qu2 | ((first | apply qa1 | apply qa2 | apply qa3 | apply qh1 | apply qh2); intro K hk; simp only [go_sem, Nat.reduceEqDiff, Nat.reduceAdd, Nat.reduceLeDiff, Nat.reduceLT, Nat.reduceSub, Int.reduceToNat, ↓reduceIte, reduceCtorEq, exl, ex_unit9, true_and, encPs_iff, encFs_iff, gdX, decide_true, Bool.not_true, Bool.not_false, encPs_length, bne_self_eq_false, hp1, hn]; (repeat (refine And.intro ?_ ?_; focus (first | omega | assumption | with_reducible rfl | (simp only [go_sem, Nat.reduceEqDiff, Nat.reduceAdd, Nat.reduceLeDiff, Nat.reduceLT, Nat.reduceSub, Int.reduceToNat, ↓reduceIte, reduceCtorEq, exl, ex_unit9, true_and, encPs_iff, encFs_iff, gdX, decide_true, Bool.not_true, Bool.not_false, encPs_length, bne_self_eq_false, hp1, hn]; done)))); intros; apply hk; clear hk K) | ((first | apply qg1 rfl | apply qcd); focus (simp only [go_sem, Nat.reduceEqDiff, Nat.reduceAdd, Nat.reduceLeDiff, Nat.reduceLT, Nat.reduceSub, Int.reduceToNat, ↓reduceIte, reduceCtorEq, exl, ex_unit9, true_and, encPs_iff, encFs_iff, gdX, decide_true, Bool.not_true, Bool.not_false, encPs_length, bne_self_eq_false, hp1, hn]; exact rfl)) | (refine qj6 ?_ ?_ <;> intro hc <;> (try simp only [hc]) <;> (try simp only [decide_eq_true_eq, decide_eq_false_iff_not, Bool.not_eq_true', Bool.not_eq_false', Bool.not_eq_true, reduceCtorEq] at hc) <;> (try (exfalso; omega))) | (refine qt7 ?_ ?_; focus decide) | (refine qw7 ?_ ?_ ?_; (focus (decide +kernel)); (focus (decide +kernel))))
      ((first | refine fin_ret ?_ | refine fin_end ?_); simp only [go_sem, ↓upd_def, Nat.reduceEqDiff, Nat.reduceAdd, ↓reduceIte, reduceCtorEq])
      exact hK
    cases hp2 : dataB d
    · repeat' (first | (refine qwd fun K hk => ?_; simp only [lvY18_8, mkT, go_sem, Nat.reduceEqDiff, Nat.reduceAdd, Nat.reduceLeDiff, Nat.reduceLT, Nat.reduceSub, Int.reduceToNat, ↓reduceIte, reduceCtorEq, exl, ex_unit9, true_and, encPs_iff, encFs_iff, gdX, decide_true, Bool.not_true, Bool.not_false, encPs_length, bne_self_eq_false, hp1, hp2, hn]; apply hk; clear hk K) | apply qw8 | apply qw1 | refine qwc lvY18_8 ?_ | apply qt1 | apply qw5 | apply qw2 | apply qw9 | apply qt2 | apply qt3 | apply qt4 | apply qt5 | apply qt6 | apply qw3 | apply qw4 | apply qj1 | apply qj2 | apply qj3 | apply qj4 | apply qj5 | apply qu1 | apply qu2 | ((first | apply qa1 | apply qa2 | apply qa3 | apply qh1 | apply qh2); intro K hk; simp only [go_sem, Nat.reduceEqDiff, Nat.reduceAdd, Nat.reduceLeDiff, Nat.reduceLT, Nat.reduceSub, Int.reduceToNat, ↓reduceIte, reduceCtorEq, exl, ex_unit9, true_and, encPs_iff, encFs_iff, gdX, decide_true, Bool.not_true, Bool.not_false, encPs_length, bne_self_eq_false, hp1, hp2, hn]; (repeat (refine And.intro ?_ ?_; focus (first | omega | assumption | with_reducible rfl | (simp only [go_sem, Nat.reduceEqDiff, Nat.reduceAdd, Nat.reduceLeDiff, Nat.reduceLT, Nat.reduceSub, Int.reduceToNat, ↓reduceIte, reduceCtorEq, exl, ex_unit9, true_and, encPs_iff, encFs_iff, gdX, decide_true, Bool.not_true, Bool.not_false, encPs_length, bne_self_eq_false, hp1, hp2, hn]; done)))); intros; apply hk; clear hk K) | ((first | apply qg1 rfl | apply qcd); focus (simp only [go_sem, Nat.reduceEqDiff, Nat.reduceAdd, Nat.reduceLeDiff, Nat.reduceLT, Nat.reduceSub, Int.reduceToNat, ↓reduceIte, reduceCtorEq, exl, ex_unit9, true_and, encPs_iff, encFs_iff, gdX, decide_true, Bool.not_true, Bool.not_false, encPs_length, bne_self_eq_false, hp1, hp2, hn]; exact rfl)) | (refine qj6 ?_ ?_ <;> intro hc <;> (try simp only [hc]) <;> (try simp only [decide_eq_true_eq, decide_eq_false_iff_not, Bool.not_eq_true', Bool.not_eq_false', Bool.not_eq_true, reduceCtorEq] at hc) <;> (try (exfalso; omega))) | (refine qt7 ?_ ?_; focus decide) | (refine qw7 ?_ ?_ ?_; (focus (decide +kernel)); (focus (decide +kernel))))
      ((first | refine fin_ret ?_ | refine fin_end ?_); simp only [go_sem, ↓upd_def, Nat.reduceEqDiff, Nat.reduceAdd, ↓reduceIte, reduceCtorEq])
      exact hK
    exact absurd ⟨hp1, hp2⟩ hp
end Go.Proofs.Ytoocbpendccngaa
