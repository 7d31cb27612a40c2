/- The laws' own copies of fields, as trees of rows; they are marked. -/
import Derived.Test.YtdedddmnacomfaaVT5
import Derived.Test.YtdedddmnacomfaaVT4

namespace Go.Proofs.Ytdedddmnacomfaa
attribute [local irreducible] awp arun acalm FinP Fin AX.then AX.inBlock Again aG gsel amix amixN amixC aop aopc aopd cutK
attribute [local go_sem] aBSliceD aSlice aSliceC boundOf aMk aCall aCallC aLenL aLen aPick_t aPick_f aNil aAlloc aBox aBuild bldPV aBSlice bsPV aApp newsOf destOf drp aConvX aConv aConvInt aLoad cellsAt aStore cellsPV setAt aFld aField aIdx aIndex aUn aBin' aBin aMax aExtract pvOf PV.isCell nmbL PV.nmb List.map_cons List.map_nil List.all_cons List.all_nil Bool.and_true Bool.true_and if_true if_false List.getD_cons_zero List.getD_cons_succ List.getD_nil Option.isSome_some true_and and_true and_self eq_self true_or or_true List.drop_zero List.drop_succ_cons List.drop_nil List.take_zero List.take_succ_cons List.take_nil List.length_cons List.length_nil List.length_map Option.getD_some Option.getD_none List.nil_append List.cons_append List.append_nil Option.some.injEq exists_eq_left' List.getElem?_cons_zero List.getElem?_cons_succ Int.toNat_natCast Int.natCast_inj toNat_succ Nat.zero_add res res1 resC owns owns1 ownsC List.flatMap_cons List.flatMap_nil List.flatten_cons List.flatten_nil List.mem_cons List.not_mem_nil or_false false_or forall_eq forall_eq_or_imp isFro frz frz1 pureC tabA isBld List.cons.injEq PV.seq.injEq PV.int.injEq PV.str.injEq PV.bool.injEq PV.agg.injEq inR tab Γof aRes packR Option.map_some Option.map_none rel Prod.exists exists_and_left exists_eq_left and_assoc beq_self_eq_true Bool.not_true Bool.not_false decide_true decide_false List.set_cons_zero List.set_cons_succ rst_nil rst_cons
attribute [local go_sem ↓] evT upd_def aop aopc aopd
set_option maxRecDepth 100000
set_option linter.unusedVariables false
set_option linter.unusedSimpArgs false
open Go.RowKit
def lvT6_18 : Nat → List Nat
  | 0 => [0, 1]
  | 1 => [0, 1, 5]
  | 2 => [0, 1, 5, 9]
  | 3 => [0, 1, 5]
  | 4 => [0, 1, 5]
  | 5 => [0, 1, 5]
  | 6 => [4]
  | _ => []
def lvT6_36 : Nat → List Nat
  | 0 => [0]
  | 1 => [0, 3]
  | 2 => [0, 3, 4]
  | 3 => [0, 3, 4, 11]
  | 4 => [0, 3, 4]
  | 5 => [0, 3, 4]
  | 6 => [2]
  | _ => []
def lvT6_39 : Nat → List Nat
  | 0 => [0, 1]
  | 1 => [0, 1, 5]
  | 2 => [0, 1, 5, 9]
  | 3 => [0, 1, 5]
  | 4 => [0, 1, 5]
  | 5 => [0, 1, 5]
  | 6 => [0, 1, 5]
  | 7 => [0, 1, 5]
  | 8 => [0, 1, 5]
  | 9 => [0, 1, 5]
  | 10 => [0, 1, 5]
  | 11 => [4]
  | _ => []
def lvT6_75 : Nat → List Nat
  | 0 => [1, 2]
  | 1 => [1, 2, 3]
  | 2 => [1, 2, 3]
  | 3 => [1, 2, 3]
  | 4 => [1, 2, 3]
  | 5 => [2, 3]
  | 6 => [2]
  | _ => []
def lvT6_106 : Nat → List Nat
  | 0 => [0]
  | 1 => [0, 3]
  | 2 => [0, 3, 4]
  | 3 => [0, 3, 4, 11]
  | 4 => [0, 3, 4]
  | 5 => [0, 3, 4]
  | 6 => [2]
  | _ => []
--LV=T6
def TF : List FieldD → List (List PV) → List Node → Prop
  | [], rs, N => rs = [] ∧ N = []
  | f :: fs, rs, N => ∃ v rs' N', rs = [.str f.name, .str f.text, .bool f.holds, .raw v] :: rs' ∧ v.oneCell' = true ∧ TF fs rs' N' ∧ N = ⟨v, 9, 1, strs f.items⟩ :: N'
theorem TF_nil {rs : List (List PV)} {N : List Node} : TF [] rs N ↔ rs = [] ∧ N = [] := by rw [TF]
theorem TF_cons {f : FieldD} {fs : List FieldD} {rs : List (List PV)} {N : List Node} : TF (f :: fs) rs N ↔ ∃ v rs' N', rs = [.str f.name, .str f.text, .bool f.holds, .raw v] :: rs' ∧ v.oneCell' = true ∧ TF fs rs' N' ∧ N = ⟨v, 9, 1, strs f.items⟩ :: N' := by rw [TF]
theorem TF_len : ∀ {fs : List FieldD} {rs : List (List PV)} {N : List Node}, TF fs rs N → rs.length = fs.length
  | [], rs, N, h => by rw [TF_nil] at h; rw [h.1]; rfl
  | f :: fs, rs, N, h => by
    rw [TF_cons] at h
    obtain ⟨v, rs', N', rfl, _, h2, _⟩ := h
    rw [List.length_cons, List.length_cons, TF_len h2]
theorem TF_app : ∀ {xs ys : List FieldD} {rs qs : List (List PV)} {N M : List Node}, TF xs rs N → TF ys qs M → TF (xs ++ ys) (rs ++ qs) (N ++ M)
  | [], ys, rs, qs, N, M, h, h' => by
    rw [TF_nil] at h
    obtain ⟨rfl, rfl⟩ := h
    exact h'
  | x :: xs, ys, rs, qs, N, M, h, h' => by
    rw [TF_cons] at h
    obtain ⟨v, rs', N', rfl, h1, h2, rfl⟩ := h
    rw [List.cons_append, List.cons_append, TF_cons]
    exact ⟨v, _, _, rfl, h1, TF_app h2 h', by rw [List.cons_append]⟩
theorem TF_one {f : FieldD} {v : Value} (h : v.oneCell' = true) : TF [f] [[.str f.name, .str f.text, .bool f.holds, .raw v]] [⟨v, 9, 1, strs f.items⟩] := by
  rw [TF_cons]
  exact ⟨v, [], [], rfl, h, TF_nil.2 ⟨rfl, rfl⟩, rfl⟩
theorem TF_snoc {xs : List FieldD} {k : Nat} {f : FieldD} (hx : xs[k]? = some f) {rs : List (List PV)} {N : List Node} {v : Value} (h : TF (xs.take k) rs N) (hv : v.oneCell' = true) : TF (xs.take (k + 1)) (rs ++ [[.str f.name, .str f.text, .bool f.holds, .raw v]]) (N ++ [⟨v, 9, 1, strs f.items⟩]) := by
  rw [take_snoc' hx]
  exact TF_app h (TF_one hv)
theorem TF_plain : ∀ {xs : List FieldD} {rs : List (List PV)} {N : List Node}, TF xs rs N → rs.all (·.all plainR) = true
  | [], rs, N, h => by rw [TF_nil] at h; rw [h.1]; rfl
  | x :: xs, rs, N, h => by
    rw [TF_cons] at h
    obtain ⟨v, rs', N', rfl, h1, h2, _⟩ := h
    rw [List.all_cons, TF_plain h2]; simp [plainR, plainU]
theorem repA_plain {c c' : Cx} (hw : c'.w = c.w) : ∀ {us : List PV} {b o : Nat}, us.all plainU = true → RepA us c b o → RepA us c' b o
  | [], b, o, _, _ => RepA.nil
  | u :: us, b, o, h, hr => by
    simp only [List.all_cons, Bool.and_eq_true] at h
    rw [RepA.cons_iff] at *
    obtain ⟨⟨h0, x, h1, h2⟩, h3⟩ := hr
    exact ⟨⟨h0, x, by rw [hw]; exact h1, rep_plainU h.1 h2⟩, repA_plain hw h.2 h3⟩
theorem rep_TF {w : World} {S : Nat → Prop} : ∀ (xs : List FieldD) (rs : List (List PV)) (N : List Node) (b o : Nat), TF xs rs N → (∀ nd ∈ N, NodeOk w nd ∧ ∀ b, nd.v.ownBlock = some b → S b) → RepE rs ⟨w, fun _ => False, fun _ => none⟩ 4 b o → RepE (encFs xs) ⟨w, S, fun _ => none⟩ 4 b o
  | [], rs, N, b, o, h, hN, hr => by rw [encFs_nil]; exact RepE.nil
  | ⟨n, t, bo, i⟩ :: xs, rs, N, b, o, h, hN, hr => by
    rw [TF_cons] at h
    obtain ⟨v, rs', N', rfl, hv, h2, rfl⟩ := h
    rw [RepE.cons_iff] at hr
    have e : encFs (⟨n, t, bo, i⟩ :: xs) = encF ⟨n, t, bo, i⟩ :: encFs xs := rfl
    rw [e, RepE.cons_iff]
    refine ⟨rfl, ?_, rep_TF xs rs' N' b (o + 4) h2 (fun nd hnd => hN nd (List.mem_cons_of_mem _ hnd)) hr.2.2⟩
    have k1 : Rep (.seq (strs i)) ⟨w, S, fun _ => none⟩ v := rep_node (nd := ⟨v, 9, 1, strs i⟩) (hN _ List.mem_cons_self).1 (hN _ List.mem_cons_self).2 rfl fun b hb hS hr => by
      rw [RepE.flat] at hr ⊢
      exact ⟨hr.1, repA_plain (c := ⟨w, fun _ => False, fun _ => none⟩) (c' := ⟨w, S, fun _ => none⟩) rfl (all_flat (strs_plain i)) hr.2⟩
    have hr1 := hr.2.1
    rw [encF_mk]
    simp only [RepA.cons_iff] at hr1 ⊢
    obtain ⟨⟨c1, x1, d1, e1⟩, ⟨c2, x2, d2, e2⟩, ⟨c3, x3, d3, e3⟩, ⟨c4, x4, d4, e4⟩, _⟩ := hr1
    unfold Rep at e4
    subst e4
    exact ⟨⟨c1, x1, d1, rep_plainU rfl e1⟩, ⟨c2, x2, d2, rep_plainU rfl e2⟩, ⟨c3, x3, d3, rep_plainU rfl e3⟩, ⟨rfl, _, d4, k1⟩, RepA.nil⟩
def QF (es : List (List PV)) (v : Value) (N : List Node) : Prop := ∃ xs rs N', es = encFs xs ∧ TF xs rs N' ∧ N = ⟨v, 84, 4, rs⟩ :: N'
theorem rep_rootF {xs : List FieldD} {rs : List (List PV)} {N : List Node} {v : Value} {w : World} {S : Nat → Prop} (h : TF xs rs N) (hh : HeapR (⟨v, 84, 4, rs⟩ :: N) w S) : Rep (.seq (encFs xs)) ⟨w, S, fun _ => none⟩ v :=
  rep_node (nd := ⟨v, 84, 4, rs⟩) (hh.1 _ List.mem_cons_self) (fun b hb => by rw [hh.2.2]; exact ⟨_, List.mem_cons_self, hb⟩) (by rw [encFs_length, TF_len h])
    fun b _ _ hr => rep_TF xs rs N b 0 h (fun nd hnd => ⟨hh.1 nd (List.mem_cons_of_mem _ hnd), fun b hb => by rw [hh.2.2]; exact ⟨nd, List.mem_cons_of_mem _ hnd, hb⟩⟩) hr
def tjS : AC := jinC 9 1 (α := List Bs) (fun x => [.seq (strs x)]) (fun x => okSs x ∧ x.length ≤ 1048576) (fun x es N => es = strs x ∧ N = [])
theorem plainS_R (l : List Bs) : (strs l).all (·.all plainR) = true := by simp [strs, plainR, plainU]
theorem tjS_ok : ACok Try.prog 106 tjS := by
  refine jinC_ok 1 (tabA_nil (Γof_ok tab_nil)) tab_nil mixed [.tmp 2] Try.func106 rfl rfl (by kernel_rfl) (by kernel_rfl) (fun _ => rfl) (by kernel_rfl) (fun x => by simp [nmbL, PV.nmb]) ?_
  rintro l A K ⟨⟨h0, h2⟩, h1⟩ hK
  unfold entry
  simp only [mkM]
  repeat' (first | ((first | apply qwd | apply qa1 | apply qa2 | apply qa3 | apply qh1 | apply qh2 | apply qg1 rfl | apply qcd); (try intro K hk); focus (simp only [lvT6_106, mkT, go_sem, Nat.reduceEqDiff, Nat.reduceAdd, Nat.reduceLeDiff, Nat.reduceLT, Nat.reduceSub, Int.reduceToNat, ↓reduceIte, reduceCtorEq, strs_len]; first | exact rfl | ((repeat (refine And.intro ?_ ?_; focus (first | omega | assumption | with_reducible rfl))); intros; apply hk; clear hk K))) | apply qw8 | apply qw1 | refine qwc lvT6_106 ?_ | apply qt1 | apply qw5 | apply qw2 | apply qw9 | apply qt2 | apply qt3 | apply qt4 | apply qt5 | apply qt6 | apply qw3 | apply qw4 | apply qj1 | apply qj2 | apply qj3 | apply qj4 | apply qj5 | apply qu1 | apply qu2 | (refine qj6 ?_ ?_ <;> intro hc <;> (try simp only [hc]) <;> (try simp only [decide_eq_true_eq, decide_eq_false_iff_not, Bool.not_eq_true', Bool.not_eq_false', Bool.not_eq_true, reduceCtorEq] at hc) <;> (try (exfalso; omega))) | (refine qt7 ?_ ?_; focus decide) | (refine qw7 ?_ ?_ ?_; (focus (decide +kernel)); (focus (decide +kernel))))
  refine s_loop (ι := Nat) (fun j => [(0, .seq (strs l)), (3, .own 1), (4, .int .i64 j)]) (fun j => [(0, .gen heapP [encL A]), (1, .row 9 1 (strs (l.take j) ++ List.replicate (l.length - j) [PV.str []]))]) 2 (fun j => j ≤ l.length) (fun j => l.length - j) 0 (by omega) (by omega) ?_ ?_
  · simp [fits, fitsT, fitsM, upd_def, PV.nmb, nmbL, MB.nmb, List.getD_cons_zero, List.getD_cons_succ, strs]
  rintro j hj
  have hL : (strs (l.take j) ++ List.replicate (l.length - j) [PV.str []]).length = l.length := by rw [List.length_append, strs_len, List.length_take, List.length_replicate]; omega
  simp only [mkS, mkT, mkM]
  by_cases hjl : j < l.length
  · obtain ⟨t, hx⟩ := get_some (xs := l) (k := j) hjl
    have ga : (strs l)[j]? = some [.str t] := by rw [strs_get, hx]; rfl
    have gx : (strs (l.take j) ++ List.replicate (l.length - j) [PV.str []])[j]? = some [.str []] := by
      rw [List.getElem?_append_right (by rw [strs_len, List.length_take]; omega), strs_len, List.length_take, List.getElem?_replicate, if_pos (by omega)]
    repeat' (first | ((first | apply qwd | apply qa1 | apply qa2 | apply qa3 | apply qh1 | apply qh2 | apply qg1 rfl | apply qcd); (try intro K hk); focus (simp only [lvT6_106, mkT, go_sem, Nat.reduceEqDiff, Nat.reduceAdd, Nat.reduceLeDiff, Nat.reduceLT, Nat.reduceSub, Int.reduceToNat, ↓reduceIte, reduceCtorEq, strs_len, ga, gx, hL]; first | exact rfl | ((repeat (refine And.intro ?_ ?_; focus (first | omega | assumption | with_reducible rfl))); intros; apply hk; clear hk K))) | apply qw8 | apply qw1 | refine qwc lvT6_106 ?_ | apply qt1 | apply qw5 | apply qw2 | apply qw9 | apply qt2 | apply qt3 | apply qt4 | apply qt5 | apply qt6 | apply qw3 | apply qw4 | apply qj1 | apply qj2 | apply qj3 | apply qj4 | apply qj5 | apply qu1 | apply qu2 | (refine qj6 ?_ ?_ <;> intro hc <;> (try simp only [hc]) <;> (try simp only [decide_eq_true_eq, decide_eq_false_iff_not, Bool.not_eq_true', Bool.not_eq_false', Bool.not_eq_true, reduceCtorEq] at hc) <;> (try (exfalso; omega))) | (refine qt7 ?_ ?_; focus decide) | (refine qw7 ?_ ?_ ?_; (focus (decide +kernel)); (focus (decide +kernel))))
    refine s_again (j + 1) ?_ ?_ ?_ <;> (first | omega | (dsimp only; omega) | skip)
    have hlt : (strs (l.take j)).length = j := by rw [strs_len, List.length_take]; omega
    have e1 : l.length - j = (l.length - (j + 1)) + 1 := by omega
    have e2 : strs (l.take (j + 1)) = strs (l.take j) ++ [[.str t]] := by rw [take_snoc' hx, strs_append]; rfl
    have e3 : (strs (l.take j) ++ List.replicate (l.length - j) [PV.str []]).set j [.str t] = strs (l.take (j + 1)) ++ List.replicate (l.length - (j + 1)) [PV.str []] := by
      rw [List.set_append_right _ _ (by omega), hlt, Nat.sub_self, e1, List.replicate_succ, List.set_cons_zero, e2, List.append_assoc]; rfl
    simp [fits, fitsT, fitsM, upd_def, PV.nmb, nmbL, MB.nmb, List.getD_cons_zero, List.getD_cons_succ, e3]
  · obtain rfl : j = l.length := by omega
    repeat' (first | ((first | apply qwd | apply qa1 | apply qa2 | apply qa3 | apply qh1 | apply qh2 | apply qg1 rfl | apply qcd); (try intro K hk); focus (simp only [lvT6_106, mkT, go_sem, Nat.reduceEqDiff, Nat.reduceAdd, Nat.reduceLeDiff, Nat.reduceLT, Nat.reduceSub, Int.reduceToNat, ↓reduceIte, reduceCtorEq, strs_len]; first | exact rfl | ((repeat (refine And.intro ?_ ?_; focus (first | omega | assumption | with_reducible rfl))); intros; apply hk; clear hk K))) | apply qw8 | apply qw1 | refine qwc lvT6_106 ?_ | apply qt1 | apply qw5 | apply qw2 | apply qw9 | apply qt2 | apply qt3 | apply qt4 | apply qt5 | apply qt6 | apply qw3 | apply qw4 | apply qj1 | apply qj2 | apply qj3 | apply qj4 | apply qj5 | apply qu1 | apply qu2 | (refine qj6 ?_ ?_ <;> intro hc <;> (try simp only [hc]) <;> (try simp only [decide_eq_true_eq, decide_eq_false_iff_not, Bool.not_eq_true', Bool.not_eq_false', Bool.not_eq_true, reduceCtorEq] at hc) <;> (try (exfalso; omega))) | (refine qt7 ?_ ?_; focus decide) | (refine qw7 ?_ ?_ ?_; (focus (decide +kernel)); (focus (decide +kernel))))
    ((first | refine fin_H ?_ | refine fin_He ?_ | refine fin_J ?_ | refine fin_Je ?_ | refine fin_Y ?_ | refine fin_K ?_ | refine fin_T ?_ | refine fin_M ?_); simp only [go_sem, not_false_eq_true, ne_eq, ↓upd_def, Nat.reduceEqDiff, Nat.reduceAdd, ↓reduceIte, reduceCtorEq])
    refine ⟨1, rfl, _, rfl, [], by simp, ?_, hK _ _ ⟨?_, rfl⟩⟩
    · rw [List.take_length, Nat.sub_self, List.replicate_zero, List.append_nil]; exact plainS_R l
    · rw [List.take_length, Nat.sub_self, List.replicate_zero, List.append_nil]
@[simp] theorem encF_nmb (n : Nat) (x : FieldD) : nmbL n (encF x) = true := by cases x; simp [encF, nmbL, PV.nmb]
def tjF : AC := hpC (α := FieldD) (fun x => [.agg (encF x)]) (fun x => okF1 x ∧ x.items.length ≤ 1048576) (fun x r N => ∃ v, v.oneCell' = true ∧ r = .agg [.str x.name, .str x.text, .bool x.holds, .raw v] ∧ N = [⟨v, 9, 1, strs x.items⟩])
theorem tjF_ok : ACok Try.prog 75 tjF := by
  refine hpC_ok 1 (tabA_cons tjS_ok (tabA_nil (Γof_ok tab_nil))) tab_nil mixed [.cell 2 84] Try.func75 rfl rfl (by kernel_rfl) (by kernel_rfl) (fun _ => rfl) (by kernel_rfl) (fun x => by simp [nmbL, PV.nmb, encP_nmb]) ?_
  rintro ⟨n, t, b, i⟩ A K ⟨⟨o1, o2, o3⟩, h1⟩ hK
  dsimp only at *
  unfold entry
  simp only [mkM]
  repeat' (first | ((first | apply qwd | apply qa1 | apply qa2 | apply qa3 | apply qh1 | apply qh2 | apply qg1 rfl | apply qcd); (try intro K hk); focus (simp only [lvT6_75, mkT, go_sem, Nat.reduceEqDiff, Nat.reduceAdd, Nat.reduceLeDiff, Nat.reduceLT, Nat.reduceSub, Int.reduceToNat, ↓reduceIte, reduceCtorEq, encF_mk]; first | exact rfl | ((repeat (refine And.intro ?_ ?_; focus (first | omega | assumption | with_reducible rfl))); intros; apply hk; clear hk K))) | apply qw8 | apply qw1 | refine qwc lvT6_75 ?_ | apply qt1 | apply qw5 | apply qw2 | apply qw9 | apply qt2 | apply qt3 | apply qt4 | apply qt5 | apply qt6 | apply qw3 | apply qw4 | apply qj1 | apply qj2 | apply qj3 | apply qj4 | apply qj5 | apply qu1 | apply qu2 | (refine qj6 ?_ ?_ <;> intro hc <;> (try simp only [hc]) <;> (try simp only [decide_eq_true_eq, decide_eq_false_iff_not, Bool.not_eq_true', Bool.not_eq_false', Bool.not_eq_true, reduceCtorEq] at hc) <;> (try (exfalso; omega))) | (refine qt7 ?_ ?_; focus decide) | (refine qw7 ?_ ?_ ?_; (focus (decide +kernel)); (focus (decide +kernel))))
  (refine qa1 fun K hk => ?_); simp only [go_sem, ↓upd_def, ↓evT, Nat.reduceEqDiff, Nat.reduceAdd, Nat.reduceLeDiff, Nat.reduceLT, Nat.reduceSub, Int.reduceToNat, ↓reduceIte, reduceCtorEq, ↓aop, ↓aopc, ↓aopd, encF_mk]; repeat (refine And.intro ?_ ?_; focus (first | omega | assumption | with_reducible rfl | (simp only [go_sem, ↓upd_def, ↓evT, Nat.reduceEqDiff, Nat.reduceAdd, Nat.reduceLeDiff, Nat.reduceLT, Nat.reduceSub, Int.reduceToNat, ↓reduceIte, reduceCtorEq, ↓aop, ↓aopc, ↓aopd, encF_mk]; done)))
  unfold tjS jinC
  refine ⟨i, A, rfl, rfl, ⟨o3, h1⟩, ?_⟩
  rintro v es N hv ⟨rfl, rfl⟩
  apply hk; clear hk K
  repeat' (first | ((first | apply qwd | apply qa1 | apply qa2 | apply qa3 | apply qh1 | apply qh2 | apply qg1 rfl | apply qcd); (try intro K hk); focus (simp only [lvT6_75, mkT, go_sem, Nat.reduceEqDiff, Nat.reduceAdd, Nat.reduceLeDiff, Nat.reduceLT, Nat.reduceSub, Int.reduceToNat, ↓reduceIte, reduceCtorEq, encF_mk, hv]; first | exact rfl | ((repeat (refine And.intro ?_ ?_; focus (first | omega | assumption | with_reducible rfl))); intros; apply hk; clear hk K))) | apply qw8 | apply qw1 | refine qwc lvT6_75 ?_ | apply qt1 | apply qw5 | apply qw2 | apply qw9 | apply qt2 | apply qt3 | apply qt4 | apply qt5 | apply qt6 | apply qw3 | apply qw4 | apply qj1 | apply qj2 | apply qj3 | apply qj4 | apply qj5 | apply qu1 | apply qu2 | (refine qj6 ?_ ?_ <;> intro hc <;> (try simp only [hc]) <;> (try simp only [decide_eq_true_eq, decide_eq_false_iff_not, Bool.not_eq_true', Bool.not_eq_false', Bool.not_eq_true, reduceCtorEq] at hc) <;> (try (exfalso; omega))) | (refine qt7 ?_ ?_; focus decide) | (refine qw7 ?_ ?_ ?_; (focus (decide +kernel)); (focus (decide +kernel))))
  ((first | refine fin_H ?_ | refine fin_He ?_ | refine fin_J ?_ | refine fin_Je ?_ | refine fin_Y ?_ | refine fin_K ?_ | refine fin_T ?_ | refine fin_M ?_); simp only [go_sem, not_false_eq_true, ne_eq, ↓upd_def, Nat.reduceEqDiff, Nat.reduceAdd, ↓reduceIte, reduceCtorEq])
  exact ⟨Nat.le_refl _, [⟨v, 9, 1, strs i⟩], by simp, hK _ _ ⟨v, hv, rfl, rfl⟩⟩
def tjFs : AC := jinC 84 4 (α := List FieldD) (fun x => [.seq (encFs x)]) (fun x => okF x ∧ x.length ≤ 1048576 ∧ ∀ f ∈ x, f.items.length ≤ 1048576) (fun x es N => TF x es N)
def zF : List PV := [PV.str [], PV.str [], PV.bool false, PV.seq []]
set_option maxHeartbeats 4000000 in
theorem tjFs_ok : ACok Try.prog 36 tjFs := by
  refine jinC_ok 1 (tabA_cons tjF_ok (tabA_nil (Γof_ok tab_nil))) tab_nil mixed [.tmp 2] Try.func36 rfl rfl (by kernel_rfl) (by kernel_rfl) (fun _ => rfl) (by kernel_rfl) (fun x => by simp [nmbL, PV.nmb]) ?_
  rintro l A K ⟨hok, h1, h2⟩ hK
  obtain ⟨h0, _⟩ := id hok
  unfold entry
  simp only [mkM]
  repeat' (first | ((first | apply qwd | apply qa1 | apply qa2 | apply qa3 | apply qh1 | apply qh2 | apply qg1 rfl | apply qcd); (try intro K hk); focus (simp only [lvT6_36, mkT, go_sem, Nat.reduceEqDiff, Nat.reduceAdd, Nat.reduceLeDiff, Nat.reduceLT, Nat.reduceSub, Int.reduceToNat, ↓reduceIte, reduceCtorEq, encFs_length]; first | exact rfl | ((repeat (refine And.intro ?_ ?_; focus (first | omega | assumption | with_reducible rfl))); intros; apply hk; clear hk K))) | apply qw8 | apply qw1 | refine qwc lvT6_36 ?_ | apply qt1 | apply qw5 | apply qw2 | apply qw9 | apply qt2 | apply qt3 | apply qt4 | apply qt5 | apply qt6 | apply qw3 | apply qw4 | apply qj1 | apply qj2 | apply qj3 | apply qj4 | apply qj5 | apply qu1 | apply qu2 | (refine qj6 ?_ ?_ <;> intro hc <;> (try simp only [hc]) <;> (try simp only [decide_eq_true_eq, decide_eq_false_iff_not, Bool.not_eq_true', Bool.not_eq_false', Bool.not_eq_true, reduceCtorEq] at hc) <;> (try (exfalso; omega))) | (refine qt7 ?_ ?_; focus decide) | (refine qw7 ?_ ?_ ?_; (focus (decide +kernel)); (focus (decide +kernel))))
  refine s_loop (ι := Nat × List (List PV) × List Node) (fun i => [(0, .seq (encFs l)), (3, .own 1), (4, .int .i64 i.1)]) (fun i => [(0, .gen heapP [encL (A ++ i.2.2)]), (1, .row 84 4 (i.2.1 ++ List.replicate (l.length - i.1) zF))]) 2 (fun i => i.1 ≤ l.length ∧ TF (l.take i.1) i.2.1 i.2.2) (fun i => l.length - i.1) (0, [], []) (by omega) ⟨Nat.zero_le _, TF_nil.2 ⟨rfl, rfl⟩⟩ ?_ ?_
  · simp [fits, fitsT, fitsM, upd_def, PV.nmb, nmbL, MB.nmb, List.getD_cons_zero, List.getD_cons_succ, zF]
  rintro ⟨j, rs, N⟩ ⟨hj, hT⟩
  dsimp only at hj hT
  have hL1 : rs.length = j := by rw [TF_len hT, List.length_take]; omega
  have hL : (rs ++ List.replicate (l.length - j) zF).length = l.length := by rw [List.length_append, List.length_replicate]; omega
  simp only [mkS, mkT, mkM]
  by_cases hjl : j < l.length
  · obtain ⟨⟨n, t, b, i⟩, hx⟩ := get_some (xs := l) (k := j) hjl
    have ga : (encFs l)[j]? = some [.str n, .str t, .bool b, .seq (strs i)] := by rw [encFs_get, hx]; rfl
    have hxo := okF_one hok hx
    have hxi := h2 _ (mem_of_get hx)
    dsimp only at hxi
    have gx : (rs ++ List.replicate (l.length - j) zF)[j]? = some zF := by
      rw [List.getElem?_append_right (by omega), List.getElem?_replicate, if_pos (by omega)]
    have hse : ∀ a, (rs ++ List.replicate (l.length - j) zF).set j a = (rs ++ [a]) ++ List.replicate (l.length - (j + 1)) zF := by
      intro a
      rw [List.set_append_right _ _ (by omega), hL1, Nat.sub_self, show l.length - j = (l.length - (j + 1)) + 1 by omega, List.replicate_succ, List.set_cons_zero, List.append_assoc]
      rfl
    have hzl : zF.length = 4 := rfl
    have hzd : List.drop 4 zF = [] := rfl
    repeat' (first | ((first | apply qwd | apply qa1 | apply qa2 | apply qa3 | apply qh1 | apply qh2 | apply qg1 rfl | apply qcd); (try intro K hk); focus (simp only [lvT6_36, mkT, go_sem, Nat.reduceEqDiff, Nat.reduceAdd, Nat.reduceLeDiff, Nat.reduceLT, Nat.reduceSub, Int.reduceToNat, ↓reduceIte, reduceCtorEq, encFs_length, ga, gx, hL, hse, hzl, hzd, encF_mk]; first | exact rfl | ((repeat (refine And.intro ?_ ?_; focus (first | omega | assumption | with_reducible rfl))); intros; apply hk; clear hk K))) | apply qw8 | apply qw1 | refine qwc lvT6_36 ?_ | apply qt1 | apply qw5 | apply qw2 | apply qw9 | apply qt2 | apply qt3 | apply qt4 | apply qt5 | apply qt6 | apply qw3 | apply qw4 | apply qj1 | apply qj2 | apply qj3 | apply qj4 | apply qj5 | apply qu1 | apply qu2 | (refine qj6 ?_ ?_ <;> intro hc <;> (try simp only [hc]) <;> (try simp only [decide_eq_true_eq, decide_eq_false_iff_not, Bool.not_eq_true', Bool.not_eq_false', Bool.not_eq_true, reduceCtorEq] at hc) <;> (try (exfalso; omega))) | (refine qt7 ?_ ?_; focus decide) | (refine qw7 ?_ ?_ ?_; (focus (decide +kernel)); (focus (decide +kernel))))
    (refine qa1 fun K hk => ?_); simp only [go_sem, ↓upd_def, ↓evT, Nat.reduceEqDiff, Nat.reduceAdd, Nat.reduceLeDiff, Nat.reduceLT, Nat.reduceSub, Int.reduceToNat, ↓reduceIte, reduceCtorEq, ↓aop, ↓aopc, ↓aopd, encFs_length, ga, gx, hL, hse, hzl, hzd, encF_mk]; repeat (refine And.intro ?_ ?_; focus (first | omega | assumption | with_reducible rfl | (simp only [go_sem, ↓upd_def, ↓evT, Nat.reduceEqDiff, Nat.reduceAdd, Nat.reduceLeDiff, Nat.reduceLT, Nat.reduceSub, Int.reduceToNat, ↓reduceIte, reduceCtorEq, ↓aop, ↓aopc, ↓aopd, encFs_length, ga, gx, hL, hse, hzl, hzd, encF_mk]; done)))
    unfold tjF hpC
    refine ⟨⟨n, t, b, i⟩, A ++ N, rfl, rfl, ⟨hxo, hxi⟩, ?_⟩
    rintro r M ⟨v, hv, rfl, rfl⟩
    apply hk; clear hk K
    dsimp only
    repeat' (first | ((first | apply qwd | apply qa1 | apply qa2 | apply qa3 | apply qh1 | apply qh2 | apply qg1 rfl | apply qcd); (try intro K hk); focus (simp only [lvT6_36, mkT, go_sem, Nat.reduceEqDiff, Nat.reduceAdd, Nat.reduceLeDiff, Nat.reduceLT, Nat.reduceSub, Int.reduceToNat, ↓reduceIte, reduceCtorEq, encFs_length, ga, gx, hL, hse, hzl, hzd, encF_mk, hv]; first | exact rfl | ((repeat (refine And.intro ?_ ?_; focus (first | omega | assumption | with_reducible rfl))); intros; apply hk; clear hk K))) | apply qw8 | apply qw1 | refine qwc lvT6_36 ?_ | apply qt1 | apply qw5 | apply qw2 | apply qw9 | apply qt2 | apply qt3 | apply qt4 | apply qt5 | apply qt6 | apply qw3 | apply qw4 | apply qj1 | apply qj2 | apply qj3 | apply qj4 | apply qj5 | apply qu1 | apply qu2 | (refine qj6 ?_ ?_ <;> intro hc <;> (try simp only [hc]) <;> (try simp only [decide_eq_true_eq, decide_eq_false_iff_not, Bool.not_eq_true', Bool.not_eq_false', Bool.not_eq_true, reduceCtorEq] at hc) <;> (try (exfalso; omega))) | (refine qt7 ?_ ?_; focus decide) | (refine qw7 ?_ ?_ ?_; (focus (decide +kernel)); (focus (decide +kernel))))
    refine s_again ((j + 1, rs ++ [[.str n, .str t, .bool b, .raw v]], N ++ [⟨v, 9, 1, strs i⟩])) ?_ ?_ ?_ <;> (first | omega | (dsimp only; omega) | skip)
    · exact ⟨by dsimp only; omega, TF_snoc hx hT hv⟩
    · simp [fits, fitsT, fitsM, upd_def, PV.nmb, nmbL, MB.nmb, List.getD_cons_zero, List.getD_cons_succ]
  · obtain rfl : j = l.length := by omega
    repeat' (first | ((first | apply qwd | apply qa1 | apply qa2 | apply qa3 | apply qh1 | apply qh2 | apply qg1 rfl | apply qcd); (try intro K hk); focus (simp only [lvT6_36, mkT, go_sem, Nat.reduceEqDiff, Nat.reduceAdd, Nat.reduceLeDiff, Nat.reduceLT, Nat.reduceSub, Int.reduceToNat, ↓reduceIte, reduceCtorEq, encFs_length]; first | exact rfl | ((repeat (refine And.intro ?_ ?_; focus (first | omega | assumption | with_reducible rfl))); intros; apply hk; clear hk K))) | apply qw8 | apply qw1 | refine qwc lvT6_36 ?_ | apply qt1 | apply qw5 | apply qw2 | apply qw9 | apply qt2 | apply qt3 | apply qt4 | apply qt5 | apply qt6 | apply qw3 | apply qw4 | apply qj1 | apply qj2 | apply qj3 | apply qj4 | apply qj5 | apply qu1 | apply qu2 | (refine qj6 ?_ ?_ <;> intro hc <;> (try simp only [hc]) <;> (try simp only [decide_eq_true_eq, decide_eq_false_iff_not, Bool.not_eq_true', Bool.not_eq_false', Bool.not_eq_true, reduceCtorEq] at hc) <;> (try (exfalso; omega))) | (refine qt7 ?_ ?_; focus decide) | (refine qw7 ?_ ?_ ?_; (focus (decide +kernel)); (focus (decide +kernel))))
    ((first | refine fin_H ?_ | refine fin_He ?_ | refine fin_J ?_ | refine fin_Je ?_ | refine fin_Y ?_ | refine fin_K ?_ | refine fin_T ?_ | refine fin_M ?_); simp only [go_sem, not_false_eq_true, ne_eq, ↓upd_def, Nat.reduceEqDiff, Nat.reduceAdd, ↓reduceIte, reduceCtorEq])
    rw [List.take_length] at hT
    exact ⟨1, rfl, rs, by simp, N, rfl, TF_plain hT, hK _ _ hT⟩
@[go_sem] def tjFT : AC := newT QF (α := List FieldD) (fun x => [.seq (encFs x)]) (fun x => okF x ∧ x.length ≤ 1048576 ∧ ∀ f ∈ x, f.items.length ≤ 1048576) (fun x => encFs x)
theorem tjFT_ok : ACok Try.prog 36 tjFT := newT_ok tjFs_ok (fun x => by simp [nmbL, PV.nmb]) (fun x v es N h => ⟨x, es, N, rfl, h, rfl⟩) (fun x v es N w S h hh => rep_rootF h hh)
def mfL : List FieldD → Nat
  | [] => 0
  | f :: fs => 3 + f.items.length + mfL fs
def mrF (f : FieldD) (k : Int) : FieldD := ⟨markB k, markB (k + 1), decide ((k + 2) % 3 = 0), marks (k + 3) f.items.length⟩
def mrFs : List FieldD → Int → List FieldD
  | [], _ => []
  | f :: fs, k => mrF f k :: mrFs fs (k + (3 + f.items.length : Nat))
theorem mfL_append : ∀ xs ys : List FieldD, mfL (xs ++ ys) = mfL xs + mfL ys
  | [], ys => by simp [mfL]
  | x :: xs, ys => by rw [List.cons_append, mfL, mfL, mfL_append xs ys]; omega
theorem mfL_snoc {xs : List FieldD} {k : Nat} {x : FieldD} (h : xs[k]? = some x) : mfL (xs.take (k + 1)) = mfL (xs.take k) + (3 + x.items.length) := by
  rw [take_snoc' h, mfL_append, mfL, mfL, Nat.add_zero]
theorem mfL_le (xs : List FieldD) (k : Nat) : mfL (xs.take k) ≤ mfL xs := by
  have := mfL_append (xs.take k) (xs.drop k)
  rw [List.take_append_drop] at this
  omega
theorem mrFs_length : ∀ (xs : List FieldD) (k : Int), (mrFs xs k).length = xs.length
  | [], k => rfl
  | x :: xs, k => by rw [mrFs, List.length_cons, List.length_cons, mrFs_length xs]
theorem mrFs_append : ∀ (xs ys : List FieldD) (k : Int), mrFs (xs ++ ys) k = mrFs xs k ++ mrFs ys (k + mfL xs)
  | [], ys, k => by simp [mrFs, mfL]
  | x :: xs, ys, k => by
    rw [List.cons_append, mrFs, mrFs, mrFs_append xs ys, mfL, List.cons_append]
    congr 3; omega
theorem mrFs_snoc {xs : List FieldD} {k : Nat} {x : FieldD} (h : xs[k]? = some x) (m : Int) : mrFs (xs.take (k + 1)) m = mrFs (xs.take k) m ++ [mrF x (m + mfL (xs.take k))] := by
  rw [take_snoc' h, mrFs_append]; rfl
theorem mfL_wt : ∀ l : List FieldD, mfL l ≤ 3 * (l.length + wtFs l)
  | [] => by simp [mfL]
  | f :: l => by
    have := mfL_wt l
    have e : wtFs (f :: l) = wtF f + wtFs l := by simp [wtFs]
    rw [mfL, e, List.length_cons]
    unfold wtF
    omega
def mkSK : AC := sptK 9 1 (α := List Bs × Int) (fun x => [.int .i64 x.2]) (fun x => strs x.1) (fun x => []) (fun x => x.1.length ≤ 16777216 ∧ 0 ≤ x.2 ∧ x.2 ≤ 16777216) (fun x => .int .i64 (x.2 + x.1.length)) (fun x es N => es = strs (marks x.2 x.1.length) ∧ N = [])
theorem mkSK_ok : ACok Try.prog 18 mkSK := by
  refine sptK_ok 2 (tabA_nil (Γof_ok (tab_cons mark_ok tab_nil))) (tab_cons mark_ok tab_nil) mixed [.tmp 4] Try.func18 rfl rfl (by kernel_rfl) (by kernel_rfl) (fun _ => rfl) (by kernel_rfl) (fun x => by first | rfl | simp [nmbL, PV.nmb]) ?_
  rintro ⟨l, k⟩ L R K ⟨h0, h1, h2⟩ hK
  dsimp only at *
  unfold entry
  simp only [mkM]
  repeat' (first | ((first | apply qwd | apply qa1 | apply qa2 | apply qa3 | apply qh1 | apply qh2 | apply qg1 rfl | apply qcd); (try intro K hk); focus (simp only [lvT6_18, mkT, go_sem, Nat.reduceEqDiff, Nat.reduceAdd, Nat.reduceLeDiff, Nat.reduceLT, Nat.reduceSub, Int.reduceToNat, ↓reduceIte, reduceCtorEq, strs_len]; first | exact rfl | ((repeat (refine And.intro ?_ ?_; focus (first | omega | assumption | with_reducible rfl))); intros; apply hk; clear hk K))) | apply qw8 | apply qw1 | refine qwc lvT6_18 ?_ | apply qt1 | apply qw5 | apply qw2 | apply qw9 | apply qt2 | apply qt3 | apply qt4 | apply qt5 | apply qt6 | apply qw3 | apply qw4 | apply qj1 | apply qj2 | apply qj3 | apply qj4 | apply qj5 | apply qu1 | apply qu2 | (refine qj6 ?_ ?_ <;> intro hc <;> (try simp only [hc]) <;> (try simp only [decide_eq_true_eq, decide_eq_false_iff_not, Bool.not_eq_true', Bool.not_eq_false', Bool.not_eq_true, reduceCtorEq] at hc) <;> (try (exfalso; omega))) | (refine qt7 ?_ ?_; focus decide) | (refine qw7 ?_ ?_ ?_; (focus (decide +kernel)); (focus (decide +kernel))))
  refine s_loop (ι := Nat) (fun j => [(0, .own 1), (1, .int .i64 (k + j)), (5, .int .i64 j)]) (fun j => [(0, .gen heapP [encL (L ++ ([] ++ R))]), (1, .row 9 1 (strs (marks k j ++ l.drop j)))]) 2 (fun j => j ≤ l.length) (fun j => l.length - j) 0 (by omega) (by omega) ?_ ?_
  · simp [fits, fitsT, fitsM, upd_def, PV.nmb, nmbL, MB.nmb, List.getD_cons_zero, List.getD_cons_succ, marks]
  rintro j hj
  have hml := marks_len j k
  have hL : (strs (marks k j ++ l.drop j)).length = l.length := by rw [strs_len, List.length_append, hml, List.length_drop]; omega
  simp only [mkS, mkT, mkM]
  by_cases hjl : j < l.length
  · obtain ⟨x, hx⟩ := get_some (xs := l) (k := j) hjl
    have gx : (strs (marks k j ++ l.drop j))[j]? = some [.str x] := by
      rw [strs_get, List.getElem?_append_right (by omega), hml, Nat.sub_self, List.getElem?_drop, Nat.add_zero, hx]; rfl
    repeat' (first | ((first | apply qwd | apply qa1 | apply qa2 | apply qa3 | apply qh1 | apply qh2 | apply qg1 rfl | apply qcd); (try intro K hk); focus (simp only [lvT6_18, mkT, go_sem, Nat.reduceEqDiff, Nat.reduceAdd, Nat.reduceLeDiff, Nat.reduceLT, Nat.reduceSub, Int.reduceToNat, ↓reduceIte, reduceCtorEq, hL, gx]; first | exact rfl | ((repeat (refine And.intro ?_ ?_; focus (first | omega | assumption | with_reducible rfl))); intros; apply hk; clear hk K))) | apply qw8 | apply qw1 | refine qwc lvT6_18 ?_ | apply qt1 | apply qw5 | apply qw2 | apply qw9 | apply qt2 | apply qt3 | apply qt4 | apply qt5 | apply qt6 | apply qw3 | apply qw4 | apply qj1 | apply qj2 | apply qj3 | apply qj4 | apply qj5 | apply qu1 | apply qu2 | (refine qj6 ?_ ?_ <;> intro hc <;> (try simp only [hc]) <;> (try simp only [decide_eq_true_eq, decide_eq_false_iff_not, Bool.not_eq_true', Bool.not_eq_false', Bool.not_eq_true, reduceCtorEq] at hc) <;> (try (exfalso; omega))) | (refine qt7 ?_ ?_; focus decide) | (refine qw7 ?_ ?_ ?_; (focus (decide +kernel)); (focus (decide +kernel))))
    refine s_again (j + 1) ?_ ?_ ?_ <;> (first | omega | (dsimp only; omega) | skip)
    simp [fits, fitsT, fitsM, upd_def, PV.nmb, nmbL, MB.nmb, List.getD_cons_zero, List.getD_cons_succ, strs_set, marks_set hjl]
    omega
  · obtain rfl : j = l.length := by omega
    repeat' (first | ((first | apply qwd | apply qa1 | apply qa2 | apply qa3 | apply qh1 | apply qh2 | apply qg1 rfl | apply qcd); (try intro K hk); focus (simp only [lvT6_18, mkT, go_sem, Nat.reduceEqDiff, Nat.reduceAdd, Nat.reduceLeDiff, Nat.reduceLT, Nat.reduceSub, Int.reduceToNat, ↓reduceIte, reduceCtorEq, hL]; first | exact rfl | ((repeat (refine And.intro ?_ ?_; focus (first | omega | assumption | with_reducible rfl))); intros; apply hk; clear hk K))) | apply qw8 | apply qw1 | refine qwc lvT6_18 ?_ | apply qt1 | apply qw5 | apply qw2 | apply qw9 | apply qt2 | apply qt3 | apply qt4 | apply qt5 | apply qt6 | apply qw3 | apply qw4 | apply qj1 | apply qj2 | apply qj3 | apply qj4 | apply qj5 | apply qu1 | apply qu2 | (refine qj6 ?_ ?_ <;> intro hc <;> (try simp only [hc]) <;> (try simp only [decide_eq_true_eq, decide_eq_false_iff_not, Bool.not_eq_true', Bool.not_eq_false', Bool.not_eq_true, reduceCtorEq] at hc) <;> (try (exfalso; omega))) | (refine qt7 ?_ ?_; focus decide) | (refine qw7 ?_ ?_ ?_; (focus (decide +kernel)); (focus (decide +kernel))))
    ((first | refine fin_H ?_ | refine fin_He ?_ | refine fin_J ?_ | refine fin_Je ?_ | refine fin_Y ?_ | refine fin_K ?_ | refine fin_T ?_ | refine fin_M ?_); simp only [go_sem, not_false_eq_true, ne_eq, ↓upd_def, Nat.reduceEqDiff, Nat.reduceAdd, ↓reduceIte, reduceCtorEq])
    refine ⟨_, rfl, plainS_R _, [], rfl, hK _ _ ⟨?_, rfl⟩⟩
    rw [List.drop_of_length_le (Nat.le_refl _), List.append_nil]
@[go_sem] def mkFK : AC := sptK 84 4 (α := List FieldD × List (List PV) × List Node × Int) (fun x => [.int .i64 x.2.2.2]) (fun x => x.2.1) (fun x => x.2.2.1) (fun x => mfL x.1 ≤ 8388608 ∧ x.1.length ≤ 1048576 ∧ TF x.1 x.2.1 x.2.2.1 ∧ 0 ≤ x.2.2.2 ∧ x.2.2.2 + mfL x.1 ≤ 16777216) (fun x => .int .i64 (x.2.2.2 + mfL x.1)) (fun x es N => TF (mrFs x.1 x.2.2.2) es N)
set_option maxHeartbeats 8000000 in
theorem mkFK_ok : ACok Try.prog 39 mkFK := by
  refine sptK_ok 2 (tabA_cons mkSK_ok (tabA_nil (Γof_ok (tab_cons mark_ok tab_nil)))) (tab_cons mark_ok tab_nil) mixed [.tmp 4] Try.func39 rfl rfl (by kernel_rfl) (by kernel_rfl) (fun _ => rfl) (by kernel_rfl) (fun x => by first | rfl | simp [nmbL, PV.nmb]) ?_
  rintro ⟨xs, rs0, N0, m⟩ L R K ⟨hq, hl, hT0, hm, hmb⟩ hK
  dsimp only at *
  have hl0 := TF_len hT0
  unfold entry
  simp only [mkM]
  repeat' (first | ((first | apply qwd | apply qa1 | apply qa2 | apply qa3 | apply qh1 | apply qh2 | apply qg1 rfl | apply qcd); (try intro K hk); focus (simp only [lvT6_39, mkT, go_sem, Nat.reduceEqDiff, Nat.reduceAdd, Nat.reduceLeDiff, Nat.reduceLT, Nat.reduceSub, Int.reduceToNat, ↓reduceIte, reduceCtorEq, hl0]; first | exact rfl | ((repeat (refine And.intro ?_ ?_; focus (first | omega | assumption | with_reducible rfl))); intros; apply hk; clear hk K))) | apply qw8 | apply qw1 | refine qwc lvT6_39 ?_ | apply qt1 | apply qw5 | apply qw2 | apply qw9 | apply qt2 | apply qt3 | apply qt4 | apply qt5 | apply qt6 | apply qw3 | apply qw4 | apply qj1 | apply qj2 | apply qj3 | apply qj4 | apply qj5 | apply qu1 | apply qu2 | (refine qj6 ?_ ?_ <;> intro hc <;> (try simp only [hc]) <;> (try simp only [decide_eq_true_eq, decide_eq_false_iff_not, Bool.not_eq_true', Bool.not_eq_false', Bool.not_eq_true, reduceCtorEq] at hc) <;> (try (exfalso; omega))) | (refine qt7 ?_ ?_; focus decide) | (refine qw7 ?_ ?_ ?_; (focus (decide +kernel)); (focus (decide +kernel))))
  refine s_loop (ι := Nat × (List (List PV) × List Node) × (List (List PV) × List Node)) (fun i => [(0, .own 1), (1, .int .i64 (m + mfL (xs.take i.1))), (5, .int .i64 i.1)]) (fun i => [(0, .gen heapP [encL (L ++ (i.2.1.2 ++ (i.2.2.2 ++ R)))]), (1, .row 84 4 (i.2.1.1 ++ i.2.2.1))]) 2 (fun i => i.1 ≤ xs.length ∧ TF (mrFs (xs.take i.1) m) i.2.1.1 i.2.1.2 ∧ TF (xs.drop i.1) i.2.2.1 i.2.2.2) (fun i => xs.length - i.1) (0, ([], []), (rs0, N0)) (by omega) ⟨Nat.zero_le _, TF_nil.2 ⟨rfl, rfl⟩, hT0⟩ ?_ ?_
  · simp [fits, fitsT, fitsM, upd_def, PV.nmb, nmbL, MB.nmb, List.getD_cons_zero, List.getD_cons_succ, mfL]
  rintro ⟨k, ⟨ra, Na⟩, ⟨rb, Nb⟩⟩ ⟨hk, hTa, hTb⟩
  dsimp only at hk hTa hTb
  have hla : ra.length = k := by rw [TF_len hTa, mrFs_length, List.length_take]; omega
  have hlb := TF_len hTb
  rw [List.length_drop] at hlb
  have hlL : (ra ++ rb).length = xs.length := by rw [List.length_append]; omega
  simp only [mkS, mkT, mkM]
  have hmk := mfL_le xs k
  by_cases hkl : k < xs.length
  · obtain ⟨⟨n, t, b, i⟩, hx⟩ := get_some (xs := xs) (k := k) hkl
    have hms := mfL_snoc hx
    have hmk2 := mfL_le xs (k + 1)
    have hrs := mrFs_snoc hx m
    dsimp only at hms
    rw [drop_cons5 hx, TF_cons] at hTb
    obtain ⟨v, rb', N2, rfl, hv, hTb, rfl⟩ := hTb
    dsimp only
    have hga : ∀ a : List PV, (ra ++ a :: rb')[k]? = some a := fun a => by rw [List.getElem?_append_right (by omega), hla, Nat.sub_self]; rfl
    have hse : ∀ a a' : List PV, (ra ++ a :: rb').set k a' = ra ++ a' :: rb' := fun a a' => by rw [List.set_append_right _ _ (by omega), hla, Nat.sub_self]; rfl
    have hll : ∀ a : List PV, (ra ++ a :: rb').length = xs.length := fun a => by rw [List.length_append, List.length_cons]; rw [List.length_append, List.length_cons] at hlL; omega
    generalize hcm : m + (mfL (xs.take k) : Int) = cm at *
    have n1 : cm + 1 + 1 = cm + 2 := by omega
    have n2 : cm + 2 + 1 = cm + 3 := by omega
    repeat' (first | ((first | apply qwd | apply qa1 | apply qa2 | apply qa3 | apply qh1 | apply qh2 | apply qg1 rfl | apply qcd); (try intro K hk); focus (simp only [lvT6_39, mkT, go_sem, Nat.reduceEqDiff, Nat.reduceAdd, Nat.reduceLeDiff, Nat.reduceLT, Nat.reduceSub, Int.reduceToNat, ↓reduceIte, reduceCtorEq, hga, hse, hll, n1, n2]; first | exact rfl | ((repeat (refine And.intro ?_ ?_; focus (first | omega | assumption | with_reducible rfl))); intros; apply hk; clear hk K))) | apply qw8 | apply qw1 | refine qwc lvT6_39 ?_ | apply qt1 | apply qw5 | apply qw2 | apply qw9 | apply qt2 | apply qt3 | apply qt4 | apply qt5 | apply qt6 | apply qw3 | apply qw4 | apply qj1 | apply qj2 | apply qj3 | apply qj4 | apply qj5 | apply qu1 | apply qu2 | (refine qj6 ?_ ?_ <;> intro hc <;> (try simp only [hc]) <;> (try simp only [decide_eq_true_eq, decide_eq_false_iff_not, Bool.not_eq_true', Bool.not_eq_false', Bool.not_eq_true, reduceCtorEq] at hc) <;> (try (exfalso; omega))) | (refine qt7 ?_ ?_; focus decide) | (refine qw7 ?_ ?_ ?_; (focus (decide +kernel)); (focus (decide +kernel))))
    (refine qa1 fun K hk => ?_); simp only [go_sem, ↓upd_def, ↓evT, Nat.reduceEqDiff, Nat.reduceAdd, Nat.reduceLeDiff, Nat.reduceLT, Nat.reduceSub, Int.reduceToNat, ↓reduceIte, reduceCtorEq, ↓aop, ↓aopc, ↓aopd, hga, hse, hll, n1, n2]; repeat (refine And.intro ?_ ?_; focus (first | omega | assumption | with_reducible rfl | (simp only [go_sem, ↓upd_def, ↓evT, Nat.reduceEqDiff, Nat.reduceAdd, Nat.reduceLeDiff, Nat.reduceLT, Nat.reduceSub, Int.reduceToNat, ↓reduceIte, reduceCtorEq, ↓aop, ↓aopc, ↓aopd, hga, hse, hll, n1, n2]; done)))
    unfold mkSK sptK
    refine ⟨(i, cm + 3), v, L ++ Na, N2 ++ R, rfl, by simp [upd], ⟨by dsimp only; omega, by dsimp only; omega, by dsimp only; omega⟩, ?_⟩
    rintro es N ⟨rfl, rfl⟩
    apply hk; clear hk K
    dsimp only
    repeat' (first | ((first | apply qwd | apply qa1 | apply qa2 | apply qa3 | apply qh1 | apply qh2 | apply qg1 rfl | apply qcd); (try intro K hk); focus (simp only [lvT6_39, mkT, go_sem, Nat.reduceEqDiff, Nat.reduceAdd, Nat.reduceLeDiff, Nat.reduceLT, Nat.reduceSub, Int.reduceToNat, ↓reduceIte, reduceCtorEq, hga, hse, hll, n1, n2]; first | exact rfl | ((repeat (refine And.intro ?_ ?_; focus (first | omega | assumption | with_reducible rfl))); intros; apply hk; clear hk K))) | apply qw8 | apply qw1 | refine qwc lvT6_39 ?_ | apply qt1 | apply qw5 | apply qw2 | apply qw9 | apply qt2 | apply qt3 | apply qt4 | apply qt5 | apply qt6 | apply qw3 | apply qw4 | apply qj1 | apply qj2 | apply qj3 | apply qj4 | apply qj5 | apply qu1 | apply qu2 | (refine qj6 ?_ ?_ <;> intro hc <;> (try simp only [hc]) <;> (try simp only [decide_eq_true_eq, decide_eq_false_iff_not, Bool.not_eq_true', Bool.not_eq_false', Bool.not_eq_true, reduceCtorEq] at hc) <;> (try (exfalso; omega))) | (refine qt7 ?_ ?_; focus decide) | (refine qw7 ?_ ?_ ?_; (focus (decide +kernel)); (focus (decide +kernel))))
    refine s_again ((k + 1, (ra ++ [[.str (markB cm), .str (markB (cm + 1)), .bool (decide ((cm + 2) % 3 = 0)), .raw v]], Na ++ [⟨v, 9, 1, strs (marks (cm + 3) i.length)⟩]), (rb', N2))) ?_ ?_ ?_ <;> (first | omega | (dsimp only; omega) | skip)
    · refine ⟨by dsimp only; omega, ?_, hTb⟩
      dsimp only
      rw [hrs]
      exact TF_app hTa (TF_one (f := mrF ⟨n, t, b, i⟩ cm) hv)
    · simp [fits, fitsT, fitsM, upd_def, PV.nmb, nmbL, MB.nmb, List.getD_cons_zero, List.getD_cons_succ, hms]
      omega
  · obtain rfl : k = xs.length := by omega
    rw [List.drop_length, TF_nil] at hTb
    obtain ⟨rfl, rfl⟩ := hTb
    repeat' (first | ((first | apply qwd | apply qa1 | apply qa2 | apply qa3 | apply qh1 | apply qh2 | apply qg1 rfl | apply qcd); (try intro K hk); focus (simp only [lvT6_39, mkT, go_sem, Nat.reduceEqDiff, Nat.reduceAdd, Nat.reduceLeDiff, Nat.reduceLT, Nat.reduceSub, Int.reduceToNat, ↓reduceIte, reduceCtorEq, hlL]; first | exact rfl | ((repeat (refine And.intro ?_ ?_; focus (first | omega | assumption | with_reducible rfl))); intros; apply hk; clear hk K))) | apply qw8 | apply qw1 | refine qwc lvT6_39 ?_ | apply qt1 | apply qw5 | apply qw2 | apply qw9 | apply qt2 | apply qt3 | apply qt4 | apply qt5 | apply qt6 | apply qw3 | apply qw4 | apply qj1 | apply qj2 | apply qj3 | apply qj4 | apply qj5 | apply qu1 | apply qu2 | (refine qj6 ?_ ?_ <;> intro hc <;> (try simp only [hc]) <;> (try simp only [decide_eq_true_eq, decide_eq_false_iff_not, Bool.not_eq_true', Bool.not_eq_false', Bool.not_eq_true, reduceCtorEq] at hc) <;> (try (exfalso; omega))) | (refine qt7 ?_ ?_; focus decide) | (refine qw7 ?_ ?_ ?_; (focus (decide +kernel)); (focus (decide +kernel))))
    ((first | refine fin_H ?_ | refine fin_He ?_ | refine fin_J ?_ | refine fin_Je ?_ | refine fin_Y ?_ | refine fin_K ?_ | refine fin_T ?_ | refine fin_M ?_); simp only [go_sem, not_false_eq_true, ne_eq, ↓upd_def, Nat.reduceEqDiff, Nat.reduceAdd, ↓reduceIte, reduceCtorEq])
    rw [List.take_length] at *
    exact ⟨ra, rfl, TF_plain hTa, Na, rfl, hK _ _ hTa⟩
@[go_sem] def mkFT : AC := mrkK QF (α := List FieldD × Int) (fun x => [.int .i64 x.2]) (fun x => encFs x.1) (fun x => mfL x.1 ≤ 8388608 ∧ x.1.length ≤ 1048576 ∧ 0 ≤ x.2 ∧ x.2 + mfL x.1 ≤ 16777216) (fun x => .int .i64 (x.2 + mfL x.1)) (fun x => encFs (mrFs x.1 x.2))
theorem mkFT_ok : ACok Try.prog 39 mkFT := mrkK_ok mkFK_ok (fun x => rfl) (fun x => rfl) (by
  rintro ⟨xs, k⟩ v N ⟨h0, h1, h2, h3⟩ ⟨ys, rs, N', he, hT, rfl⟩
  obtain rfl := encFs_inj he
  exact ⟨(xs, rs, N', k), rfl, rfl, ⟨h0, h1, hT, h2, h3⟩, rfl, fun es M hM => ⟨⟨_, es, M, rfl, hM, rfl⟩, fun w S hh => rep_rootF hM hh⟩⟩)
end Go.Proofs.Ytdedddmnacomfaa
