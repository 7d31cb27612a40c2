import Derived.Test.YtcagfbgplpokkaaX1
import Derived.Test.YtcagfbgplpokkaaFL
import Derived.Test.YtcagfbgplpokkaaFP
/- Contracts: the reader of drawn inputs. -/
namespace Go.Proofs.Ytcagfbgplpokkaa
attribute [local irreducible] awp arun acalm FinP Fin AX.then AX.inBlock Again aG gsel amix amixN amixC aop aopc aopd cutK
attribute [local go_sem] aop aopc aopd aBSliceD aSlice aSliceC boundOf aMk evT upd_def aCall aCallC aLenL aLen aPick_t aPick_f aNil aAlloc aBox aBuild bldPV aBSlice bsPV aApp newsOf destOf drp aConvX aConv aConvInt aLoad cellsAt aStore cellsPV setAt aFld aField aIdx aIndex aUn aBin' aBin aMax aExtract pvOf PV.isCell nmbL PV.nmb List.map_cons List.map_nil List.all_cons List.all_nil Bool.and_true Bool.true_and if_true if_false List.getD_cons_zero List.getD_cons_succ List.getD_nil Option.isSome_some true_and and_true and_self eq_self true_or or_true List.drop_zero List.drop_succ_cons List.drop_nil List.take_zero List.take_succ_cons List.take_nil List.length_cons List.length_nil List.length_map Option.getD_some Option.getD_none List.nil_append List.cons_append List.append_nil Option.some.injEq exists_eq_left' List.getElem?_cons_zero List.getElem?_cons_succ Int.toNat_natCast Int.natCast_inj toNat_succ Nat.zero_add res res1 resC owns owns1 ownsC List.flatMap_cons List.flatMap_nil List.flatten_cons List.flatten_nil List.mem_cons List.not_mem_nil or_false false_or forall_eq forall_eq_or_imp isFro frz frz1 pureC tabA isBld List.cons.injEq PV.seq.injEq PV.int.injEq PV.str.injEq PV.bool.injEq PV.agg.injEq inR tab Γof aRes packR Option.map_some Option.map_none rel Prod.exists exists_and_left exists_eq_left and_assoc beq_self_eq_true Bool.not_true Bool.not_false decide_true decide_false List.set_cons_zero List.set_cons_succ rst_nil rst_cons
set_option maxRecDepth 100000
set_option linter.unusedVariables false
set_option linter.unusedSimpArgs false
open Go.RowKit

def lv77 : Nat → List Nat
  | 0 => [0, 1]
  | 1 => [0, 1]
  | 2 => [0, 1, 24]
  | 3 => [4]
  | 4 => [0, 1, 5]
  | 5 => [0, 1, 5, 36]
  | 6 => [4]
  | 7 => [1, 6]
  | 8 => [1, 6]
  | 9 => [4]
  | _ => []

/-- A reader over l, at p. -/
def rdB (l : Bs) (p : Int) : MB := .box [.seq (l.map bc), .int .i64 p]
@[go_sem] theorem rdB_def (l : Bs) (p : Int) : rdB l p = .box [.seq (l.map bc), .int .i64 p] := rfl
theorem bc_get (l : Bs) (k : Nat) : (l.map bc)[k]? = (l[k]?).map bc := by simp
theorem get_getD {l : Bs} {k : Nat} (h : k < l.length) : l[k]? = some (l.getD k 0) := by rw [getD_lt h]; exact List.getElem?_eq_getElem h
@[go_sem] def pickC0 : AC := locV (α := (Bs × Int) × Int) (fun x => [.int .i64 x.2]) (fun x => rdB x.1.1 x.1.2) (fun x => x.1.1.length ≤ 2000 ∧ 0 ≤ x.1.2 ∧ x.1.2 ≤ 1000000 ∧ x.2 ≤ 1000) (fun x r b' => b' = rdB x.1.1 (x.1.2 + 1) ∧ ∃ k : Int, r = .int .i64 k ∧ 0 ≤ k ∧ (k = 0 ∨ k < x.2))
set_option maxHeartbeats 8000000 in
theorem pick_ok0 : ACok Try.prog 77 pickC0 := by
  refine locV_ok 2 (tabA_nil (Γof_ok tab_nil)) tab_nil mixed [.tmp 4] Try.func77 rfl rfl (by kernel_rfl) (by kernel_rfl) (fun _ => rfl) (by kernel_rfl) (fun x => by simp [nmbL, PV.nmb]) (fun x => by simp [go_sem, MB.nmb, nmbL, PV.nmb]) ?_
  rintro ⟨⟨l, p⟩, m⟩ K ⟨hl, h0, h1, hm⟩ hK
  dsimp only at *
  obtain ⟨q, rfl⟩ := Int.eq_ofNat_of_zero_le h0
  have hfin : ∀ a : Nat, ¬ m < 1 → K (.int .i64 ((a : Int) % m)) (rdB l ((q : Int) + 1)) := fun a hm1 => hK _ _ ⟨rfl, _, rfl, Int.emod_nonneg _ (by omega), .inr (Int.emod_lt_of_pos _ (by omega))⟩
  have hfin0 : K (.int .i64 0) (rdB l ((q : Int) + 1)) := hK _ _ ⟨rfl, _, rfl, by omega, .inl rfl⟩
  clear hK
  by_cases hl0 : l = []
  · subst hl0
    unfold entry
    simp only [mkM, rdB, List.map_nil] at *
    repeat' (first | (refine qwd fun K hk => ?_; simp only [lv77, mkT, go_sem, ↓upd_def, ↓evT, ↓aop, ↓aopc, ↓aopd, Nat.reduceEqDiff, Nat.reduceAdd, Nat.reduceLeDiff, Nat.reduceLT, Nat.reduceSub, Int.reduceToNat, ↓reduceIte, reduceCtorEq]; apply hk; clear hk K) | refine qw8 ?_ | refine qw1 ?_ | refine qwc lv77 ?_ | refine qt1 ?_ | refine qw5 ?_ | refine qw2 ?_ | refine qw9 ?_ | refine qt2 ?_ | refine qt3 ?_ | refine qt4 ?_ | refine qt5 ?_ | refine qt6 ?_ | refine qw3 ?_ | refine qw4 ?_ | refine qj1 ?_ | refine qj2 ?_ | refine qj3 ?_ | refine qj4 ?_ | refine qj5 ?_ | refine qu1 ?_ | refine qu2 ?_ | refine qne ?_ | refine qyn ?_ | refine qyz ?_ | refine qy0 ?_ | refine qnt rfl rfl ?_ | refine qnf rfl rfl ?_ | refine qyc rfl ?_ | refine qy1 rfl ?_ | refine qy2 rfl ?_ ?_ | ((first | refine qa1 fun K hk => ?_ | refine qa2 fun K hk => ?_ | refine qa3 fun K hk => ?_ | refine qh1 fun K hk => ?_ | refine qh2 fun K hk => ?_ | refine qm1 fun K hk => ?_ | refine qm2 fun K hk => ?_ | refine qm3 fun K hk => ?_); simp only [go_sem, ↓upd_def, ↓evT, ↓aop, ↓aopc, ↓aopd, Nat.reduceEqDiff, Nat.reduceAdd, Nat.reduceLeDiff, Nat.reduceLT, Nat.reduceSub, Int.reduceToNat, ↓reduceIte, reduceCtorEq]; (repeat (refine And.intro ?_ ?_; focus (first | omega | assumption | with_reducible rfl | (simp only [go_sem, ↓upd_def, ↓evT, ↓aop, ↓aopc, ↓aopd, Nat.reduceEqDiff, Nat.reduceAdd, Nat.reduceLeDiff, Nat.reduceLT, Nat.reduceSub, Int.reduceToNat, ↓reduceIte, reduceCtorEq]; done)))); intros; apply hk; clear hk K) | ((first | apply qg1 rfl | apply qcd); focus (simp only [go_sem, ↓upd_def, ↓evT, ↓aop, ↓aopc, ↓aopd, Nat.reduceEqDiff, Nat.reduceAdd, Nat.reduceLeDiff, Nat.reduceLT, Nat.reduceSub, Int.reduceToNat, ↓reduceIte, reduceCtorEq]; exact rfl)) | (refine qj6 ?_ ?_ <;> intro hc <;> (try simp only [hc]) <;> (try simp only [decide_eq_true_eq, decide_eq_false_iff_not, Bool.not_eq_true', Bool.not_eq_false', Bool.not_eq_true, reduceCtorEq] at hc) <;> (try (exfalso; omega))) | (refine qk1 ?_ ?_; focus (repeat (first | exact qsub0 | (refine qsub1 ?_ ?_; focus (simp only [go_sem, ↓upd_def, ↓evT, ↓aop, ↓aopc, ↓aopd, Nat.reduceEqDiff, Nat.reduceAdd, Nat.reduceLeDiff, Nat.reduceLT, Nat.reduceSub, Int.reduceToNat, ↓reduceIte, reduceCtorEq]))))) | (refine qt7 ?_ ?_; focus decide) | (refine qw7 ?_ ?_ ?_; (focus (decide +kernel)); (focus (decide +kernel))))
    all_goals
      ((first | refine fin_V ?_ | refine fin_Ve ?_ | refine fin_O ?_ | refine fin_Oe ?_ | refine fin_X ?_ | refine fin_Xe ?_); simp only [go_sem, PV.own.injEq, MB.row.injEq, MB.nmb, not_false_eq_true, ne_eq, ↓upd_def, Nat.reduceEqDiff, Nat.reduceAdd, ↓reduceIte, reduceCtorEq])
      exact hfin0
  have hlp : 0 < l.length := List.length_pos_iff.2 hl0
  by_cases hq : q < l.length
  · have hg := get_getD hq
    have hb := byte_lt l q
    unfold entry
    simp only [mkM, rdB] at *
    repeat' (first | (refine qwd fun K hk => ?_; simp only [lv77, mkT, go_sem, ↓upd_def, ↓evT, ↓aop, ↓aopc, ↓aopd, Nat.reduceEqDiff, Nat.reduceAdd, Nat.reduceLeDiff, Nat.reduceLT, Nat.reduceSub, Int.reduceToNat, ↓reduceIte, reduceCtorEq, Int.add_sub_cancel, bc_get, hg, bc]; apply hk; clear hk K) | refine qw8 ?_ | refine qw1 ?_ | refine qwc lv77 ?_ | refine qt1 ?_ | refine qw5 ?_ | refine qw2 ?_ | refine qw9 ?_ | refine qt2 ?_ | refine qt3 ?_ | refine qt4 ?_ | refine qt5 ?_ | refine qt6 ?_ | refine qw3 ?_ | refine qw4 ?_ | refine qj1 ?_ | refine qj2 ?_ | refine qj3 ?_ | refine qj4 ?_ | refine qj5 ?_ | refine qu1 ?_ | refine qu2 ?_ | refine qne ?_ | refine qyn ?_ | refine qyz ?_ | refine qy0 ?_ | refine qnt rfl rfl ?_ | refine qnf rfl rfl ?_ | refine qyc rfl ?_ | refine qy1 rfl ?_ | refine qy2 rfl ?_ ?_ | ((first | refine qa1 fun K hk => ?_ | refine qa2 fun K hk => ?_ | refine qa3 fun K hk => ?_ | refine qh1 fun K hk => ?_ | refine qh2 fun K hk => ?_ | refine qm1 fun K hk => ?_ | refine qm2 fun K hk => ?_ | refine qm3 fun K hk => ?_); simp only [go_sem, ↓upd_def, ↓evT, ↓aop, ↓aopc, ↓aopd, Nat.reduceEqDiff, Nat.reduceAdd, Nat.reduceLeDiff, Nat.reduceLT, Nat.reduceSub, Int.reduceToNat, ↓reduceIte, reduceCtorEq, Int.add_sub_cancel, bc_get, hg, bc]; (repeat (refine And.intro ?_ ?_; focus (first | omega | assumption | with_reducible rfl | (simp only [go_sem, ↓upd_def, ↓evT, ↓aop, ↓aopc, ↓aopd, Nat.reduceEqDiff, Nat.reduceAdd, Nat.reduceLeDiff, Nat.reduceLT, Nat.reduceSub, Int.reduceToNat, ↓reduceIte, reduceCtorEq, Int.add_sub_cancel, bc_get, hg, bc]; done)))); intros; apply hk; clear hk K) | ((first | apply qg1 rfl | apply qcd); focus (simp only [go_sem, ↓upd_def, ↓evT, ↓aop, ↓aopc, ↓aopd, Nat.reduceEqDiff, Nat.reduceAdd, Nat.reduceLeDiff, Nat.reduceLT, Nat.reduceSub, Int.reduceToNat, ↓reduceIte, reduceCtorEq, Int.add_sub_cancel, bc_get, hg, bc]; exact rfl)) | (refine qj6 ?_ ?_ <;> intro hc <;> (try simp only [hc]) <;> (try simp only [decide_eq_true_eq, decide_eq_false_iff_not, Bool.not_eq_true', Bool.not_eq_false', Bool.not_eq_true, reduceCtorEq] at hc) <;> (try (exfalso; omega))) | (refine qk1 ?_ ?_; focus (repeat (first | exact qsub0 | (refine qsub1 ?_ ?_; focus (simp only [go_sem, ↓upd_def, ↓evT, ↓aop, ↓aopc, ↓aopd, Nat.reduceEqDiff, Nat.reduceAdd, Nat.reduceLeDiff, Nat.reduceLT, Nat.reduceSub, Int.reduceToNat, ↓reduceIte, reduceCtorEq, Int.add_sub_cancel, bc_get, hg, bc]))))) | (refine qt7 ?_ ?_; focus decide) | (refine qw7 ?_ ?_ ?_; (focus (decide +kernel)); (focus (decide +kernel))))
    all_goals
      ((first | refine fin_V ?_ | refine fin_Ve ?_ | refine fin_O ?_ | refine fin_Oe ?_ | refine fin_X ?_ | refine fin_Xe ?_); simp only [go_sem, PV.own.injEq, MB.row.injEq, MB.nmb, not_false_eq_true, ne_eq, ↓upd_def, Nat.reduceEqDiff, Nat.reduceAdd, ↓reduceIte, reduceCtorEq])
      first | exact hfin0 | (refine hfin _ ?_; assumption)
  · have hm1 : q % l.length < l.length := Nat.mod_lt _ hlp
    have hm2 : (q * 7 + 3) % l.length < l.length := Nat.mod_lt _ hlp
    have e1 : ((q : Int) % (l.length : Int)).toNat = q % l.length := by rw [← Int.natCast_emod]; rfl
    have e2 : (((q : Int) * 7 + 3) % (l.length : Int)).toNat = (q * 7 + 3) % l.length := by
      have : ((q : Int) * 7 + 3) = ((q * 7 + 3 : Nat) : Int) := by omega
      rw [this, ← Int.natCast_emod]; rfl
    have g1 := get_getD hm1
    have g2 := get_getD hm2
    have b1 := byte_lt l (q % l.length)
    have b2 := byte_lt l ((q * 7 + 3) % l.length)
    have d1 : 0 ≤ (q : Int) / (l.length : Int) := Int.ediv_nonneg (by omega) (by omega)
    have d2 : (q : Int) / (l.length : Int) ≤ q := Int.ediv_le_self _ (by omega)
    have m1 : 0 ≤ (q : Int) % (l.length : Int) := Int.emod_nonneg _ (by omega)
    have m2 : 0 ≤ ((q : Int) * 7 + 3) % (l.length : Int) := Int.emod_nonneg _ (by omega)
    unfold entry
    simp only [mkM, rdB] at *
    repeat' (first | (refine qwd fun K hk => ?_; simp only [lv77, mkT, go_sem, ↓upd_def, ↓evT, ↓aop, ↓aopc, ↓aopd, Nat.reduceEqDiff, Nat.reduceAdd, Nat.reduceLeDiff, Nat.reduceLT, Nat.reduceSub, Int.reduceToNat, ↓reduceIte, reduceCtorEq, Int.add_sub_cancel, bc_get, g1, g2, e1, e2, bc]; apply hk; clear hk K) | refine qw8 ?_ | refine qw1 ?_ | refine qwc lv77 ?_ | refine qt1 ?_ | refine qw5 ?_ | refine qw2 ?_ | refine qw9 ?_ | refine qt2 ?_ | refine qt3 ?_ | refine qt4 ?_ | refine qt5 ?_ | refine qt6 ?_ | refine qw3 ?_ | refine qw4 ?_ | refine qj1 ?_ | refine qj2 ?_ | refine qj3 ?_ | refine qj4 ?_ | refine qj5 ?_ | refine qu1 ?_ | refine qu2 ?_ | refine qne ?_ | refine qyn ?_ | refine qyz ?_ | refine qy0 ?_ | refine qnt rfl rfl ?_ | refine qnf rfl rfl ?_ | refine qyc rfl ?_ | refine qy1 rfl ?_ | refine qy2 rfl ?_ ?_ | ((first | refine qa1 fun K hk => ?_ | refine qa2 fun K hk => ?_ | refine qa3 fun K hk => ?_ | refine qh1 fun K hk => ?_ | refine qh2 fun K hk => ?_ | refine qm1 fun K hk => ?_ | refine qm2 fun K hk => ?_ | refine qm3 fun K hk => ?_); simp only [go_sem, ↓upd_def, ↓evT, ↓aop, ↓aopc, ↓aopd, Nat.reduceEqDiff, Nat.reduceAdd, Nat.reduceLeDiff, Nat.reduceLT, Nat.reduceSub, Int.reduceToNat, ↓reduceIte, reduceCtorEq, Int.add_sub_cancel, bc_get, g1, g2, e1, e2, bc]; (repeat (refine And.intro ?_ ?_; focus (first | omega | assumption | with_reducible rfl | (simp only [go_sem, ↓upd_def, ↓evT, ↓aop, ↓aopc, ↓aopd, Nat.reduceEqDiff, Nat.reduceAdd, Nat.reduceLeDiff, Nat.reduceLT, Nat.reduceSub, Int.reduceToNat, ↓reduceIte, reduceCtorEq, Int.add_sub_cancel, bc_get, g1, g2, e1, e2, bc]; done)))); intros; apply hk; clear hk K) | ((first | apply qg1 rfl | apply qcd); focus (simp only [go_sem, ↓upd_def, ↓evT, ↓aop, ↓aopc, ↓aopd, Nat.reduceEqDiff, Nat.reduceAdd, Nat.reduceLeDiff, Nat.reduceLT, Nat.reduceSub, Int.reduceToNat, ↓reduceIte, reduceCtorEq, Int.add_sub_cancel, bc_get, g1, g2, e1, e2, bc]; exact rfl)) | (refine qj6 ?_ ?_ <;> intro hc <;> (try simp only [hc]) <;> (try simp only [decide_eq_true_eq, decide_eq_false_iff_not, Bool.not_eq_true', Bool.not_eq_false', Bool.not_eq_true, reduceCtorEq] at hc) <;> (try (exfalso; omega))) | (refine qk1 ?_ ?_; focus (repeat (first | exact qsub0 | (refine qsub1 ?_ ?_; focus (simp only [go_sem, ↓upd_def, ↓evT, ↓aop, ↓aopc, ↓aopd, Nat.reduceEqDiff, Nat.reduceAdd, Nat.reduceLeDiff, Nat.reduceLT, Nat.reduceSub, Int.reduceToNat, ↓reduceIte, reduceCtorEq, Int.add_sub_cancel, bc_get, g1, g2, e1, e2, bc]))))) | (refine qt7 ?_ ?_; focus decide) | (refine qw7 ?_ ?_ ?_; (focus (decide +kernel)); (focus (decide +kernel))))
    all_goals
      ((first | refine fin_V ?_ | refine fin_Ve ?_ | refine fin_O ?_ | refine fin_Oe ?_ | refine fin_X ?_ | refine fin_Xe ?_); simp only [go_sem, PV.own.injEq, MB.row.injEq, MB.nmb, not_false_eq_true, ne_eq, ↓upd_def, Nat.reduceEqDiff, Nat.reduceAdd, ↓reduceIte, reduceCtorEq])
      first | exact hfin0 | (refine hfin _ ?_; assumption)
@[go_sem] def pickC : AC := fun args mem n K => match args with
  | [.ref i o, .int .i64 m] => (match mem i with
    | some (.box [.seq es, .int .i64 p]) => o = 0 ∧ (∃ l : Bs, es = l.map bc ∧ l.length ≤ 2000) ∧ 0 ≤ p ∧ p ≤ 1000000 ∧ m ≤ 1000 ∧ ∀ k : Int, 0 ≤ k → (k = 0 ∨ k < m) → K (.int .i64 k) (upd mem i (some (.box [.seq es, .int .i64 (p + 1)]))) n
    | _ => False)
  | _ => False
@[go_sem] def frz2 (C : AC) : AC := fun args mem n K => match args with
  | [a, b] => C [a, res mem b] (frz mem (owns b)) n K
  | _ => False
theorem frz2_ok {P : Program} {f : FuncId} {C : AC} (h : ACok P f C) : ACok P f (frz2 C) := by
  refine ⟨h.fn, fun c mem n args vs K hI hn hr hC => ?_⟩
  unfold frz2 at hC
  split at hC
  · rename_i a b
    obtain ⟨c1, w1, r1, st⟩ := Step.frz (owns b) hI hn
    rw [RepL.cons_iff] at hr
    obtain ⟨v, vs', rfl, ha, hr⟩ := hr
    rw [RepL.cons_iff] at hr
    obtain ⟨v2, vs2, rfl, hb, hr⟩ := hr
    have hb1 := rep_res st.inv (frz_fits mem (owns b)) (Rep.mono _ st.le hb)
    have := h.run c1 _ n [a, res mem b] (v :: v2 :: vs2) K st.inv st.free (RepL.cons_iff.2 ⟨_, _, rfl, Rep.mono _ st.le ha, RepL.cons_iff.2 ⟨_, _, rfl, hb1, RepL.mono _ st.le hr⟩⟩) hC
    rw [w1] at this
    refine this.mono ?_
    rintro e w' ⟨v', r, c', mem', n', rfl, hw, hK, st', hrep⟩
    exact ⟨v', r, c', mem', n', rfl, hw, hK, st.trans st', hrep⟩
  · exact hC.elim
theorem ACok.mono {P : Program} {f : FuncId} {C C' : AC} (h : ACok P f C) (hc : ∀ args mem n K, C' args mem n K → C args mem n K) : ACok P f C' :=
  ⟨h.fn, fun c mem n args vs K hI hn hr hC => h.run c mem n args vs K hI hn hr (hc args mem n K hC)⟩
theorem pick_ok : ACok Try.prog 77 pickC := pick_ok0.mono fun args mem n K h => by
  unfold pickC at h
  split at h
  · rename_i i o m
    split at h
    · rename_i es p hm
      obtain ⟨rfl, ⟨l, rfl, hl⟩, h0, h1, h2, hK⟩ := h
      refine ⟨((l, p), m), i, rfl, ⟨hl, h0, h1, h2⟩, hm, ?_⟩
      rintro r b' ⟨rfl, k, rfl, k0, k1⟩
      exact hK k k0 k1
    · exact h.elim
  · exact h.elim
theorem exl {α : Type} {p : α → Prop} {a : α} : (∃ x, a = x ∧ p x) ↔ p a := ⟨fun ⟨_, rfl, h⟩ => h, fun h => ⟨a, rfl, h⟩⟩
/-- A text of at most so many bytes. -/
def isTxt (B : Nat) : List PV → Bool
  | [.str l] => Nat.ble l.length B
  | _ => false
theorem isTxt_get {B : Nat} {es : List (List PV)} {k : Nat} (h : es.all (isTxt B) = true) (hk : k < es.length) : ∃ l : Bs, es[k]? = some [.str l] ∧ l.length ≤ B := by
  rw [List.all_eq_true] at h
  have := h es[k] (List.getElem_mem hk)
  unfold isTxt at this
  split at this
  · rename_i l hl
    exact ⟨l, by rw [List.getElem?_eq_getElem hk, hl], Nat.le_of_ble_eq_true this⟩
  · cases this
/-- One of some texts is loaded. -/
theorem qload {P : Program} {Γ : Ctr} {ev : Operand → PV} {t : TypeId} {x : Operand} {mem : Mem} {nx i k s : Nat} {e : TypeId} {es : List (List PV)} {K : PV → Mem → Nat → Prop} (B : Nat) (hx : ev x = .rref i k s 0) (hm : mem i = some (.row e s es)) (ha : aggOf P t = some none) (hk : k < es.length) (hB : es.all (isTxt B) = true)
    (h : ∀ l : Bs, l.length ≤ B → K (.str l) mem nx) : aop P Γ ev (.load t x) mem nx K := by
  obtain ⟨l, h1, h2⟩ := isTxt_get hB hk
  simp only [aop]
  rw [hx]
  unfold aLoad
  rw [ha]
  simp only [cellsAt, hm, if_true, h1, Option.map_some, List.drop_zero]
  exact h l h2
@[go_sem] def oddC0 : AC := locV (α := (Bs × Int) × Int) (fun x => [.int .i64 x.2]) (fun x => rdB x.1.1 x.1.2) (fun x => x.1.1.length ≤ 2000 ∧ 0 ≤ x.1.2 ∧ x.1.2 ≤ 1000000 ∧ 0 ≤ x.2 ∧ x.2 ≤ 1000) (fun x r b' => ∃ b : Bool, r = .bool b ∧ b' = rdB x.1.1 (if 0 < x.2 then x.1.2 + 1 else x.1.2) ∧ (x.2 = 0 → b = false))
set_option maxHeartbeats 8000000 in
theorem odd_ok0 : ACok Try.prog 100 oddC0 := by
  refine locV_ok 2 (tabA_cons pick_ok (tabA_nil (Γof_ok tab_nil))) tab_nil mixed [.tmp 4] Try.func100 rfl rfl (by kernel_rfl) (by kernel_rfl) (fun _ => rfl) (by kernel_rfl) (fun x => by simp [nmbL, PV.nmb]) (fun x => by simp [go_sem, MB.nmb, nmbL, PV.nmb]) ?_
  rintro ⟨⟨l, p⟩, m⟩ K ⟨hl, h0, h1, h2, hm⟩ hK
  dsimp only at *
  unfold entry
  simp only [mkM, rdB] at *
  repeat' (first | refine qw8 ?_ | refine qw1 ?_ | refine qw6 ?_ | refine qt1 ?_ | refine qw5 ?_ | refine qw2 ?_ | refine qw9 ?_ | refine qt2 ?_ | refine qt3 ?_ | refine qt4 ?_ | refine qt5 ?_ | refine qt6 ?_ | refine qw3 ?_ | refine qw4 ?_ | refine qj1 ?_ | refine qj2 ?_ | refine qj3 ?_ | refine qj4 ?_ | refine qj5 ?_ | refine qu1 ?_ | refine qu2 ?_ | refine qne ?_ | refine qyn ?_ | refine qyz ?_ | refine qy0 ?_ | refine qnt rfl rfl ?_ | refine qnf rfl rfl ?_ | refine qyc rfl ?_ | refine qy1 rfl ?_ | refine qy2 rfl ?_ ?_ | ((first | refine qa1 fun K hk => ?_ | refine qa2 fun K hk => ?_ | refine qa3 fun K hk => ?_ | refine qh1 fun K hk => ?_ | refine qh2 fun K hk => ?_ | refine qm1 fun K hk => ?_ | refine qm2 fun K hk => ?_ | refine qm3 fun K hk => ?_); simp only [go_sem, ↓upd_def, ↓evT, ↓aop, ↓aopc, ↓aopd, Nat.reduceEqDiff, Nat.reduceAdd, Nat.reduceLeDiff, Nat.reduceLT, Nat.reduceSub, Int.reduceToNat, ↓reduceIte, reduceCtorEq, exl]; (repeat (refine And.intro ?_ ?_; focus (first | omega | assumption | with_reducible rfl | (simp only [go_sem, ↓upd_def, ↓evT, ↓aop, ↓aopc, ↓aopd, Nat.reduceEqDiff, Nat.reduceAdd, Nat.reduceLeDiff, Nat.reduceLT, Nat.reduceSub, Int.reduceToNat, ↓reduceIte, reduceCtorEq, exl]; done)))); intros; apply hk; clear hk K) | ((first | apply qg1 rfl | apply qcd); focus (simp only [go_sem, ↓upd_def, ↓evT, ↓aop, ↓aopc, ↓aopd, Nat.reduceEqDiff, Nat.reduceAdd, Nat.reduceLeDiff, Nat.reduceLT, Nat.reduceSub, Int.reduceToNat, ↓reduceIte, reduceCtorEq, exl]; exact rfl)) | (refine qj6 ?_ ?_ <;> intro hc <;> (try simp only [hc]) <;> (try simp only [decide_eq_true_eq, decide_eq_false_iff_not, Bool.not_eq_true', Bool.not_eq_false', Bool.not_eq_true, reduceCtorEq] at hc) <;> (try (exfalso; omega))) | (refine qk1 ?_ ?_; focus (repeat (first | exact qsub0 | (refine qsub1 ?_ ?_; focus (simp only [go_sem, ↓upd_def, ↓evT, ↓aop, ↓aopc, ↓aopd, Nat.reduceEqDiff, Nat.reduceAdd, Nat.reduceLeDiff, Nat.reduceLT, Nat.reduceSub, Int.reduceToNat, ↓reduceIte, reduceCtorEq, exl]))))) | (refine qt7 ?_ ?_; focus decide) | (refine qw7 ?_ ?_ ?_; (focus (decide +kernel)); (focus (decide +kernel))))
  · ((first | refine fin_V ?_ | refine fin_Ve ?_ | refine fin_O ?_ | refine fin_Oe ?_ | refine fin_X ?_ | refine fin_Xe ?_); simp only [go_sem, PV.own.injEq, MB.row.injEq, MB.nmb, not_false_eq_true, ne_eq, ↓upd_def, Nat.reduceEqDiff, Nat.reduceAdd, ↓reduceIte, reduceCtorEq])
    refine hK _ _ ⟨_, rfl, ?_, ?_⟩
    · rw [if_pos hc]
    · intro h; omega
  · ((first | refine fin_V ?_ | refine fin_Ve ?_ | refine fin_O ?_ | refine fin_Oe ?_ | refine fin_X ?_ | refine fin_Xe ?_); simp only [go_sem, PV.own.injEq, MB.row.injEq, MB.nmb, not_false_eq_true, ne_eq, ↓upd_def, Nat.reduceEqDiff, Nat.reduceAdd, ↓reduceIte, reduceCtorEq])
    refine hK _ _ ⟨_, rfl, ?_, fun _ => rfl⟩
    rw [if_neg hc]
@[go_sem] def oddC : AC := fun args mem n K => match args with
  | [.ref i o, .int .i64 m] => (match mem i with
    | some (.box [.seq es, .int .i64 p]) => o = 0 ∧ (∃ l : Bs, es = l.map bc ∧ l.length ≤ 2000) ∧ 0 ≤ p ∧ p ≤ 1000000 ∧ 0 ≤ m ∧ m ≤ 1000 ∧ ∀ (b : Bool) (p' : Int), p ≤ p' → p' ≤ p + 1 → (m = 0 → b = false) → K (.bool b) (upd mem i (some (.box [.seq es, .int .i64 p']))) n
    | _ => False)
  | _ => False
theorem odd_ok : ACok Try.prog 100 oddC := odd_ok0.mono fun args mem n K h => by
  unfold oddC at h
  split at h
  · rename_i i o m
    split at h
    · rename_i es p hm
      obtain ⟨rfl, ⟨l, rfl, hl⟩, h0, h1, h2, h3, hK⟩ := h
      refine ⟨((l, p), m), i, rfl, ⟨hl, h0, h1, h2, h3⟩, hm, ?_⟩
      rintro r b' ⟨b, rfl, rfl, hb⟩
      refine hK b _ ?_ ?_ hb <;> dsimp only <;> split <;> omega
    · exact h.elim
  · exact h.elim
@[go_sem] def openC : AC := fun args mem n K => match args with
  | [.seq es] => (∃ l : Bs, es = l.map bc ∧ l.length ≤ 1048576) ∧ ∀ l' : Bs, l'.length ≤ 2000 → K (.ref n 0) (upd mem n (some (.box [.seq (l'.map bc), .int .i64 0]))) (n + 1)
  | _ => False
theorem open_ok : ACok Try.prog 76 openC := by
  refine ac_body 1 (tabA_nil (Γof_ok tab_nil)) tab_nil mixed [.tmp 2] Try.func76 rfl rfl (by kernel_rfl) (by kernel_rfl) ?_ (by kernel_rfl) ?_
  · intro args mem n K h
    unfold openC at h
    split at h
    · rfl
    · exact h.elim
  intro args mem n K h
  unfold openC at h
  split at h
  · rename_i es
    obtain ⟨⟨l, rfl, hl⟩, hK⟩ := h
    have hba := bc_all l
    unfold entry
    repeat' (first | refine qw8 ?_ | refine qw1 ?_ | refine qw6 ?_ | refine qt1 ?_ | refine qw5 ?_ | refine qw2 ?_ | refine qw9 ?_ | refine qt2 ?_ | refine qt3 ?_ | refine qt4 ?_ | refine qt5 ?_ | refine qt6 ?_ | refine qw3 ?_ | refine qw4 ?_ | refine qj1 ?_ | refine qj2 ?_ | refine qj3 ?_ | refine qj4 ?_ | refine qj5 ?_ | refine qu1 ?_ | refine qu2 ?_ | refine qne ?_ | refine qyn ?_ | refine qyz ?_ | refine qy0 ?_ | refine qnt rfl rfl ?_ | refine qnf rfl rfl ?_ | refine qyc rfl ?_ | refine qy1 rfl ?_ | refine qy2 rfl ?_ ?_ | ((first | refine qa1 fun K hk => ?_ | refine qa2 fun K hk => ?_ | refine qa3 fun K hk => ?_ | refine qh1 fun K hk => ?_ | refine qh2 fun K hk => ?_ | refine qm1 fun K hk => ?_ | refine qm2 fun K hk => ?_ | refine qm3 fun K hk => ?_); simp only [go_sem, ↓upd_def, ↓evT, ↓aop, ↓aopc, ↓aopd, Nat.reduceEqDiff, Nat.reduceAdd, Nat.reduceLeDiff, Nat.reduceLT, Nat.reduceSub, Int.reduceToNat, ↓reduceIte, reduceCtorEq]; (repeat (refine And.intro ?_ ?_; focus (first | omega | assumption | with_reducible rfl | (simp only [go_sem, ↓upd_def, ↓evT, ↓aop, ↓aopc, ↓aopd, Nat.reduceEqDiff, Nat.reduceAdd, Nat.reduceLeDiff, Nat.reduceLT, Nat.reduceSub, Int.reduceToNat, ↓reduceIte, reduceCtorEq]; done)))); intros; apply hk; clear hk K) | ((first | apply qg1 rfl | apply qcd); focus (simp only [go_sem, ↓upd_def, ↓evT, ↓aop, ↓aopc, ↓aopd, Nat.reduceEqDiff, Nat.reduceAdd, Nat.reduceLeDiff, Nat.reduceLT, Nat.reduceSub, Int.reduceToNat, ↓reduceIte, reduceCtorEq]; exact rfl)) | (refine qj6 ?_ ?_ <;> intro hc <;> (try simp only [hc]) <;> (try simp only [decide_eq_true_eq, decide_eq_false_iff_not, Bool.not_eq_true', Bool.not_eq_false', Bool.not_eq_true, reduceCtorEq] at hc) <;> (try (exfalso; omega))) | (refine qk1 ?_ ?_; focus (repeat (first | exact qsub0 | (refine qsub1 ?_ ?_; focus (simp only [go_sem, ↓upd_def, ↓evT, ↓aop, ↓aopc, ↓aopd, Nat.reduceEqDiff, Nat.reduceAdd, Nat.reduceLeDiff, Nat.reduceLT, Nat.reduceSub, Int.reduceToNat, ↓reduceIte, reduceCtorEq]))))) | (refine qt7 ?_ ?_; focus decide) | (refine qw7 ?_ ?_ ?_; (focus (decide +kernel)); (focus (decide +kernel))))
    · refine fin_retA ?_
      simp only [go_sem, ↓upd_def, Nat.reduceEqDiff, ↓reduceIte]
      have := hK (l.take 2000) (by simp; omega)
      rw [List.map_take] at this
      exact this
    · refine fin_retA ?_
      simp only [go_sem, ↓upd_def, Nat.reduceEqDiff, ↓reduceIte]
      exact hK l (by omega)
  · exact h.elim
/-- A reader, read on. -/
@[go_sem] def strDC (B : Nat) (w : Int) (rest : List PV → Prop) : AC := fun args mem n K => match args with
  | .ref i o :: ys => (match mem i with
    | some (.box [.seq es, .int .i64 p]) => o = 0 ∧ rest ys ∧ (∃ l : Bs, es = l.map bc ∧ l.length ≤ 2000) ∧ 0 ≤ p ∧ p + w ≤ 1000000 ∧ ∀ (s : Bs) (p' : Int), s.length ≤ B → p ≤ p' → p' ≤ p + w → K (.str s) (upd mem i (some (.box [.seq es, .int .i64 p']))) n
    | _ => False)
  | _ => False
@[go_sem] def strD0 (B : Nat) (w : Int) : AC := locV (α := Bs × Int) (fun _ => []) (fun x => rdB x.1 x.2) (fun x => x.1.length ≤ 2000 ∧ 0 ≤ x.2 ∧ x.2 + w ≤ 1000000) (fun x r b' => ∃ (s : Bs) (p' : Int), r = .str s ∧ b' = rdB x.1 p' ∧ s.length ≤ B ∧ x.2 ≤ p' ∧ p' ≤ x.2 + w)
theorem strD_of {f : FuncId} {B : Nat} {w : Int} (h : ACok Try.prog f (strD0 B w)) : ACok Try.prog f (strDC B w (fun ys => ys = [])) := h.mono fun args mem n K h => by
  unfold strDC at h
  split at h
  · rename_i i o ys
    split at h
    · rename_i es p hm
      obtain ⟨rfl, rfl, ⟨l, rfl, hl⟩, h0, h1, hK⟩ := h
      refine ⟨(l, p), i, rfl, ⟨hl, h0, h1⟩, hm, ?_⟩
      rintro r b' ⟨s, p', rfl, rfl, h1, h2, h3⟩
      exact hK s p' h1 h2 h3
    · exact h.elim
  · exact h.elim
theorem addr_ok0 : ACok Try.prog 78 (strD0 24 1) := by
  refine locV_ok 1 (tabA_cons pick_ok (tabA_nil (Γof_ok tab_nil))) tab_nil mixed [.tmp 2] Try.func78 rfl rfl (by kernel_rfl) (by kernel_rfl) (fun _ => rfl) (by kernel_rfl) (fun x => by simp [nmbL, PV.nmb]) (fun x => by simp [go_sem, MB.nmb, nmbL, PV.nmb]) ?_
  rintro ⟨l, p⟩ K ⟨hl, h0, h1⟩ hK
  dsimp only at *
  unfold entry
  simp only [mkM, rdB] at *
  repeat' (first | refine qw8 ?_ | refine qw1 ?_ | refine qw6 ?_ | refine qt1 ?_ | refine qw5 ?_ | refine qw2 ?_ | refine qw9 ?_ | refine qt2 ?_ | refine qt3 ?_ | refine qt4 ?_ | refine qt5 ?_ | refine qt6 ?_ | refine qw3 ?_ | refine qw4 ?_ | refine qj1 ?_ | refine qj2 ?_ | refine qj3 ?_ | refine qj4 ?_ | refine qj5 ?_ | refine qu1 ?_ | refine qu2 ?_ | refine qne ?_ | refine qyn ?_ | refine qyz ?_ | refine qy0 ?_ | refine qnt rfl rfl ?_ | refine qnf rfl rfl ?_ | refine qyc rfl ?_ | refine qy1 rfl ?_ | refine qy2 rfl ?_ ?_ | ((first | refine qa1 fun K hk => ?_ | refine qa2 fun K hk => ?_ | refine qa3 fun K hk => ?_ | refine qh1 fun K hk => ?_ | refine qh2 fun K hk => ?_ | refine qm1 fun K hk => ?_ | refine qm2 fun K hk => ?_ | refine qm3 fun K hk => ?_); simp only [go_sem, ↓upd_def, ↓evT, ↓aop, ↓aopc, ↓aopd, Nat.reduceEqDiff, Nat.reduceAdd, Nat.reduceLeDiff, Nat.reduceLT, Nat.reduceSub, Int.reduceToNat, ↓reduceIte, reduceCtorEq, exl]; (repeat (refine And.intro ?_ ?_; focus (first | omega | assumption | with_reducible rfl | (simp only [go_sem, ↓upd_def, ↓evT, ↓aop, ↓aopc, ↓aopd, Nat.reduceEqDiff, Nat.reduceAdd, Nat.reduceLeDiff, Nat.reduceLT, Nat.reduceSub, Int.reduceToNat, ↓reduceIte, reduceCtorEq, exl]; done)))); intros; apply hk; clear hk K) | ((first | apply qg1 rfl | apply qcd); focus (simp only [go_sem, ↓upd_def, ↓evT, ↓aop, ↓aopc, ↓aopd, Nat.reduceEqDiff, Nat.reduceAdd, Nat.reduceLeDiff, Nat.reduceLT, Nat.reduceSub, Int.reduceToNat, ↓reduceIte, reduceCtorEq, exl]; exact rfl)) | (refine qj6 ?_ ?_ <;> intro hc <;> (try simp only [hc]) <;> (try simp only [decide_eq_true_eq, decide_eq_false_iff_not, Bool.not_eq_true', Bool.not_eq_false', Bool.not_eq_true, reduceCtorEq] at hc) <;> (try (exfalso; omega))) | (refine qk1 ?_ ?_; focus (repeat (first | exact qsub0 | (refine qsub1 ?_ ?_; focus (simp only [go_sem, ↓upd_def, ↓evT, ↓aop, ↓aopc, ↓aopd, Nat.reduceEqDiff, Nat.reduceAdd, Nat.reduceLeDiff, Nat.reduceLT, Nat.reduceSub, Int.reduceToNat, ↓reduceIte, reduceCtorEq, exl]))))) | (refine qt7 ?_ ?_; focus decide) | (refine qw7 ?_ ?_ ?_; (focus (decide +kernel)); (focus (decide +kernel))))
  (refine qa1 fun K hk => ?_; apply qload 24; (focus (simp only [go_sem, ↓upd_def, ↓evT, Nat.reduceEqDiff, Nat.reduceAdd, Nat.reduceLeDiff, Nat.reduceLT, Nat.reduceSub, Int.reduceToNat, ↓reduceIte, reduceCtorEq]; exact rfl)); (focus (simp only [go_sem, ↓upd_def, ↓evT, Nat.reduceEqDiff, Nat.reduceAdd, Nat.reduceLeDiff, Nat.reduceLT, Nat.reduceSub, Int.reduceToNat, ↓reduceIte, reduceCtorEq]; exact rfl)); (focus (simp only [go_sem])); (focus (simp only [List.length_cons, List.length_nil]; omega)); (focus kernel_rfl); intro tx htx; apply hk; clear hk K)
  repeat' (first | refine qw8 ?_ | refine qw1 ?_ | refine qw6 ?_ | refine qt1 ?_ | refine qw5 ?_ | refine qw2 ?_ | refine qw9 ?_ | refine qt2 ?_ | refine qt3 ?_ | refine qt4 ?_ | refine qt5 ?_ | refine qt6 ?_ | refine qw3 ?_ | refine qw4 ?_ | refine qj1 ?_ | refine qj2 ?_ | refine qj3 ?_ | refine qj4 ?_ | refine qj5 ?_ | refine qu1 ?_ | refine qu2 ?_ | refine qne ?_ | refine qyn ?_ | refine qyz ?_ | refine qy0 ?_ | refine qnt rfl rfl ?_ | refine qnf rfl rfl ?_ | refine qyc rfl ?_ | refine qy1 rfl ?_ | refine qy2 rfl ?_ ?_ | ((first | refine qa1 fun K hk => ?_ | refine qa2 fun K hk => ?_ | refine qa3 fun K hk => ?_ | refine qh1 fun K hk => ?_ | refine qh2 fun K hk => ?_ | refine qm1 fun K hk => ?_ | refine qm2 fun K hk => ?_ | refine qm3 fun K hk => ?_); simp only [go_sem, ↓upd_def, ↓evT, ↓aop, ↓aopc, ↓aopd, Nat.reduceEqDiff, Nat.reduceAdd, Nat.reduceLeDiff, Nat.reduceLT, Nat.reduceSub, Int.reduceToNat, ↓reduceIte, reduceCtorEq, exl]; (repeat (refine And.intro ?_ ?_; focus (first | omega | assumption | with_reducible rfl | (simp only [go_sem, ↓upd_def, ↓evT, ↓aop, ↓aopc, ↓aopd, Nat.reduceEqDiff, Nat.reduceAdd, Nat.reduceLeDiff, Nat.reduceLT, Nat.reduceSub, Int.reduceToNat, ↓reduceIte, reduceCtorEq, exl]; done)))); intros; apply hk; clear hk K) | ((first | apply qg1 rfl | apply qcd); focus (simp only [go_sem, ↓upd_def, ↓evT, ↓aop, ↓aopc, ↓aopd, Nat.reduceEqDiff, Nat.reduceAdd, Nat.reduceLeDiff, Nat.reduceLT, Nat.reduceSub, Int.reduceToNat, ↓reduceIte, reduceCtorEq, exl]; exact rfl)) | (refine qj6 ?_ ?_ <;> intro hc <;> (try simp only [hc]) <;> (try simp only [decide_eq_true_eq, decide_eq_false_iff_not, Bool.not_eq_true', Bool.not_eq_false', Bool.not_eq_true, reduceCtorEq] at hc) <;> (try (exfalso; omega))) | (refine qk1 ?_ ?_; focus (repeat (first | exact qsub0 | (refine qsub1 ?_ ?_; focus (simp only [go_sem, ↓upd_def, ↓evT, ↓aop, ↓aopc, ↓aopd, Nat.reduceEqDiff, Nat.reduceAdd, Nat.reduceLeDiff, Nat.reduceLT, Nat.reduceSub, Int.reduceToNat, ↓reduceIte, reduceCtorEq, exl]))))) | (refine qt7 ?_ ?_; focus decide) | (refine qw7 ?_ ?_ ?_; (focus (decide +kernel)); (focus (decide +kernel))))
  ((first | refine fin_V ?_ | refine fin_Ve ?_ | refine fin_O ?_ | refine fin_Oe ?_ | refine fin_X ?_ | refine fin_Xe ?_); simp only [go_sem, PV.own.injEq, MB.row.injEq, MB.nmb, not_false_eq_true, ne_eq, ↓upd_def, Nat.reduceEqDiff, Nat.reduceAdd, ↓reduceIte, reduceCtorEq])
  exact hK _ _ ⟨_, _, rfl, rfl, htx, by omega, by omega⟩
theorem addr_ok : ACok Try.prog 78 (strDC 24 1 (fun ys => ys = [])) := strD_of addr_ok0
@[go_sem] def nmD0 : AC := locV (α := (Bs × Int) × Int) (fun x => [.int .i64 x.2]) (fun x => rdB x.1.1 x.1.2) (fun x => x.1.1.length ≤ 2000 ∧ 0 ≤ x.1.2 ∧ x.1.2 + 2 ≤ 1000000 ∧ 0 ≤ x.2 ∧ x.2 ≤ 1000) (fun x r b' => ∃ (s : Bs) (p' : Int), r = .str s ∧ b' = rdB x.1.1 p' ∧ s.length ≤ 11 ∧ x.1.2 ≤ p' ∧ p' ≤ x.1.2 + 2)
@[go_sem] def nmDC : AC := fun args mem n K => match args with
  | [.ref i o, .int .i64 m] => (match mem i with
    | some (.box [.seq es, .int .i64 p]) => o = 0 ∧ (∃ l : Bs, es = l.map bc ∧ l.length ≤ 2000) ∧ 0 ≤ p ∧ p + 2 ≤ 1000000 ∧ 0 ≤ m ∧ m ≤ 1000 ∧ ∀ (s : Bs) (p' : Int), s.length ≤ 11 → p ≤ p' → p' ≤ p + 2 → K (.str s) (upd mem i (some (.box [.seq es, .int .i64 p']))) n
    | _ => False)
  | _ => False
theorem nmD_ok0 : ACok Try.prog 167 nmD0 := by
  refine locV_ok 2 (tabA_cons pick_ok (tabA_cons odd_ok (tabA_nil (Γof_ok tab_nil)))) tab_nil mixed [.tmp 4] Try.func167 rfl rfl (by kernel_rfl) (by kernel_rfl) (fun _ => rfl) (by kernel_rfl) (fun x => by simp [nmbL, PV.nmb]) (fun x => by simp [go_sem, MB.nmb, nmbL, PV.nmb]) ?_
  rintro ⟨⟨l, p⟩, m⟩ K ⟨hl, h0, h1, h2, h3⟩ hK
  dsimp only at *
  unfold entry
  simp only [mkM, rdB] at *
  repeat' (first | refine qw8 ?_ | refine qw1 ?_ | refine qw6 ?_ | refine qt1 ?_ | refine qw5 ?_ | refine qw2 ?_ | refine qw9 ?_ | refine qt2 ?_ | refine qt3 ?_ | refine qt4 ?_ | refine qt5 ?_ | refine qt6 ?_ | refine qw3 ?_ | refine qw4 ?_ | refine qj1 ?_ | refine qj2 ?_ | refine qj3 ?_ | refine qj4 ?_ | refine qj5 ?_ | refine qu1 ?_ | refine qu2 ?_ | refine qne ?_ | refine qyn ?_ | refine qyz ?_ | refine qy0 ?_ | refine qnt rfl rfl ?_ | refine qnf rfl rfl ?_ | refine qyc rfl ?_ | refine qy1 rfl ?_ | refine qy2 rfl ?_ ?_ | ((first | refine qa1 fun K hk => ?_ | refine qa2 fun K hk => ?_ | refine qa3 fun K hk => ?_ | refine qh1 fun K hk => ?_ | refine qh2 fun K hk => ?_ | refine qm1 fun K hk => ?_ | refine qm2 fun K hk => ?_ | refine qm3 fun K hk => ?_); simp only [go_sem, ↓upd_def, ↓evT, ↓aop, ↓aopc, ↓aopd, Nat.reduceEqDiff, Nat.reduceAdd, Nat.reduceLeDiff, Nat.reduceLT, Nat.reduceSub, Int.reduceToNat, ↓reduceIte, reduceCtorEq, exl]; (repeat (refine And.intro ?_ ?_; focus (first | omega | assumption | with_reducible rfl | (simp only [go_sem, ↓upd_def, ↓evT, ↓aop, ↓aopc, ↓aopd, Nat.reduceEqDiff, Nat.reduceAdd, Nat.reduceLeDiff, Nat.reduceLT, Nat.reduceSub, Int.reduceToNat, ↓reduceIte, reduceCtorEq, exl]; done)))); intros; apply hk; clear hk K) | ((first | apply qg1 rfl | apply qcd); focus (simp only [go_sem, ↓upd_def, ↓evT, ↓aop, ↓aopc, ↓aopd, Nat.reduceEqDiff, Nat.reduceAdd, Nat.reduceLeDiff, Nat.reduceLT, Nat.reduceSub, Int.reduceToNat, ↓reduceIte, reduceCtorEq, exl]; exact rfl)) | (refine qj6 ?_ ?_ <;> intro hc <;> (try simp only [hc]) <;> (try simp only [decide_eq_true_eq, decide_eq_false_iff_not, Bool.not_eq_true', Bool.not_eq_false', Bool.not_eq_true, reduceCtorEq] at hc) <;> (try (exfalso; omega))) | (refine qk1 ?_ ?_; focus (repeat (first | exact qsub0 | (refine qsub1 ?_ ?_; focus (simp only [go_sem, ↓upd_def, ↓evT, ↓aop, ↓aopc, ↓aopd, Nat.reduceEqDiff, Nat.reduceAdd, Nat.reduceLeDiff, Nat.reduceLT, Nat.reduceSub, Int.reduceToNat, ↓reduceIte, reduceCtorEq, exl]))))) | (refine qt7 ?_ ?_; focus decide) | (refine qw7 ?_ ?_ ?_; (focus (decide +kernel)); (focus (decide +kernel))))
  all_goals
    (refine qa1 fun K hk => ?_; apply qload 11; (focus (simp only [go_sem, ↓upd_def, ↓evT, Nat.reduceEqDiff, Nat.reduceAdd, Nat.reduceLeDiff, Nat.reduceLT, Nat.reduceSub, Int.reduceToNat, ↓reduceIte, reduceCtorEq]; exact rfl)); (focus (simp only [go_sem, ↓upd_def, ↓evT, Nat.reduceEqDiff, Nat.reduceAdd, Nat.reduceLeDiff, Nat.reduceLT, Nat.reduceSub, Int.reduceToNat, ↓reduceIte, reduceCtorEq]; exact rfl)); (focus (simp only [go_sem])); (focus (simp only [List.length_cons, List.length_nil]; omega)); (focus kernel_rfl); intro tx htx; apply hk; clear hk K)
    repeat' (first | refine qw8 ?_ | refine qw1 ?_ | refine qw6 ?_ | refine qt1 ?_ | refine qw5 ?_ | refine qw2 ?_ | refine qw9 ?_ | refine qt2 ?_ | refine qt3 ?_ | refine qt4 ?_ | refine qt5 ?_ | refine qt6 ?_ | refine qw3 ?_ | refine qw4 ?_ | refine qj1 ?_ | refine qj2 ?_ | refine qj3 ?_ | refine qj4 ?_ | refine qj5 ?_ | refine qu1 ?_ | refine qu2 ?_ | refine qne ?_ | refine qyn ?_ | refine qyz ?_ | refine qy0 ?_ | refine qnt rfl rfl ?_ | refine qnf rfl rfl ?_ | refine qyc rfl ?_ | refine qy1 rfl ?_ | refine qy2 rfl ?_ ?_ | ((first | refine qa1 fun K hk => ?_ | refine qa2 fun K hk => ?_ | refine qa3 fun K hk => ?_ | refine qh1 fun K hk => ?_ | refine qh2 fun K hk => ?_ | refine qm1 fun K hk => ?_ | refine qm2 fun K hk => ?_ | refine qm3 fun K hk => ?_); simp only [go_sem, ↓upd_def, ↓evT, ↓aop, ↓aopc, ↓aopd, Nat.reduceEqDiff, Nat.reduceAdd, Nat.reduceLeDiff, Nat.reduceLT, Nat.reduceSub, Int.reduceToNat, ↓reduceIte, reduceCtorEq, exl]; (repeat (refine And.intro ?_ ?_; focus (first | omega | assumption | with_reducible rfl | (simp only [go_sem, ↓upd_def, ↓evT, ↓aop, ↓aopc, ↓aopd, Nat.reduceEqDiff, Nat.reduceAdd, Nat.reduceLeDiff, Nat.reduceLT, Nat.reduceSub, Int.reduceToNat, ↓reduceIte, reduceCtorEq, exl]; done)))); intros; apply hk; clear hk K) | ((first | apply qg1 rfl | apply qcd); focus (simp only [go_sem, ↓upd_def, ↓evT, ↓aop, ↓aopc, ↓aopd, Nat.reduceEqDiff, Nat.reduceAdd, Nat.reduceLeDiff, Nat.reduceLT, Nat.reduceSub, Int.reduceToNat, ↓reduceIte, reduceCtorEq, exl]; exact rfl)) | (refine qj6 ?_ ?_ <;> intro hc <;> (try simp only [hc]) <;> (try simp only [decide_eq_true_eq, decide_eq_false_iff_not, Bool.not_eq_true', Bool.not_eq_false', Bool.not_eq_true, reduceCtorEq] at hc) <;> (try (exfalso; omega))) | (refine qk1 ?_ ?_; focus (repeat (first | exact qsub0 | (refine qsub1 ?_ ?_; focus (simp only [go_sem, ↓upd_def, ↓evT, ↓aop, ↓aopc, ↓aopd, Nat.reduceEqDiff, Nat.reduceAdd, Nat.reduceLeDiff, Nat.reduceLT, Nat.reduceSub, Int.reduceToNat, ↓reduceIte, reduceCtorEq, exl]))))) | (refine qt7 ?_ ?_; focus decide) | (refine qw7 ?_ ?_ ?_; (focus (decide +kernel)); (focus (decide +kernel))))
    ((first | refine fin_V ?_ | refine fin_Ve ?_ | refine fin_O ?_ | refine fin_Oe ?_ | refine fin_X ?_ | refine fin_Xe ?_); simp only [go_sem, PV.own.injEq, MB.row.injEq, MB.nmb, not_false_eq_true, ne_eq, ↓upd_def, Nat.reduceEqDiff, Nat.reduceAdd, ↓reduceIte, reduceCtorEq])
    exact hK _ _ ⟨_, _, rfl, rfl, htx, by omega, by omega⟩
theorem nmD_ok : ACok Try.prog 167 nmDC := nmD_ok0.mono fun args mem n K h => by
  unfold nmDC at h
  split at h
  · rename_i i o m
    split at h
    · rename_i es p hm
      obtain ⟨rfl, ⟨l, rfl, hl⟩, h0, h1, h2, h3, hK⟩ := h
      refine ⟨((l, p), m), i, rfl, ⟨hl, h0, h1, h2, h3⟩, hm, ?_⟩
      rintro r b' ⟨s, p', rfl, rfl, h1, h2, h3⟩
      exact hK s p' h1 h2 h3
    · exact h.elim
  · exact h.elim
end Go.Proofs.Ytcagfbgplpokkaa

/- Contracts: drawn parts. -/
namespace Go.Proofs.Ytcagfbgplpokkaa
attribute [local irreducible] awp arun acalm FinP Fin AX.then AX.inBlock Again aG gsel amix amixN amixC aop aopc aopd cutK
attribute [local go_sem] aop aopc aopd aBSliceD aSlice aSliceC boundOf aMk evT upd_def aCall aCallC aLenL aLen aPick_t aPick_f aNil aAlloc aBox aBuild bldPV aBSlice bsPV aApp newsOf destOf drp aConvX aConv aConvInt aLoad cellsAt aStore cellsPV setAt aFld aField aIdx aIndex aUn aBin' aBin aMax aExtract pvOf PV.isCell nmbL PV.nmb List.map_cons List.map_nil List.all_cons List.all_nil Bool.and_true Bool.true_and if_true if_false List.getD_cons_zero List.getD_cons_succ List.getD_nil Option.isSome_some true_and and_true and_self eq_self true_or or_true List.drop_zero List.drop_succ_cons List.drop_nil List.take_zero List.take_succ_cons List.take_nil List.length_cons List.length_nil List.length_map Option.getD_some Option.getD_none List.nil_append List.cons_append List.append_nil Option.some.injEq exists_eq_left' List.getElem?_cons_zero List.getElem?_cons_succ Int.toNat_natCast Int.natCast_inj toNat_succ Nat.zero_add res res1 resC owns owns1 ownsC List.flatMap_cons List.flatMap_nil List.flatten_cons List.flatten_nil List.mem_cons List.not_mem_nil or_false false_or forall_eq forall_eq_or_imp isFro frz frz1 pureC tabA isBld List.cons.injEq PV.seq.injEq PV.int.injEq PV.str.injEq PV.bool.injEq PV.agg.injEq inR tab Γof aRes packR Option.map_some Option.map_none rel Prod.exists exists_and_left exists_eq_left and_assoc beq_self_eq_true Bool.not_true Bool.not_false decide_true decide_false List.set_cons_zero List.set_cons_succ rst_nil rst_cons
set_option maxRecDepth 100000
set_option linter.unusedVariables false
set_option linter.unusedSimpArgs false
open Go.RowKit

def lv154 : Nat → List Nat
  | 0 => [0, 1]
  | 1 => [0, 1, 5]
  | 2 => [0, 1, 5, 6]
  | 3 => [0, 1, 5, 6, 14]
  | 4 => [0, 1, 5, 6]
  | 5 => [0, 1, 5, 6, 7]
  | 6 => [0, 1, 5, 6, 7, 21]
  | 7 => [0, 1, 5, 6, 23]
  | 8 => [0, 1, 5, 6]
  | 9 => [0, 1, 5, 6, 7, 21, 36]
  | 10 => [0, 1, 5, 6]
  | 11 => [0, 1, 5, 6, 7, 21, 40]
  | 12 => [0, 1, 5, 6]
  | 13 => [0, 1, 5, 6]
  | 14 => [0, 1, 5, 6, 7, 21, 49]
  | 15 => [0, 1, 5, 6]
  | 16 => [0, 1, 5, 6]
  | 17 => [0, 1, 5, 6, 7, 21, 58]
  | 18 => [0, 1, 5, 6]
  | 19 => [0, 1, 5, 6]
  | 20 => [0, 1, 5, 6, 7, 21, 67]
  | 21 => [0, 1, 5, 6]
  | 22 => [0, 1, 5, 6]
  | 23 => [0, 1, 5, 6, 7, 21, 76]
  | 24 => [0, 1, 5, 6]
  | 25 => [0, 1, 5, 6]
  | 26 => [0, 1, 5, 6, 7, 21, 85]
  | 27 => [0, 1, 5, 6]
  | 28 => [0, 1, 5, 6, 91]
  | 29 => [0, 1, 5, 6, 94]
  | 30 => [0, 1, 5, 6, 8]
  | 31 => [0, 1, 5, 6, 8, 104]
  | 32 => [0, 1, 5, 6, 8]
  | 33 => [0, 1, 5, 6]
  | 34 => [4]
  | _ => []
def lv155 : Nat → List Nat
  | 0 => [0, 1]
  | 1 => [0, 1, 5]
  | 2 => [0, 1, 5, 19]
  | 3 => [1, 5, 6]
  | 4 => [6]
  | 5 => [4]
  | 6 => [4]
  | _ => []
def lv168 : Nat → List Nat
  | 0 => [0, 1]
  | 1 => [0, 1, 5]
  | 2 => [0, 1, 5, 9]
  | 3 => [0, 1, 5]
  | 4 => [0, 1, 5, 17]
  | 5 => [0, 1, 5]
  | 6 => [0, 1, 5]
  | 7 => [4]
  | _ => []

theorem enc_nil {ys : List PartD} : [] = encPs ys ↔ [] = ys := by
  rw [show ([] : List (List PV)) = encPs [] by simp [encPs], encPs_iff]
theorem enc_snoc {xs ys : List PartD} {k : Int} {t n : Bs} {ps os : List PartD} : encPs xs ++ [[.int .i64 k, .str t, .str n, .seq (encPs ps), .seq (encPs os)]] = encPs ys ↔ xs ++ [.mk k t n ps os] = ys := by
  rw [← encP_mk, ← encPs_one, ← encPs_append, encPs_iff]
theorem enc_snoc0 {xs ys : List PartD} {k : Int} {t n : Bs} : encPs xs ++ [[.int .i64 k, .str t, .str n, .seq [], .seq []]] = encPs ys ↔ xs ++ [.mk k t n [] []] = ys := by
  have := enc_snoc (xs := xs) (ys := ys) (k := k) (t := t) (n := n) (ps := []) (os := [])
  rwa [encPs_nil] at this
theorem enc_snoc1 {xs ys : List PartD} {k : Int} {t n : Bs} {ps : List PartD} : encPs xs ++ [[.int .i64 k, .str t, .str n, .seq (encPs ps), .seq []]] = encPs ys ↔ xs ++ [.mk k t n ps []] = ys := by
  have := enc_snoc (xs := xs) (ys := ys) (k := k) (t := t) (n := n) (ps := ps) (os := [])
  rwa [encPs_nil] at this
theorem encPs_set (xs : List PartD) (k : Nat) (y : PartD) : (encPs xs).set k (encP y) = encPs (xs.set k y) := by
  rw [encPs_map, encPs_map, List.map_set]
theorem le_ex {a b : Int} (h : a ≤ b) : ∃ c, c = b ∧ a ≤ c := ⟨b, rfl, h⟩
theorem wtL_set {xs : List PartD} {k : Nat} {x y : PartD} (h : xs[k]? = some x) : wtL (xs.set k y) + wtP x = wtL xs + wtP y := by
  have h1 := wtL_split h
  obtain ⟨hk, _⟩ := List.getElem?_eq_some_iff.1 h
  have e : xs.set k y = xs.take k ++ [y] ++ xs.drop (k + 1) := by
    rw [List.set_eq_take_append_cons_drop, if_pos hk]; simp
  rw [e, wtL_append, wtL_append, wtL_one]
  omega
@[go_sem] def addC0 : AC := locX 80 5 (α := List PartD × Bs) (fun x => [.str x.2]) (fun x => .row 80 5 (encPs x.1)) (fun x => wtL x.1 ≤ 1000000 ∧ x.2.length ≤ 1000) (fun x es => ∃ ys, es = encPs ys ∧ wtL ys ≤ wtL x.1 + x.2.length + 1)
set_option maxHeartbeats 8000000 in
theorem add_ok0 : ACok Try.prog 155 addC0 := by
  refine locX_ok 2 (tabA_nil (Γof_ok tab_nil)) tab_nil mixed [.tmp 4] Try.func155 rfl rfl (by kernel_rfl) (by kernel_rfl) (fun _ => rfl) (by kernel_rfl) (fun x => by simp [nmbL, PV.nmb]) (fun x => by simp [go_sem, MB.nmb, nmbL, PV.nmb]) ?_
  rintro ⟨xs, t9⟩ K ⟨hw, ht⟩ hK
  dsimp only at *
  have hlw := len_le_wtL xs
  have ha5 := encPs_all xs
  have h00 : decide ((0 : Int) ≤ ((0 : Nat) : Int) - 1) = false := by decide
  by_cases h0 : xs = []
  · subst h0
    unfold entry
    simp only [mkM, encPs_nil] at *
    repeat' (first | (refine qwd fun K hk => ?_; simp only [lv155, mkT, go_sem, ↓upd_def, ↓evT, ↓aop, ↓aopc, ↓aopd, Nat.reduceEqDiff, Nat.reduceAdd, Nat.reduceLeDiff, Nat.reduceLT, Nat.reduceSub, Int.reduceToNat, ↓reduceIte, reduceCtorEq, h00]; apply hk; clear hk K) | refine qw8 ?_ | refine qw1 ?_ | refine qwc lv155 ?_ | refine qt1 ?_ | refine qw5 ?_ | refine qw2 ?_ | refine qw9 ?_ | refine qt2 ?_ | refine qt3 ?_ | refine qt4 ?_ | refine qt5 ?_ | refine qt6 ?_ | refine qw3 ?_ | refine qw4 ?_ | refine qj1 ?_ | refine qj2 ?_ | refine qj3 ?_ | refine qj4 ?_ | refine qj5 ?_ | refine qu1 ?_ | refine qu2 ?_ | refine qne ?_ | refine qyn ?_ | refine qyz ?_ | refine qy0 ?_ | refine qnt rfl rfl ?_ | refine qnf rfl rfl ?_ | refine qyc rfl ?_ | refine qy1 rfl ?_ | refine qy2 rfl ?_ ?_ | ((first | refine qa1 fun K hk => ?_ | refine qa2 fun K hk => ?_ | refine qa3 fun K hk => ?_ | refine qh1 fun K hk => ?_ | refine qh2 fun K hk => ?_ | refine qm1 fun K hk => ?_ | refine qm2 fun K hk => ?_ | refine qm3 fun K hk => ?_); simp only [go_sem, ↓upd_def, ↓evT, ↓aop, ↓aopc, ↓aopd, Nat.reduceEqDiff, Nat.reduceAdd, Nat.reduceLeDiff, Nat.reduceLT, Nat.reduceSub, Int.reduceToNat, ↓reduceIte, reduceCtorEq, h00]; (repeat (refine And.intro ?_ ?_; focus (first | omega | assumption | with_reducible rfl | (simp only [go_sem, ↓upd_def, ↓evT, ↓aop, ↓aopc, ↓aopd, Nat.reduceEqDiff, Nat.reduceAdd, Nat.reduceLeDiff, Nat.reduceLT, Nat.reduceSub, Int.reduceToNat, ↓reduceIte, reduceCtorEq, h00]; done)))); intros; apply hk; clear hk K) | ((first | apply qg1 rfl | apply qcd); focus (simp only [go_sem, ↓upd_def, ↓evT, ↓aop, ↓aopc, ↓aopd, Nat.reduceEqDiff, Nat.reduceAdd, Nat.reduceLeDiff, Nat.reduceLT, Nat.reduceSub, Int.reduceToNat, ↓reduceIte, reduceCtorEq, h00]; exact rfl)) | (refine qj6 ?_ ?_ <;> intro hc <;> (try simp only [hc]) <;> (try simp only [decide_eq_true_eq, decide_eq_false_iff_not, Bool.not_eq_true', Bool.not_eq_false', Bool.not_eq_true, reduceCtorEq] at hc) <;> (try (exfalso; omega))) | (refine qk1 ?_ ?_; focus (repeat (first | exact qsub0 | (refine qsub1 ?_ ?_; focus (simp only [go_sem, ↓upd_def, ↓evT, ↓aop, ↓aopc, ↓aopd, Nat.reduceEqDiff, Nat.reduceAdd, Nat.reduceLeDiff, Nat.reduceLT, Nat.reduceSub, Int.reduceToNat, ↓reduceIte, reduceCtorEq, h00]))))) | (refine qt7 ?_ ?_; focus decide) | (refine qw7 ?_ ?_ ?_; (focus (decide +kernel)); (focus (decide +kernel))))
    ((first | refine fin_V ?_ | refine fin_Ve ?_ | refine fin_O ?_ | refine fin_Oe ?_ | refine fin_X ?_ | refine fin_Xe ?_); simp only [go_sem, PV.own.injEq, MB.row.injEq, MB.nmb, not_false_eq_true, ne_eq, ↓upd_def, Nat.reduceEqDiff, Nat.reduceAdd, ↓reduceIte, reduceCtorEq])
    have e := (enc_snoc0 (xs := []) (k := 1) (t := t9) (n := []) (ys := [.mk 1 t9 [] [] []])).2 rfl
    simp only [encPs_nil, List.nil_append] at e
    exact hK _ ⟨_, e, by simp [wtL_one, wtP_mk, wtL_nil]; omega⟩
  · have hlp : 0 < xs.length := List.length_pos_iff.2 h0
    obtain ⟨⟨kd, t, nm, ps, os⟩, hx⟩ := get_some (xs := xs) (k := xs.length - 1) (by omega)
    have hget := encPs_get xs
    have ws := wtL_split hx
    rw [wtP_mk] at ws
    have hpr : ((xs.length : Int) - 1).toNat = xs.length - 1 := by omega
    unfold entry
    simp only [mkM] at *
    repeat' (first | (refine qwd fun K hk => ?_; simp only [lv155, mkT, go_sem, ↓upd_def, ↓evT, ↓aop, ↓aopc, ↓aopd, Nat.reduceEqDiff, Nat.reduceAdd, Nat.reduceLeDiff, Nat.reduceLT, Nat.reduceSub, Int.reduceToNat, ↓reduceIte, reduceCtorEq, hpr, hget, hx, encP_mk]; apply hk; clear hk K) | refine qw8 ?_ | refine qw1 ?_ | refine qwc lv155 ?_ | refine qt1 ?_ | refine qw5 ?_ | refine qw2 ?_ | refine qw9 ?_ | refine qt2 ?_ | refine qt3 ?_ | refine qt4 ?_ | refine qt5 ?_ | refine qt6 ?_ | refine qw3 ?_ | refine qw4 ?_ | refine qj1 ?_ | refine qj2 ?_ | refine qj3 ?_ | refine qj4 ?_ | refine qj5 ?_ | refine qu1 ?_ | refine qu2 ?_ | refine qne ?_ | refine qyn ?_ | refine qyz ?_ | refine qy0 ?_ | refine qnt rfl rfl ?_ | refine qnf rfl rfl ?_ | refine qyc rfl ?_ | refine qy1 rfl ?_ | refine qy2 rfl ?_ ?_ | ((first | refine qa1 fun K hk => ?_ | refine qa2 fun K hk => ?_ | refine qa3 fun K hk => ?_ | refine qh1 fun K hk => ?_ | refine qh2 fun K hk => ?_ | refine qm1 fun K hk => ?_ | refine qm2 fun K hk => ?_ | refine qm3 fun K hk => ?_); simp only [go_sem, ↓upd_def, ↓evT, ↓aop, ↓aopc, ↓aopd, Nat.reduceEqDiff, Nat.reduceAdd, Nat.reduceLeDiff, Nat.reduceLT, Nat.reduceSub, Int.reduceToNat, ↓reduceIte, reduceCtorEq, hpr, hget, hx, encP_mk]; (repeat (refine And.intro ?_ ?_; focus (first | omega | assumption | with_reducible rfl | (simp only [go_sem, ↓upd_def, ↓evT, ↓aop, ↓aopc, ↓aopd, Nat.reduceEqDiff, Nat.reduceAdd, Nat.reduceLeDiff, Nat.reduceLT, Nat.reduceSub, Int.reduceToNat, ↓reduceIte, reduceCtorEq, hpr, hget, hx, encP_mk]; done)))); intros; apply hk; clear hk K) | ((first | apply qg1 rfl | apply qcd); focus (simp only [go_sem, ↓upd_def, ↓evT, ↓aop, ↓aopc, ↓aopd, Nat.reduceEqDiff, Nat.reduceAdd, Nat.reduceLeDiff, Nat.reduceLT, Nat.reduceSub, Int.reduceToNat, ↓reduceIte, reduceCtorEq, hpr, hget, hx, encP_mk]; exact rfl)) | (refine qj6 ?_ ?_ <;> intro hc <;> (try simp only [hc]) <;> (try simp only [decide_eq_true_eq, decide_eq_false_iff_not, Bool.not_eq_true', Bool.not_eq_false', Bool.not_eq_true, reduceCtorEq] at hc) <;> (try (exfalso; omega))) | (refine qk1 ?_ ?_; focus (repeat (first | exact qsub0 | (refine qsub1 ?_ ?_; focus (simp only [go_sem, ↓upd_def, ↓evT, ↓aop, ↓aopc, ↓aopd, Nat.reduceEqDiff, Nat.reduceAdd, Nat.reduceLeDiff, Nat.reduceLT, Nat.reduceSub, Int.reduceToNat, ↓reduceIte, reduceCtorEq, hpr, hget, hx, encP_mk]))))) | (refine qt7 ?_ ?_; focus decide) | (refine qw7 ?_ ?_ ?_; (focus (decide +kernel)); (focus (decide +kernel))))
    · ((first | refine fin_V ?_ | refine fin_Ve ?_ | refine fin_O ?_ | refine fin_Oe ?_ | refine fin_X ?_ | refine fin_Xe ?_); simp only [go_sem, PV.own.injEq, MB.row.injEq, MB.nmb, not_false_eq_true, ne_eq, ↓upd_def, Nat.reduceEqDiff, Nat.reduceAdd, ↓reduceIte, reduceCtorEq])
      refine hK _ ⟨xs.set (xs.length - 1) (.mk kd (t ++ t9) nm ps os), by rw [← encPs_set, encP_mk], ?_⟩
      have := wtL_set (y := .mk kd (t ++ t9) nm ps os) hx
      simp only [wtP_mk, List.length_append] at this
      omega
    · ((first | refine fin_V ?_ | refine fin_Ve ?_ | refine fin_O ?_ | refine fin_Oe ?_ | refine fin_X ?_ | refine fin_Xe ?_); simp only [go_sem, PV.own.injEq, MB.row.injEq, MB.nmb, not_false_eq_true, ne_eq, ↓upd_def, Nat.reduceEqDiff, Nat.reduceAdd, ↓reduceIte, reduceCtorEq])
      refine hK _ ⟨_, enc_snoc0.2 rfl, ?_⟩
      simp only [wtL_append, wtL_one, wtP_mk, wtL_nil, List.length_nil]
      omega
@[go_sem] def addC : AC := fun args mem n K => match args with
  | [.own i, .str t] => (match mem i with
    | some (.row e s es) => e = 80 ∧ s = 5 ∧ (∃ xs, es = encPs xs ∧ wtL xs ≤ 1000000 ∧ t.length ≤ 1000 ∧ ∀ ys, wtL ys ≤ wtL xs + t.length + 1 → ys.length ≤ wtL xs + t.length + 1 → K (.own n) (upd (upd mem i none) n (some (.row 80 5 (encPs ys)))) (n + 1))
    | _ => False)
  | _ => False
theorem add_ok : ACok Try.prog 155 addC := add_ok0.mono fun args mem n K h => by
  unfold addC at h
  split at h
  · rename_i i t
    split at h
    · rename_i e s es hm
      obtain ⟨rfl, rfl, xs, rfl, h1, h2, hK⟩ := h
      refine ⟨(xs, t), i, rfl, ⟨h1, h2⟩, hm, ?_⟩
      rintro es ⟨ys, rfl, h3⟩
      exact hK ys h3 (Nat.le_trans (len_le_wtL ys) h3)
    · exact h.elim
  · exact h.elim
@[go_sem] def putC0 : AC := locX 80 5 (α := List PartD × List PartD) (fun x => [.seq (encPs x.2)]) (fun x => .row 80 5 (encPs x.1)) (fun x => wtL x.1 ≤ 100000 ∧ wtL x.2 ≤ 100000 ∧ ∀ k t nm ps os, (.mk k t nm ps os) ∈ x.2 → t.length ≤ 1000) (fun x es => ∃ ys, es = encPs ys ∧ wtL ys ≤ wtL x.1 + 2 * wtL x.2)
set_option maxHeartbeats 8000000 in
theorem put_ok0 : ACok Try.prog 168 putC0 := by
  refine locX_ok 2 (tabA_cons add_ok (tabA_nil (Γof_ok tab_nil))) tab_nil mixed [.tmp 4] Try.func168 rfl rfl (by kernel_rfl) (by kernel_rfl) (fun _ => rfl) (by kernel_rfl) (fun x => by simp [nmbL, PV.nmb]) (fun x => by simp [go_sem, MB.nmb, nmbL, PV.nmb]) ?_
  rintro ⟨xs, zs⟩ K ⟨hw, hz, hz2⟩ hK
  dsimp only at *
  have hlw := len_le_wtL zs
  have ha5 := encPs_all xs
  unfold entry
  simp only [mkM] at *
  repeat' (first | (refine qwd fun K hk => ?_; simp only [lv168, mkT, go_sem, ↓upd_def, ↓evT, ↓aop, ↓aopc, ↓aopd, Nat.reduceEqDiff, Nat.reduceAdd, Nat.reduceLeDiff, Nat.reduceLT, Nat.reduceSub, Int.reduceToNat, ↓reduceIte, reduceCtorEq]; apply hk; clear hk K) | refine qw8 ?_ | refine qw1 ?_ | refine qwc lv168 ?_ | refine qt1 ?_ | refine qw5 ?_ | refine qw2 ?_ | refine qw9 ?_ | refine qt2 ?_ | refine qt3 ?_ | refine qt4 ?_ | refine qt5 ?_ | refine qt6 ?_ | refine qw3 ?_ | refine qw4 ?_ | refine qj1 ?_ | refine qj2 ?_ | refine qj3 ?_ | refine qj4 ?_ | refine qj5 ?_ | refine qu1 ?_ | refine qu2 ?_ | refine qne ?_ | refine qyn ?_ | refine qyz ?_ | refine qy0 ?_ | refine qnt rfl rfl ?_ | refine qnf rfl rfl ?_ | refine qyc rfl ?_ | refine qy1 rfl ?_ | refine qy2 rfl ?_ ?_ | ((first | refine qa1 fun K hk => ?_ | refine qa2 fun K hk => ?_ | refine qa3 fun K hk => ?_ | refine qh1 fun K hk => ?_ | refine qh2 fun K hk => ?_ | refine qm1 fun K hk => ?_ | refine qm2 fun K hk => ?_ | refine qm3 fun K hk => ?_); simp only [go_sem, ↓upd_def, ↓evT, ↓aop, ↓aopc, ↓aopd, Nat.reduceEqDiff, Nat.reduceAdd, Nat.reduceLeDiff, Nat.reduceLT, Nat.reduceSub, Int.reduceToNat, ↓reduceIte, reduceCtorEq]; (repeat (refine And.intro ?_ ?_; focus (first | omega | assumption | with_reducible rfl | (simp only [go_sem, ↓upd_def, ↓evT, ↓aop, ↓aopc, ↓aopd, Nat.reduceEqDiff, Nat.reduceAdd, Nat.reduceLeDiff, Nat.reduceLT, Nat.reduceSub, Int.reduceToNat, ↓reduceIte, reduceCtorEq]; done)))); intros; apply hk; clear hk K) | ((first | apply qg1 rfl | apply qcd); focus (simp only [go_sem, ↓upd_def, ↓evT, ↓aop, ↓aopc, ↓aopd, Nat.reduceEqDiff, Nat.reduceAdd, Nat.reduceLeDiff, Nat.reduceLT, Nat.reduceSub, Int.reduceToNat, ↓reduceIte, reduceCtorEq]; exact rfl)) | (refine qj6 ?_ ?_ <;> intro hc <;> (try simp only [hc]) <;> (try simp only [decide_eq_true_eq, decide_eq_false_iff_not, Bool.not_eq_true', Bool.not_eq_false', Bool.not_eq_true, reduceCtorEq] at hc) <;> (try (exfalso; omega))) | (refine qk1 ?_ ?_; focus (repeat (first | exact qsub0 | (refine qsub1 ?_ ?_; focus (simp only [go_sem, ↓upd_def, ↓evT, ↓aop, ↓aopc, ↓aopd, Nat.reduceEqDiff, Nat.reduceAdd, Nat.reduceLeDiff, Nat.reduceLT, Nat.reduceSub, Int.reduceToNat, ↓reduceIte, reduceCtorEq]))))) | (refine qt7 ?_ ?_; focus decide) | (refine qw7 ?_ ?_ ?_; (focus (decide +kernel)); (focus (decide +kernel))))
  refine s_loop (ι := Bool × Nat × List PartD) (fun i => [(0, .own (if i.1 = true then 1 else 0)), (1, .seq (encPs zs)), (5, .int .i64 i.2.1)]) (fun i => [(if i.1 = true then 1 else 0, .row 80 5 (encPs i.2.2))]) 2 (fun i => i.2.1 ≤ zs.length ∧ wtL i.2.2 ≤ wtL xs + 2 * wtL (zs.take i.2.1)) (fun i => zs.length - i.2.1) (false, 0, xs) (by omega) ⟨by simp, by simp [wtL_nil]⟩ ?_ ?_
  · simp [fits, fitsT, fitsM, upd_def, PV.nmb, nmbL, MB.nmb, List.getD_cons_zero, List.getD_cons_succ]
  rintro ⟨fl, k, ys⟩ ⟨hk, hy⟩
  dsimp only at *
  cases fl
  · simp only [mkS, mkT, mkM, Bool.false_eq_true, if_false, if_true]
    repeat' (first | (refine qwd fun K hk => ?_; simp only [lv168, mkT, go_sem, ↓upd_def, ↓evT, ↓aop, ↓aopc, ↓aopd, Nat.reduceEqDiff, Nat.reduceAdd, Nat.reduceLeDiff, Nat.reduceLT, Nat.reduceSub, Int.reduceToNat, ↓reduceIte, reduceCtorEq]; apply hk; clear hk K) | refine qw8 ?_ | refine qw1 ?_ | refine qwc lv168 ?_ | refine qt1 ?_ | refine qw5 ?_ | refine qw2 ?_ | refine qw9 ?_ | refine qt2 ?_ | refine qt3 ?_ | refine qt4 ?_ | refine qt5 ?_ | refine qt6 ?_ | refine qw3 ?_ | refine qw4 ?_ | refine qj1 ?_ | refine qj2 ?_ | refine qj3 ?_ | refine qj4 ?_ | refine qj5 ?_ | refine qu1 ?_ | refine qu2 ?_ | refine qne ?_ | refine qyn ?_ | refine qyz ?_ | refine qy0 ?_ | refine qnt rfl rfl ?_ | refine qnf rfl rfl ?_ | refine qyc rfl ?_ | refine qy1 rfl ?_ | refine qy2 rfl ?_ ?_ | ((first | refine qa1 fun K hk => ?_ | refine qa2 fun K hk => ?_ | refine qa3 fun K hk => ?_ | refine qh1 fun K hk => ?_ | refine qh2 fun K hk => ?_ | refine qm1 fun K hk => ?_ | refine qm2 fun K hk => ?_ | refine qm3 fun K hk => ?_); simp only [go_sem, ↓upd_def, ↓evT, ↓aop, ↓aopc, ↓aopd, Nat.reduceEqDiff, Nat.reduceAdd, Nat.reduceLeDiff, Nat.reduceLT, Nat.reduceSub, Int.reduceToNat, ↓reduceIte, reduceCtorEq]; (repeat (refine And.intro ?_ ?_; focus (first | omega | assumption | with_reducible rfl | (simp only [go_sem, ↓upd_def, ↓evT, ↓aop, ↓aopc, ↓aopd, Nat.reduceEqDiff, Nat.reduceAdd, Nat.reduceLeDiff, Nat.reduceLT, Nat.reduceSub, Int.reduceToNat, ↓reduceIte, reduceCtorEq]; done)))); intros; apply hk; clear hk K) | ((first | apply qg1 rfl | apply qcd); focus (simp only [go_sem, ↓upd_def, ↓evT, ↓aop, ↓aopc, ↓aopd, Nat.reduceEqDiff, Nat.reduceAdd, Nat.reduceLeDiff, Nat.reduceLT, Nat.reduceSub, Int.reduceToNat, ↓reduceIte, reduceCtorEq]; exact rfl)) | (refine qj6 ?_ ?_ <;> intro hc <;> (try simp only [hc]) <;> (try simp only [decide_eq_true_eq, decide_eq_false_iff_not, Bool.not_eq_true', Bool.not_eq_false', Bool.not_eq_true, reduceCtorEq] at hc) <;> (try (exfalso; omega))) | (refine qk1 ?_ ?_; focus (repeat (first | exact qsub0 | (refine qsub1 ?_ ?_; focus (simp only [go_sem, ↓upd_def, ↓evT, ↓aop, ↓aopc, ↓aopd, Nat.reduceEqDiff, Nat.reduceAdd, Nat.reduceLeDiff, Nat.reduceLT, Nat.reduceSub, Int.reduceToNat, ↓reduceIte, reduceCtorEq]))))) | (refine qt7 ?_ ?_; focus decide) | (refine qw7 ?_ ?_ ?_; (focus (decide +kernel)); (focus (decide +kernel))))
    · obtain ⟨⟨kd, t, nm, ps, os⟩, hx⟩ := get_some (xs := zs) (k := k) (by omega)
      have htk := take_snoc' hx
      have ws := wtL_split hx
      rw [wtP_mk] at ws
      have hget := encPs_get zs
      have ht1 : t.length ≤ 1000 := hz2 _ _ _ _ _ (List.mem_of_getElem? hx)
      have wd := len_le_wtL (zs.drop (k + 1))
      have e2 : wtL (zs.take (k + 1)) = wtL (zs.take k) + (1 + (t.length + nm.length + wtL ps + wtL os)) := by rw [htk, wtL_append, wtL_one, wtP_mk]
      have hya := encPs_all ys
      have hyl := len_le_wtL ys
      have hpl := encP_length (.mk kd t nm ps os)
      rw [encP_mk] at hpl
      repeat' (first | (refine qwd fun K hk => ?_; simp only [lv168, mkT, go_sem, ↓upd_def, ↓evT, ↓aop, ↓aopc, ↓aopd, Nat.reduceEqDiff, Nat.reduceAdd, Nat.reduceLeDiff, Nat.reduceLT, Nat.reduceSub, Int.reduceToNat, ↓reduceIte, reduceCtorEq, hget, hx, encP_mk, exl, encPs_iff]; apply hk; clear hk K) | refine qw8 ?_ | refine qw1 ?_ | refine qwc lv168 ?_ | refine qt1 ?_ | refine qw5 ?_ | refine qw2 ?_ | refine qw9 ?_ | refine qt2 ?_ | refine qt3 ?_ | refine qt4 ?_ | refine qt5 ?_ | refine qt6 ?_ | refine qw3 ?_ | refine qw4 ?_ | refine qj1 ?_ | refine qj2 ?_ | refine qj3 ?_ | refine qj4 ?_ | refine qj5 ?_ | refine qu1 ?_ | refine qu2 ?_ | refine qne ?_ | refine qyn ?_ | refine qyz ?_ | refine qy0 ?_ | refine qnt rfl rfl ?_ | refine qnf rfl rfl ?_ | refine qyc rfl ?_ | refine qy1 rfl ?_ | refine qy2 rfl ?_ ?_ | ((first | refine qa1 fun K hk => ?_ | refine qa2 fun K hk => ?_ | refine qa3 fun K hk => ?_ | refine qh1 fun K hk => ?_ | refine qh2 fun K hk => ?_ | refine qm1 fun K hk => ?_ | refine qm2 fun K hk => ?_ | refine qm3 fun K hk => ?_); simp only [go_sem, ↓upd_def, ↓evT, ↓aop, ↓aopc, ↓aopd, Nat.reduceEqDiff, Nat.reduceAdd, Nat.reduceLeDiff, Nat.reduceLT, Nat.reduceSub, Int.reduceToNat, ↓reduceIte, reduceCtorEq, hget, hx, encP_mk, exl, encPs_iff]; (repeat (refine And.intro ?_ ?_; focus (first | omega | assumption | with_reducible rfl | (simp only [go_sem, ↓upd_def, ↓evT, ↓aop, ↓aopc, ↓aopd, Nat.reduceEqDiff, Nat.reduceAdd, Nat.reduceLeDiff, Nat.reduceLT, Nat.reduceSub, Int.reduceToNat, ↓reduceIte, reduceCtorEq, hget, hx, encP_mk, exl, encPs_iff]; done)))); intros; apply hk; clear hk K) | ((first | apply qg1 rfl | apply qcd); focus (simp only [go_sem, ↓upd_def, ↓evT, ↓aop, ↓aopc, ↓aopd, Nat.reduceEqDiff, Nat.reduceAdd, Nat.reduceLeDiff, Nat.reduceLT, Nat.reduceSub, Int.reduceToNat, ↓reduceIte, reduceCtorEq, hget, hx, encP_mk, exl, encPs_iff]; exact rfl)) | (refine qj6 ?_ ?_ <;> intro hc <;> (try simp only [hc]) <;> (try simp only [decide_eq_true_eq, decide_eq_false_iff_not, Bool.not_eq_true', Bool.not_eq_false', Bool.not_eq_true, reduceCtorEq] at hc) <;> (try (exfalso; omega))) | (refine qk1 ?_ ?_; focus (repeat (first | exact qsub0 | (refine qsub1 ?_ ?_; focus (simp only [go_sem, ↓upd_def, ↓evT, ↓aop, ↓aopc, ↓aopd, Nat.reduceEqDiff, Nat.reduceAdd, Nat.reduceLeDiff, Nat.reduceLT, Nat.reduceSub, Int.reduceToNat, ↓reduceIte, reduceCtorEq, hget, hx, encP_mk, exl, encPs_iff]))))) | (refine qt7 ?_ ?_; focus decide) | (refine qw7 ?_ ?_ ?_; (focus (decide +kernel)); (focus (decide +kernel))))
      · rename_i y9 hy9 hy9'
        refine s_againR ((true, k + 1, y9)) (fun i => if i = 1 then 2 else i) ?_ ?_ ?_ ?_ ?_ ?_ <;> (first | omega | (dsimp only; omega) | (intro i hi; (try dsimp only); (repeat' split) <;> omega) | (intro i j hi hj h; (try dsimp only at h); (repeat' split at h) <;> omega) | skip)
        · simp [fitsTR, fitsMR, PV.ren, renL, MB.ren, upd_def, PV.nmb, nmbL, MB.nmb, List.getD_cons_zero, List.getD_cons_succ, frz, drp]
        · simp [fitsTR, fitsMR, PV.ren, renL, MB.ren, upd_def, PV.nmb, nmbL, MB.nmb, List.getD_cons_zero, List.getD_cons_succ, frz, drp]
      · refine s_againR ((true, k + 1, ys ++ [.mk kd t nm ps os])) (fun i => if i = 1 then 3 else i) ?_ ?_ ?_ ?_ ?_ ?_ <;> (first | omega | (dsimp only; omega) | (intro i hi; (try dsimp only); (repeat' split) <;> omega) | (intro i j hi hj h; (try dsimp only at h); (repeat' split at h) <;> omega) | skip)
        · exact ⟨by dsimp only; omega, by dsimp only; rw [wtL_append, wtL_one, wtP_mk]; omega⟩
        · simp [fitsTR, fitsMR, PV.ren, renL, MB.ren, upd_def, PV.nmb, nmbL, MB.nmb, List.getD_cons_zero, List.getD_cons_succ, frz, drp]
        · simp [fitsTR, fitsMR, PV.ren, renL, MB.ren, upd_def, PV.nmb, nmbL, MB.nmb, List.getD_cons_zero, List.getD_cons_succ, frz, drp, enc_snoc]
    · obtain rfl : k = zs.length := by omega
      ((first | refine fin_V ?_ | refine fin_Ve ?_ | refine fin_O ?_ | refine fin_Oe ?_ | refine fin_X ?_ | refine fin_Xe ?_); simp only [go_sem, PV.own.injEq, MB.row.injEq, MB.nmb, not_false_eq_true, ne_eq, ↓upd_def, Nat.reduceEqDiff, Nat.reduceAdd, ↓reduceIte, reduceCtorEq])
      rw [List.take_length] at hy
      exact hK _ ⟨_, rfl, hy⟩
  · simp only [mkS, mkT, mkM, Bool.false_eq_true, if_false, if_true]
    repeat' (first | (refine qwd fun K hk => ?_; simp only [lv168, mkT, go_sem, ↓upd_def, ↓evT, ↓aop, ↓aopc, ↓aopd, Nat.reduceEqDiff, Nat.reduceAdd, Nat.reduceLeDiff, Nat.reduceLT, Nat.reduceSub, Int.reduceToNat, ↓reduceIte, reduceCtorEq]; apply hk; clear hk K) | refine qw8 ?_ | refine qw1 ?_ | refine qwc lv168 ?_ | refine qt1 ?_ | refine qw5 ?_ | refine qw2 ?_ | refine qw9 ?_ | refine qt2 ?_ | refine qt3 ?_ | refine qt4 ?_ | refine qt5 ?_ | refine qt6 ?_ | refine qw3 ?_ | refine qw4 ?_ | refine qj1 ?_ | refine qj2 ?_ | refine qj3 ?_ | refine qj4 ?_ | refine qj5 ?_ | refine qu1 ?_ | refine qu2 ?_ | refine qne ?_ | refine qyn ?_ | refine qyz ?_ | refine qy0 ?_ | refine qnt rfl rfl ?_ | refine qnf rfl rfl ?_ | refine qyc rfl ?_ | refine qy1 rfl ?_ | refine qy2 rfl ?_ ?_ | ((first | refine qa1 fun K hk => ?_ | refine qa2 fun K hk => ?_ | refine qa3 fun K hk => ?_ | refine qh1 fun K hk => ?_ | refine qh2 fun K hk => ?_ | refine qm1 fun K hk => ?_ | refine qm2 fun K hk => ?_ | refine qm3 fun K hk => ?_); simp only [go_sem, ↓upd_def, ↓evT, ↓aop, ↓aopc, ↓aopd, Nat.reduceEqDiff, Nat.reduceAdd, Nat.reduceLeDiff, Nat.reduceLT, Nat.reduceSub, Int.reduceToNat, ↓reduceIte, reduceCtorEq]; (repeat (refine And.intro ?_ ?_; focus (first | omega | assumption | with_reducible rfl | (simp only [go_sem, ↓upd_def, ↓evT, ↓aop, ↓aopc, ↓aopd, Nat.reduceEqDiff, Nat.reduceAdd, Nat.reduceLeDiff, Nat.reduceLT, Nat.reduceSub, Int.reduceToNat, ↓reduceIte, reduceCtorEq]; done)))); intros; apply hk; clear hk K) | ((first | apply qg1 rfl | apply qcd); focus (simp only [go_sem, ↓upd_def, ↓evT, ↓aop, ↓aopc, ↓aopd, Nat.reduceEqDiff, Nat.reduceAdd, Nat.reduceLeDiff, Nat.reduceLT, Nat.reduceSub, Int.reduceToNat, ↓reduceIte, reduceCtorEq]; exact rfl)) | (refine qj6 ?_ ?_ <;> intro hc <;> (try simp only [hc]) <;> (try simp only [decide_eq_true_eq, decide_eq_false_iff_not, Bool.not_eq_true', Bool.not_eq_false', Bool.not_eq_true, reduceCtorEq] at hc) <;> (try (exfalso; omega))) | (refine qk1 ?_ ?_; focus (repeat (first | exact qsub0 | (refine qsub1 ?_ ?_; focus (simp only [go_sem, ↓upd_def, ↓evT, ↓aop, ↓aopc, ↓aopd, Nat.reduceEqDiff, Nat.reduceAdd, Nat.reduceLeDiff, Nat.reduceLT, Nat.reduceSub, Int.reduceToNat, ↓reduceIte, reduceCtorEq]))))) | (refine qt7 ?_ ?_; focus decide) | (refine qw7 ?_ ?_ ?_; (focus (decide +kernel)); (focus (decide +kernel))))
    · obtain ⟨⟨kd, t, nm, ps, os⟩, hx⟩ := get_some (xs := zs) (k := k) (by omega)
      have htk := take_snoc' hx
      have ws := wtL_split hx
      rw [wtP_mk] at ws
      have hget := encPs_get zs
      have ht1 : t.length ≤ 1000 := hz2 _ _ _ _ _ (List.mem_of_getElem? hx)
      have wd := len_le_wtL (zs.drop (k + 1))
      have e2 : wtL (zs.take (k + 1)) = wtL (zs.take k) + (1 + (t.length + nm.length + wtL ps + wtL os)) := by rw [htk, wtL_append, wtL_one, wtP_mk]
      have hya := encPs_all ys
      have hyl := len_le_wtL ys
      have hpl := encP_length (.mk kd t nm ps os)
      rw [encP_mk] at hpl
      repeat' (first | (refine qwd fun K hk => ?_; simp only [lv168, mkT, go_sem, ↓upd_def, ↓evT, ↓aop, ↓aopc, ↓aopd, Nat.reduceEqDiff, Nat.reduceAdd, Nat.reduceLeDiff, Nat.reduceLT, Nat.reduceSub, Int.reduceToNat, ↓reduceIte, reduceCtorEq, hget, hx, encP_mk, exl, encPs_iff]; apply hk; clear hk K) | refine qw8 ?_ | refine qw1 ?_ | refine qwc lv168 ?_ | refine qt1 ?_ | refine qw5 ?_ | refine qw2 ?_ | refine qw9 ?_ | refine qt2 ?_ | refine qt3 ?_ | refine qt4 ?_ | refine qt5 ?_ | refine qt6 ?_ | refine qw3 ?_ | refine qw4 ?_ | refine qj1 ?_ | refine qj2 ?_ | refine qj3 ?_ | refine qj4 ?_ | refine qj5 ?_ | refine qu1 ?_ | refine qu2 ?_ | refine qne ?_ | refine qyn ?_ | refine qyz ?_ | refine qy0 ?_ | refine qnt rfl rfl ?_ | refine qnf rfl rfl ?_ | refine qyc rfl ?_ | refine qy1 rfl ?_ | refine qy2 rfl ?_ ?_ | ((first | refine qa1 fun K hk => ?_ | refine qa2 fun K hk => ?_ | refine qa3 fun K hk => ?_ | refine qh1 fun K hk => ?_ | refine qh2 fun K hk => ?_ | refine qm1 fun K hk => ?_ | refine qm2 fun K hk => ?_ | refine qm3 fun K hk => ?_); simp only [go_sem, ↓upd_def, ↓evT, ↓aop, ↓aopc, ↓aopd, Nat.reduceEqDiff, Nat.reduceAdd, Nat.reduceLeDiff, Nat.reduceLT, Nat.reduceSub, Int.reduceToNat, ↓reduceIte, reduceCtorEq, hget, hx, encP_mk, exl, encPs_iff]; (repeat (refine And.intro ?_ ?_; focus (first | omega | assumption | with_reducible rfl | (simp only [go_sem, ↓upd_def, ↓evT, ↓aop, ↓aopc, ↓aopd, Nat.reduceEqDiff, Nat.reduceAdd, Nat.reduceLeDiff, Nat.reduceLT, Nat.reduceSub, Int.reduceToNat, ↓reduceIte, reduceCtorEq, hget, hx, encP_mk, exl, encPs_iff]; done)))); intros; apply hk; clear hk K) | ((first | apply qg1 rfl | apply qcd); focus (simp only [go_sem, ↓upd_def, ↓evT, ↓aop, ↓aopc, ↓aopd, Nat.reduceEqDiff, Nat.reduceAdd, Nat.reduceLeDiff, Nat.reduceLT, Nat.reduceSub, Int.reduceToNat, ↓reduceIte, reduceCtorEq, hget, hx, encP_mk, exl, encPs_iff]; exact rfl)) | (refine qj6 ?_ ?_ <;> intro hc <;> (try simp only [hc]) <;> (try simp only [decide_eq_true_eq, decide_eq_false_iff_not, Bool.not_eq_true', Bool.not_eq_false', Bool.not_eq_true, reduceCtorEq] at hc) <;> (try (exfalso; omega))) | (refine qk1 ?_ ?_; focus (repeat (first | exact qsub0 | (refine qsub1 ?_ ?_; focus (simp only [go_sem, ↓upd_def, ↓evT, ↓aop, ↓aopc, ↓aopd, Nat.reduceEqDiff, Nat.reduceAdd, Nat.reduceLeDiff, Nat.reduceLT, Nat.reduceSub, Int.reduceToNat, ↓reduceIte, reduceCtorEq, hget, hx, encP_mk, exl, encPs_iff]))))) | (refine qt7 ?_ ?_; focus decide) | (refine qw7 ?_ ?_ ?_; (focus (decide +kernel)); (focus (decide +kernel))))
      · rename_i y9 hy9 hy9'
        refine s_againR ((true, k + 1, y9)) (fun i => if i = 1 then 2 else i) ?_ ?_ ?_ ?_ ?_ ?_ <;> (first | omega | (dsimp only; omega) | (intro i hi; (try dsimp only); (repeat' split) <;> omega) | (intro i j hi hj h; (try dsimp only at h); (repeat' split at h) <;> omega) | skip)
        · simp [fitsTR, fitsMR, PV.ren, renL, MB.ren, upd_def, PV.nmb, nmbL, MB.nmb, List.getD_cons_zero, List.getD_cons_succ, frz, drp]
        · simp [fitsTR, fitsMR, PV.ren, renL, MB.ren, upd_def, PV.nmb, nmbL, MB.nmb, List.getD_cons_zero, List.getD_cons_succ, frz, drp]
      · refine s_againR ((true, k + 1, ys ++ [.mk kd t nm ps os])) (fun i => if i = 1 then 3 else i) ?_ ?_ ?_ ?_ ?_ ?_ <;> (first | omega | (dsimp only; omega) | (intro i hi; (try dsimp only); (repeat' split) <;> omega) | (intro i j hi hj h; (try dsimp only at h); (repeat' split at h) <;> omega) | skip)
        · exact ⟨by dsimp only; omega, by dsimp only; rw [wtL_append, wtL_one, wtP_mk]; omega⟩
        · simp [fitsTR, fitsMR, PV.ren, renL, MB.ren, upd_def, PV.nmb, nmbL, MB.nmb, List.getD_cons_zero, List.getD_cons_succ, frz, drp]
        · simp [fitsTR, fitsMR, PV.ren, renL, MB.ren, upd_def, PV.nmb, nmbL, MB.nmb, List.getD_cons_zero, List.getD_cons_succ, frz, drp, enc_snoc]
    · obtain rfl : k = zs.length := by omega
      ((first | refine fin_V ?_ | refine fin_Ve ?_ | refine fin_O ?_ | refine fin_Oe ?_ | refine fin_X ?_ | refine fin_Xe ?_); simp only [go_sem, PV.own.injEq, MB.row.injEq, MB.nmb, not_false_eq_true, ne_eq, ↓upd_def, Nat.reduceEqDiff, Nat.reduceAdd, ↓reduceIte, reduceCtorEq])
      rw [List.take_length] at hy
      exact hK _ ⟨_, rfl, hy⟩
@[go_sem] def putC : AC := fun args mem n K => match args with
  | [.own i, .seq zs'] => (match mem i with
    | some (.row e s es) => e = 80 ∧ s = 5 ∧ (∃ zs, zs' = encPs zs ∧ ∃ xs, es = encPs xs ∧ wtL xs ≤ 100000 ∧ wtL zs ≤ 1000 ∧ ∀ ys, wtL ys ≤ wtL xs + 2 * wtL zs → ys.length ≤ wtL xs + 2 * wtL zs → K (.own n) (upd (upd mem i none) n (some (.row 80 5 (encPs ys)))) (n + 1))
    | _ => False)
  | _ => False
theorem wtP_mem {xs : List PartD} {x : PartD} (h : x ∈ xs) : wtP x ≤ wtL xs := by
  obtain ⟨k, hk⟩ := List.getElem?_of_mem h
  have := wtL_split hk
  omega
theorem put_ok : ACok Try.prog 168 putC := put_ok0.mono fun args mem n K h => by
  unfold putC at h
  split at h
  · rename_i i zs'
    split at h
    · rename_i e s es hm
      obtain ⟨rfl, rfl, zs, rfl, xs, rfl, h1, h2, hK⟩ := h
      refine ⟨(xs, zs), i, rfl, ⟨h1, by dsimp only; omega, fun k t nm ps os hmem => ?_⟩, hm, ?_⟩
      · have := wtP_mem hmem
        rw [wtP_mk] at this
        dsimp only at this
        omega
      · rintro es ⟨ys, rfl, h3⟩
        exact hK ys h3 (Nat.le_trans (len_le_wtL ys) h3)
    · exact h.elim
  · exact h.elim
@[go_sem] def prtC0 (d : Int) (w : Nat) (q : Int) : AC := locO 80 5 (α := Bs × Int) (fun _ => [.int .i64 d]) (fun x => rdB x.1 x.2) (fun x => x.1.length ≤ 2000 ∧ 0 ≤ x.2 ∧ x.2 + q ≤ 1000000) (fun x es b' => ∃ xs p', es = encPs xs ∧ b' = rdB x.1 p' ∧ wtL xs ≤ w ∧ x.2 ≤ p' ∧ p' ≤ x.2 + q)
@[go_sem] def prtC (d : Int) (w : Nat) (q : Int) : AC := fun args mem n K => match args with
  | [.ref i o, .int .i64 d'] => d' = d ∧ (match mem i with
    | some (.box [.seq es, .int .i64 p]) => o = 0 ∧ (∃ l : Bs, es = l.map bc ∧ l.length ≤ 2000) ∧ 0 ≤ p ∧ p + q ≤ 1000000 ∧ ∀ (xs : List PartD) (p' : Int), wtL xs ≤ w → xs.length ≤ w → p ≤ p' → p' ≤ p + q → K (.own n) (upd (upd mem i (some (.box [.seq es, .int .i64 p']))) n (some (.row 80 5 (encPs xs)))) (n + 1)
    | _ => False)
  | _ => False
theorem prt_of {f : FuncId} {d : Int} {w : Nat} {q : Int} (hp : ACok Try.prog f (prtC0 d w q)) : ACok Try.prog f (prtC d w q) := hp.mono fun args mem n K h => by
  clear hp
  unfold prtC at h
  split at h
  · rename_i i o d'
    obtain ⟨rfl, h⟩ := h
    split at h
    · rename_i es p hm
      obtain ⟨rfl, ⟨l, rfl, hl⟩, h0, h1, hK⟩ := h
      refine ⟨(l, p), i, rfl, ⟨hl, h0, h1⟩, hm, ?_⟩
      rintro es b' ⟨xs, p', rfl, rfl, h1, h2, h3⟩
      exact hK xs p' h1 (Nat.le_trans (len_le_wtL xs) h1) h2 h3
    · exact h.elim
  · exact h.elim
set_option maxHeartbeats 16000000 in
theorem prt0 : ACok Try.prog 154 (prtC0 0 120 13) := by
  refine locO_ok 2 (tabA_cons pick_ok (tabA_cons nmD_ok (tabA_cons add_ok (tabA_nil (Γof_ok tab_nil))))) tab_nil mixed [.tmp 4] Try.func154 rfl rfl (by kernel_rfl) (by kernel_rfl) (fun _ => rfl) (by kernel_rfl) (fun x => by simp [nmbL, PV.nmb]) (fun x => by simp [go_sem, MB.nmb, nmbL, PV.nmb]) ?_
  rintro ⟨l, p⟩ K ⟨hl, h0, h1⟩ hK
  dsimp only at *
  unfold entry
  simp only [mkM, rdB] at *
  repeat' (first | (refine qwd fun K hk => ?_; simp only [lv154, mkT, go_sem, ↓upd_def, ↓evT, ↓aop, ↓aopc, ↓aopd, Nat.reduceEqDiff, Nat.reduceAdd, Nat.reduceLeDiff, Nat.reduceLT, Nat.reduceSub, Int.reduceToNat, ↓reduceIte, reduceCtorEq, exl, enc_nil]; apply hk; clear hk K) | refine qw8 ?_ | refine qw1 ?_ | refine qwc lv154 ?_ | refine qt1 ?_ | refine qw5 ?_ | refine qw2 ?_ | refine qw9 ?_ | refine qt2 ?_ | refine qt3 ?_ | refine qt4 ?_ | refine qt5 ?_ | refine qt6 ?_ | refine qw3 ?_ | refine qw4 ?_ | refine qj1 ?_ | refine qj2 ?_ | refine qj3 ?_ | refine qj4 ?_ | refine qj5 ?_ | refine qu1 ?_ | refine qu2 ?_ | refine qne ?_ | refine qyn ?_ | refine qyz ?_ | refine qy0 ?_ | refine qnt rfl rfl ?_ | refine qnf rfl rfl ?_ | refine qyc rfl ?_ | refine qy1 rfl ?_ | refine qy2 rfl ?_ ?_ | ((first | refine qa1 fun K hk => ?_ | refine qa2 fun K hk => ?_ | refine qa3 fun K hk => ?_ | refine qh1 fun K hk => ?_ | refine qh2 fun K hk => ?_ | refine qm1 fun K hk => ?_ | refine qm2 fun K hk => ?_ | refine qm3 fun K hk => ?_); simp only [go_sem, ↓upd_def, ↓evT, ↓aop, ↓aopc, ↓aopd, Nat.reduceEqDiff, Nat.reduceAdd, Nat.reduceLeDiff, Nat.reduceLT, Nat.reduceSub, Int.reduceToNat, ↓reduceIte, reduceCtorEq, exl, enc_nil]; (repeat (refine And.intro ?_ ?_; focus (first | omega | assumption | with_reducible rfl | (simp only [go_sem, ↓upd_def, ↓evT, ↓aop, ↓aopc, ↓aopd, Nat.reduceEqDiff, Nat.reduceAdd, Nat.reduceLeDiff, Nat.reduceLT, Nat.reduceSub, Int.reduceToNat, ↓reduceIte, reduceCtorEq, exl, enc_nil]; done)))); intros; apply hk; clear hk K) | ((first | apply qg1 rfl | apply qcd); focus (simp only [go_sem, ↓upd_def, ↓evT, ↓aop, ↓aopc, ↓aopd, Nat.reduceEqDiff, Nat.reduceAdd, Nat.reduceLeDiff, Nat.reduceLT, Nat.reduceSub, Int.reduceToNat, ↓reduceIte, reduceCtorEq, exl, enc_nil]; exact rfl)) | (refine qj6 ?_ ?_ <;> intro hc <;> (try simp only [hc]) <;> (try simp only [decide_eq_true_eq, decide_eq_false_iff_not, Bool.not_eq_true', Bool.not_eq_false', Bool.not_eq_true, reduceCtorEq] at hc) <;> (try (exfalso; omega))) | (refine qk1 ?_ ?_; focus (repeat (first | exact qsub0 | (refine qsub1 ?_ ?_; focus (simp only [go_sem, ↓upd_def, ↓evT, ↓aop, ↓aopc, ↓aopd, Nat.reduceEqDiff, Nat.reduceAdd, Nat.reduceLeDiff, Nat.reduceLT, Nat.reduceSub, Int.reduceToNat, ↓reduceIte, reduceCtorEq, exl, enc_nil]))))) | (refine qt7 ?_ ?_; focus decide) | (refine qw7 ?_ ?_ ?_; (focus (decide +kernel)); (focus (decide +kernel))))
  rename_i k0 k1 k2
  refine s_loop (ι := Int × List PartD × Int) (fun i => [(0, .ref 0 0), (1, .int .i64 0), (5, .own 1), (6, .int .i64 i.1)]) (fun i => [(0, .box [.seq (l.map bc), .int .i64 i.2.2]), (1, .row 80 5 (encPs i.2.1))]) 2 (fun i => 0 ≤ i.1 ∧ i.1 ≤ 3 ∧ (wtL i.2.1 : Int) ≤ (3 - i.1) * 40 ∧ p ≤ i.2.2 ∧ i.2.2 ≤ p + 1 + (3 - i.1) * 4) (fun i => i.1.toNat) (1 + k0, [], p + 1) (by omega) ⟨by dsimp only; omega, by dsimp only; omega, by simp [wtL_nil]; omega, by dsimp only; omega, by dsimp only; omega⟩ ?_ ?_
  · simp [fits, fitsT, fitsM, upd_def, PV.nmb, nmbL, MB.nmb, List.getD_cons_zero, List.getD_cons_succ, encPs_nil]
  rintro ⟨m, xs, p2⟩ ⟨g0, g1, g2, g3, g4⟩
  dsimp only at *
  have hxa := encPs_all xs
  have hxl := len_le_wtL xs
  simp only [mkS, mkT, mkM]
  repeat' (first | (refine qwd fun K hk => ?_; simp only [lv154, mkT, go_sem, ↓upd_def, ↓evT, ↓aop, ↓aopc, ↓aopd, Nat.reduceEqDiff, Nat.reduceAdd, Nat.reduceLeDiff, Nat.reduceLT, Nat.reduceSub, Int.reduceToNat, ↓reduceIte, reduceCtorEq, exl, enc_nil, enc_snoc0, enc_snoc1, enc_snoc, encPs_iff, wtL_append, wtL_one, wtP_mk, wtL_nil]; apply hk; clear hk K) | refine qw8 ?_ | refine qw1 ?_ | refine qwc lv154 ?_ | refine qt1 ?_ | refine qw5 ?_ | refine qw2 ?_ | refine qw9 ?_ | refine qt2 ?_ | refine qt3 ?_ | refine qt4 ?_ | refine qt5 ?_ | refine qt6 ?_ | refine qw3 ?_ | refine qw4 ?_ | refine qj1 ?_ | refine qj2 ?_ | refine qj3 ?_ | refine qj4 ?_ | refine qj5 ?_ | refine qu1 ?_ | refine qu2 ?_ | refine qne ?_ | refine qyn ?_ | refine qyz ?_ | refine qy0 ?_ | refine qnt rfl rfl ?_ | refine qnf rfl rfl ?_ | refine qyc rfl ?_ | refine qy1 rfl ?_ | refine qy2 rfl ?_ ?_ | ((first | refine qa1 fun K hk => ?_ | refine qa2 fun K hk => ?_ | refine qa3 fun K hk => ?_ | refine qh1 fun K hk => ?_ | refine qh2 fun K hk => ?_ | refine qm1 fun K hk => ?_ | refine qm2 fun K hk => ?_ | refine qm3 fun K hk => ?_); simp only [go_sem, ↓upd_def, ↓evT, ↓aop, ↓aopc, ↓aopd, Nat.reduceEqDiff, Nat.reduceAdd, Nat.reduceLeDiff, Nat.reduceLT, Nat.reduceSub, Int.reduceToNat, ↓reduceIte, reduceCtorEq, exl, enc_nil, enc_snoc0, enc_snoc1, enc_snoc, encPs_iff, wtL_append, wtL_one, wtP_mk, wtL_nil]; (repeat (refine And.intro ?_ ?_; focus (first | omega | assumption | with_reducible rfl | (simp only [go_sem, ↓upd_def, ↓evT, ↓aop, ↓aopc, ↓aopd, Nat.reduceEqDiff, Nat.reduceAdd, Nat.reduceLeDiff, Nat.reduceLT, Nat.reduceSub, Int.reduceToNat, ↓reduceIte, reduceCtorEq, exl, enc_nil, enc_snoc0, enc_snoc1, enc_snoc, encPs_iff, wtL_append, wtL_one, wtP_mk, wtL_nil]; done)))); intros; apply hk; clear hk K) | ((first | apply qg1 rfl | apply qcd); focus (simp only [go_sem, ↓upd_def, ↓evT, ↓aop, ↓aopc, ↓aopd, Nat.reduceEqDiff, Nat.reduceAdd, Nat.reduceLeDiff, Nat.reduceLT, Nat.reduceSub, Int.reduceToNat, ↓reduceIte, reduceCtorEq, exl, enc_nil, enc_snoc0, enc_snoc1, enc_snoc, encPs_iff, wtL_append, wtL_one, wtP_mk, wtL_nil]; exact rfl)) | (refine qj6 ?_ ?_ <;> intro hc <;> (try simp only [hc]) <;> (try simp only [decide_eq_true_eq, decide_eq_false_iff_not, Bool.not_eq_true', Bool.not_eq_false', Bool.not_eq_true, reduceCtorEq] at hc) <;> (try (exfalso; omega))) | (refine qk1 ?_ ?_; focus (repeat (first | exact qsub0 | (refine qsub1 ?_ ?_; focus (simp only [go_sem, ↓upd_def, ↓evT, ↓aop, ↓aopc, ↓aopd, Nat.reduceEqDiff, Nat.reduceAdd, Nat.reduceLeDiff, Nat.reduceLT, Nat.reduceSub, Int.reduceToNat, ↓reduceIte, reduceCtorEq, exl, enc_nil, enc_snoc0, enc_snoc1, enc_snoc, encPs_iff, wtL_append, wtL_one, wtP_mk, wtL_nil]))))) | (refine qt7 ?_ ?_; focus decide) | (refine qw7 ?_ ?_ ?_; (focus (decide +kernel)); (focus (decide +kernel))))
  all_goals (try (refine qw10 [2] [0, 2, 3, 5] [0, 2, 3, 1, 4, 5] ?_ ?_; focus (decide +kernel)))
  all_goals repeat' (first | (refine qwd fun K hk => ?_; simp only [lv154, mkT, go_sem, ↓upd_def, ↓evT, ↓aop, ↓aopc, ↓aopd, Nat.reduceEqDiff, Nat.reduceAdd, Nat.reduceLeDiff, Nat.reduceLT, Nat.reduceSub, Int.reduceToNat, ↓reduceIte, reduceCtorEq, exl, enc_nil, enc_snoc0, enc_snoc1, enc_snoc, encPs_iff, wtL_append, wtL_one, wtP_mk, wtL_nil]; apply hk; clear hk K) | refine qw8 ?_ | refine qw1 ?_ | refine qwc lv154 ?_ | refine qt1 ?_ | refine qw5 ?_ | refine qw2 ?_ | refine qw9 ?_ | refine qt2 ?_ | refine qt3 ?_ | refine qt4 ?_ | refine qt5 ?_ | refine qt6 ?_ | refine qw3 ?_ | refine qw4 ?_ | refine qj1 ?_ | refine qj2 ?_ | refine qj3 ?_ | refine qj4 ?_ | refine qj5 ?_ | refine qu1 ?_ | refine qu2 ?_ | refine qne ?_ | refine qyn ?_ | refine qyz ?_ | refine qy0 ?_ | refine qnt rfl rfl ?_ | refine qnf rfl rfl ?_ | refine qyc rfl ?_ | refine qy1 rfl ?_ | refine qy2 rfl ?_ ?_ | ((first | refine qa1 fun K hk => ?_ | refine qa2 fun K hk => ?_ | refine qa3 fun K hk => ?_ | refine qh1 fun K hk => ?_ | refine qh2 fun K hk => ?_ | refine qm1 fun K hk => ?_ | refine qm2 fun K hk => ?_ | refine qm3 fun K hk => ?_); simp only [go_sem, ↓upd_def, ↓evT, ↓aop, ↓aopc, ↓aopd, Nat.reduceEqDiff, Nat.reduceAdd, Nat.reduceLeDiff, Nat.reduceLT, Nat.reduceSub, Int.reduceToNat, ↓reduceIte, reduceCtorEq, exl, enc_nil, enc_snoc0, enc_snoc1, enc_snoc, encPs_iff, wtL_append, wtL_one, wtP_mk, wtL_nil]; (repeat (refine And.intro ?_ ?_; focus (first | omega | assumption | with_reducible rfl | (simp only [go_sem, ↓upd_def, ↓evT, ↓aop, ↓aopc, ↓aopd, Nat.reduceEqDiff, Nat.reduceAdd, Nat.reduceLeDiff, Nat.reduceLT, Nat.reduceSub, Int.reduceToNat, ↓reduceIte, reduceCtorEq, exl, enc_nil, enc_snoc0, enc_snoc1, enc_snoc, encPs_iff, wtL_append, wtL_one, wtP_mk, wtL_nil]; done)))); intros; apply hk; clear hk K) | ((first | apply qg1 rfl | apply qcd); focus (simp only [go_sem, ↓upd_def, ↓evT, ↓aop, ↓aopc, ↓aopd, Nat.reduceEqDiff, Nat.reduceAdd, Nat.reduceLeDiff, Nat.reduceLT, Nat.reduceSub, Int.reduceToNat, ↓reduceIte, reduceCtorEq, exl, enc_nil, enc_snoc0, enc_snoc1, enc_snoc, encPs_iff, wtL_append, wtL_one, wtP_mk, wtL_nil]; exact rfl)) | (refine qj6 ?_ ?_ <;> intro hc <;> (try simp only [hc]) <;> (try simp only [decide_eq_true_eq, decide_eq_false_iff_not, Bool.not_eq_true', Bool.not_eq_false', Bool.not_eq_true, reduceCtorEq] at hc) <;> (try (exfalso; omega))) | (refine qk1 ?_ ?_; focus (repeat (first | exact qsub0 | (refine qsub1 ?_ ?_; focus (simp only [go_sem, ↓upd_def, ↓evT, ↓aop, ↓aopc, ↓aopd, Nat.reduceEqDiff, Nat.reduceAdd, Nat.reduceLeDiff, Nat.reduceLT, Nat.reduceSub, Int.reduceToNat, ↓reduceIte, reduceCtorEq, exl, enc_nil, enc_snoc0, enc_snoc1, enc_snoc, encPs_iff, wtL_append, wtL_one, wtP_mk, wtL_nil]))))) | (refine qt7 ?_ ?_; focus decide) | (refine qw7 ?_ ?_ ?_; (focus (decide +kernel)); (focus (decide +kernel))))
  rotate_right
  · ((first | refine fin_V ?_ | refine fin_Ve ?_ | refine fin_O ?_ | refine fin_Oe ?_ | refine fin_X ?_ | refine fin_Xe ?_); simp only [go_sem, PV.own.injEq, MB.row.injEq, MB.nmb, not_false_eq_true, ne_eq, ↓upd_def, Nat.reduceEqDiff, Nat.reduceAdd, ↓reduceIte, reduceCtorEq])
    exact hK _ _ ⟨_, _, rfl, rfl, by omega, by omega, by omega⟩
  all_goals (rename p2 ≤ _ => hp9; obtain ⟨q9, hq9, _⟩ := le_ex hp9; subst hq9; rename Bs => s9; rename List PartD => y9)
  · refine s_againR ((m - 1, y9, q9 + 1)) (fun i => if i = 1 then 3 else i) ?_ ?_ ?_ ?_ ?_ ?_ <;> (first | omega | (dsimp only; omega) | (intro i hi; (try dsimp only); (repeat' split) <;> omega) | (intro i j hi hj h; (try dsimp only at h); (repeat' split at h) <;> omega) | skip)
    all_goals (simp [fitsTR, fitsMR, PV.ren, renL, MB.ren, upd_def, PV.nmb, nmbL, MB.nmb, List.getD_cons_zero, List.getD_cons_succ, frz, drp]; done)
  · refine s_againR ((m - 1, y9, q9 + 1)) (fun i => if i = 1 then 5 else i) ?_ ?_ ?_ ?_ ?_ ?_ <;> (first | omega | (dsimp only; omega) | (intro i hi; (try dsimp only); (repeat' split) <;> omega) | (intro i j hi hj h; (try dsimp only at h); (repeat' split at h) <;> omega) | skip)
    all_goals (simp [fitsTR, fitsMR, PV.ren, renL, MB.ren, upd_def, PV.nmb, nmbL, MB.nmb, List.getD_cons_zero, List.getD_cons_succ, frz, drp]; done)
  · refine s_againR ((m - 1, y9, q9 + 1)) (fun i => if i = 1 then 5 else i) ?_ ?_ ?_ ?_ ?_ ?_ <;> (first | omega | (dsimp only; omega) | (intro i hi; (try dsimp only); (repeat' split) <;> omega) | (intro i j hi hj h; (try dsimp only at h); (repeat' split at h) <;> omega) | skip)
    all_goals (simp [fitsTR, fitsMR, PV.ren, renL, MB.ren, upd_def, PV.nmb, nmbL, MB.nmb, List.getD_cons_zero, List.getD_cons_succ, frz, drp]; done)
  · refine s_againR ((m - 1, y9, q9 + 1)) (fun i => if i = 1 then 5 else i) ?_ ?_ ?_ ?_ ?_ ?_ <;> (first | omega | (dsimp only; omega) | (intro i hi; (try dsimp only); (repeat' split) <;> omega) | (intro i j hi hj h; (try dsimp only at h); (repeat' split at h) <;> omega) | skip)
    all_goals (simp [fitsTR, fitsMR, PV.ren, renL, MB.ren, upd_def, PV.nmb, nmbL, MB.nmb, List.getD_cons_zero, List.getD_cons_succ, frz, drp]; done)
  · refine s_againR ((m - 1, y9, q9 + 1)) (fun i => if i = 1 then 5 else i) ?_ ?_ ?_ ?_ ?_ ?_ <;> (first | omega | (dsimp only; omega) | (intro i hi; (try dsimp only); (repeat' split) <;> omega) | (intro i j hi hj h; (try dsimp only at h); (repeat' split at h) <;> omega) | skip)
    all_goals (simp [fitsTR, fitsMR, PV.ren, renL, MB.ren, upd_def, PV.nmb, nmbL, MB.nmb, List.getD_cons_zero, List.getD_cons_succ, frz, drp]; done)
  · refine s_againR ((m - 1, y9, q9 + 1)) (fun i => if i = 1 then 5 else i) ?_ ?_ ?_ ?_ ?_ ?_ <;> (first | omega | (dsimp only; omega) | (intro i hi; (try dsimp only); (repeat' split) <;> omega) | (intro i j hi hj h; (try dsimp only at h); (repeat' split at h) <;> omega) | skip)
    all_goals (simp [fitsTR, fitsMR, PV.ren, renL, MB.ren, upd_def, PV.nmb, nmbL, MB.nmb, List.getD_cons_zero, List.getD_cons_succ, frz, drp]; done)
  · refine s_againR ((m - 1, y9 ++ [.mk 2 [] s9 [] []], q9 + 1)) (fun i => if i = 1 then 4 else i) ?_ ?_ ?_ ?_ ?_ ?_ <;> (first | omega | (dsimp only; omega) | (intro i hi; (try dsimp only); (repeat' split) <;> omega) | (intro i j hi hj h; (try dsimp only at h); (repeat' split at h) <;> omega) | skip)
    · simp only [wtL_append, wtL_one, wtP_mk, wtL_nil]; dsimp only [List.length_nil]; omega
    all_goals (simp [fitsTR, fitsMR, PV.ren, renL, MB.ren, upd_def, PV.nmb, nmbL, MB.nmb, List.getD_cons_zero, List.getD_cons_succ, frz, drp, enc_snoc0]; done)
  · refine s_again ((m - 1, y9, q9 + 1)) ?_ ?_ ?_ <;> (first | omega | (dsimp only; omega) | skip)
    all_goals (simp [fits, fitsT, fitsM, upd_def, PV.nmb, nmbL, MB.nmb, List.getD_cons_zero, List.getD_cons_succ]; done)
  · refine s_again ((m - 1, y9, q9 + 1)) ?_ ?_ ?_ <;> (first | omega | (dsimp only; omega) | skip)
    all_goals (simp [fits, fitsT, fitsM, upd_def, PV.nmb, nmbL, MB.nmb, List.getD_cons_zero, List.getD_cons_succ]; done)
theorem prt0' : ACok Try.prog 154 (prtC 0 120 13) := prt_of prt0
end Go.Proofs.Ytcagfbgplpokkaa

/- Contracts: drawn parts, deeper. -/
namespace Go.Proofs.Ytcagfbgplpokkaa
attribute [local irreducible] awp arun acalm FinP Fin AX.then AX.inBlock Again aG gsel amix amixN amixC aop aopc aopd cutK
attribute [local go_sem] aop aopc aopd aBSliceD aSlice aSliceC boundOf aMk evT upd_def aCall aCallC aLenL aLen aPick_t aPick_f aNil aAlloc aBox aBuild bldPV aBSlice bsPV aApp newsOf destOf drp aConvX aConv aConvInt aLoad cellsAt aStore cellsPV setAt aFld aField aIdx aIndex aUn aBin' aBin aMax aExtract pvOf PV.isCell nmbL PV.nmb List.map_cons List.map_nil List.all_cons List.all_nil Bool.and_true Bool.true_and if_true if_false List.getD_cons_zero List.getD_cons_succ List.getD_nil Option.isSome_some true_and and_true and_self eq_self true_or or_true List.drop_zero List.drop_succ_cons List.drop_nil List.take_zero List.take_succ_cons List.take_nil List.length_cons List.length_nil List.length_map Option.getD_some Option.getD_none List.nil_append List.cons_append List.append_nil Option.some.injEq exists_eq_left' List.getElem?_cons_zero List.getElem?_cons_succ Int.toNat_natCast Int.natCast_inj toNat_succ Nat.zero_add res res1 resC owns owns1 ownsC List.flatMap_cons List.flatMap_nil List.flatten_cons List.flatten_nil List.mem_cons List.not_mem_nil or_false false_or forall_eq forall_eq_or_imp isFro frz frz1 pureC tabA isBld List.cons.injEq PV.seq.injEq PV.int.injEq PV.str.injEq PV.bool.injEq PV.agg.injEq inR tab Γof aRes packR Option.map_some Option.map_none rel Prod.exists exists_and_left exists_eq_left and_assoc beq_self_eq_true Bool.not_true Bool.not_false decide_true decide_false List.set_cons_zero List.set_cons_succ rst_nil rst_cons
set_option maxRecDepth 100000
set_option linter.unusedVariables false
set_option linter.unusedSimpArgs false
open Go.RowKit

def lvR3_154 : Nat → List Nat
  | 0 => [0, 1]
  | 1 => [0, 1, 5]
  | 2 => [0, 1, 5, 6]
  | 3 => [0, 1, 5, 6, 14]
  | 4 => [0, 1, 5, 6]
  | 5 => [0, 1, 5, 6, 7]
  | 6 => [0, 1, 5, 6, 7, 21]
  | 7 => [0, 1, 5, 6, 23]
  | 8 => [0, 1, 5, 6]
  | 9 => [0, 1, 5, 6, 7, 21, 36]
  | 10 => [0, 1, 5, 6]
  | 11 => [0, 1, 5, 6, 7, 21, 40]
  | 12 => [0, 1, 5, 6]
  | 13 => [0, 1, 5, 6]
  | 14 => [0, 1, 5, 6, 7, 21, 49]
  | 15 => [0, 1, 5, 6]
  | 16 => [0, 1, 5, 6]
  | 17 => [0, 1, 5, 6, 7, 21, 58]
  | 18 => [0, 1, 5, 6]
  | 19 => [0, 1, 5, 6]
  | 20 => [0, 1, 5, 6, 7, 21, 67]
  | 21 => [0, 1, 5, 6]
  | 22 => [0, 1, 5, 6]
  | 23 => [0, 1, 5, 6, 7, 21, 76]
  | 24 => [0, 1, 5, 6]
  | 25 => [0, 1, 5, 6]
  | 26 => [0, 1, 5, 6, 7, 21, 85]
  | 27 => [0, 1, 5, 6]
  | 28 => [0, 1, 5, 6, 91]
  | 29 => [0, 1, 5, 6, 94]
  | 30 => [0, 1, 5, 6, 8]
  | 31 => [0, 1, 5, 6, 8, 104]
  | 32 => [0, 1, 5, 6, 8]
  | 33 => [0, 1, 5, 6]
  | 34 => [4]
  | _ => []
--LV=R3
theorem put_ok' : ACok Try.prog 168 (frz2 putC) := frz2_ok put_ok
set_option maxHeartbeats 16000000 in
theorem prt1 : ACok Try.prog 154 (prtC0 1 780 100) := by
  refine locO_ok 2 (tabA_cons pick_ok (tabA_cons nmD_ok (tabA_cons add_ok (tabA_cons prt0' (tabA_cons put_ok' (tabA_nil (Γof_ok tab_nil))))))) tab_nil mixed [.tmp 4] Try.func154 rfl rfl (by kernel_rfl) (by kernel_rfl) (fun _ => rfl) (by kernel_rfl) (fun x => by simp [nmbL, PV.nmb]) (fun x => by simp [go_sem, MB.nmb, nmbL, PV.nmb]) ?_
  rintro ⟨l, p⟩ K ⟨hl, h0, h1⟩ hK
  dsimp only at *
  unfold entry
  simp only [mkM, rdB] at *
  repeat' (first | (refine qwd fun K hk => ?_; simp only [lvR3_154, mkT, go_sem, ↓upd_def, ↓evT, ↓aop, ↓aopc, ↓aopd, Nat.reduceEqDiff, Nat.reduceAdd, Nat.reduceLeDiff, Nat.reduceLT, Nat.reduceSub, Int.reduceToNat, ↓reduceIte, reduceCtorEq, exl, enc_nil]; apply hk; clear hk K) | refine qw8 ?_ | refine qw1 ?_ | refine qwc lvR3_154 ?_ | refine qt1 ?_ | refine qw5 ?_ | refine qw2 ?_ | refine qw9 ?_ | refine qt2 ?_ | refine qt3 ?_ | refine qt4 ?_ | refine qt5 ?_ | refine qt6 ?_ | refine qw3 ?_ | refine qw4 ?_ | refine qj1 ?_ | refine qj2 ?_ | refine qj3 ?_ | refine qj4 ?_ | refine qj5 ?_ | refine qu1 ?_ | refine qu2 ?_ | refine qne ?_ | refine qyn ?_ | refine qyz ?_ | refine qy0 ?_ | refine qnt rfl rfl ?_ | refine qnf rfl rfl ?_ | refine qyc rfl ?_ | refine qy1 rfl ?_ | refine qy2 rfl ?_ ?_ | ((first | refine qa1 fun K hk => ?_ | refine qa2 fun K hk => ?_ | refine qa3 fun K hk => ?_ | refine qh1 fun K hk => ?_ | refine qh2 fun K hk => ?_ | refine qm1 fun K hk => ?_ | refine qm2 fun K hk => ?_ | refine qm3 fun K hk => ?_); simp only [go_sem, ↓upd_def, ↓evT, ↓aop, ↓aopc, ↓aopd, Nat.reduceEqDiff, Nat.reduceAdd, Nat.reduceLeDiff, Nat.reduceLT, Nat.reduceSub, Int.reduceToNat, ↓reduceIte, reduceCtorEq, exl, enc_nil]; (repeat (refine And.intro ?_ ?_; focus (first | omega | assumption | with_reducible rfl | (simp only [go_sem, ↓upd_def, ↓evT, ↓aop, ↓aopc, ↓aopd, Nat.reduceEqDiff, Nat.reduceAdd, Nat.reduceLeDiff, Nat.reduceLT, Nat.reduceSub, Int.reduceToNat, ↓reduceIte, reduceCtorEq, exl, enc_nil]; done)))); intros; apply hk; clear hk K) | ((first | apply qg1 rfl | apply qcd); focus (simp only [go_sem, ↓upd_def, ↓evT, ↓aop, ↓aopc, ↓aopd, Nat.reduceEqDiff, Nat.reduceAdd, Nat.reduceLeDiff, Nat.reduceLT, Nat.reduceSub, Int.reduceToNat, ↓reduceIte, reduceCtorEq, exl, enc_nil]; exact rfl)) | (refine qj6 ?_ ?_ <;> intro hc <;> (try simp only [hc]) <;> (try simp only [decide_eq_true_eq, decide_eq_false_iff_not, Bool.not_eq_true', Bool.not_eq_false', Bool.not_eq_true, reduceCtorEq] at hc) <;> (try (exfalso; omega))) | (refine qk1 ?_ ?_; focus (repeat (first | exact qsub0 | (refine qsub1 ?_ ?_; focus (simp only [go_sem, ↓upd_def, ↓evT, ↓aop, ↓aopc, ↓aopd, Nat.reduceEqDiff, Nat.reduceAdd, Nat.reduceLeDiff, Nat.reduceLT, Nat.reduceSub, Int.reduceToNat, ↓reduceIte, reduceCtorEq, exl, enc_nil]))))) | (refine qt7 ?_ ?_; focus decide) | (refine qw7 ?_ ?_ ?_; (focus (decide +kernel)); (focus (decide +kernel))))
  rename_i k0 k1 k2
  refine s_loop (ι := Int × List PartD × Int) (fun i => [(0, .ref 0 0), (1, .int .i64 1), (5, .own 1), (6, .int .i64 i.1)]) (fun i => [(0, .box [.seq (l.map bc), .int .i64 i.2.2]), (1, .row 80 5 (encPs i.2.1))]) 2 (fun i => 0 ≤ i.1 ∧ i.1 ≤ 3 ∧ (wtL i.2.1 : Int) ≤ (3 - i.1) * 260 ∧ p ≤ i.2.2 ∧ i.2.2 ≤ p + 1 + (3 - i.1) * 33) (fun i => i.1.toNat) (1 + k0, [], p + 1) (by omega) ⟨by dsimp only; omega, by dsimp only; omega, by simp [wtL_nil]; omega, by dsimp only; omega, by dsimp only; omega⟩ ?_ ?_
  · simp [fits, fitsT, fitsM, upd_def, PV.nmb, nmbL, MB.nmb, List.getD_cons_zero, List.getD_cons_succ, encPs_nil]
  rintro ⟨m, xs, p2⟩ ⟨g0, g1, g2, g3, g4⟩
  dsimp only at *
  have hxa := encPs_all xs
  have hxl := len_le_wtL xs
  simp only [mkS, mkT, mkM]
  repeat' (first | (refine qwd fun K hk => ?_; simp only [lvR3_154, mkT, go_sem, ↓upd_def, ↓evT, ↓aop, ↓aopc, ↓aopd, Nat.reduceEqDiff, Nat.reduceAdd, Nat.reduceLeDiff, Nat.reduceLT, Nat.reduceSub, Int.reduceToNat, ↓reduceIte, reduceCtorEq, exl, enc_nil, enc_snoc0, enc_snoc1, enc_snoc, encPs_iff, wtL_append, wtL_one, wtP_mk, wtL_nil]; apply hk; clear hk K) | refine qw8 ?_ | refine qw1 ?_ | refine qwc lvR3_154 ?_ | refine qt1 ?_ | refine qw5 ?_ | refine qw2 ?_ | refine qw9 ?_ | refine qt2 ?_ | refine qt3 ?_ | refine qt4 ?_ | refine qt5 ?_ | refine qt6 ?_ | refine qw3 ?_ | refine qw4 ?_ | refine qj1 ?_ | refine qj2 ?_ | refine qj3 ?_ | refine qj4 ?_ | refine qj5 ?_ | refine qu1 ?_ | refine qu2 ?_ | refine qne ?_ | refine qyn ?_ | refine qyz ?_ | refine qy0 ?_ | refine qnt rfl rfl ?_ | refine qnf rfl rfl ?_ | refine qyc rfl ?_ | refine qy1 rfl ?_ | refine qy2 rfl ?_ ?_ | ((first | refine qa1 fun K hk => ?_ | refine qa2 fun K hk => ?_ | refine qa3 fun K hk => ?_ | refine qh1 fun K hk => ?_ | refine qh2 fun K hk => ?_ | refine qm1 fun K hk => ?_ | refine qm2 fun K hk => ?_ | refine qm3 fun K hk => ?_); simp only [go_sem, ↓upd_def, ↓evT, ↓aop, ↓aopc, ↓aopd, Nat.reduceEqDiff, Nat.reduceAdd, Nat.reduceLeDiff, Nat.reduceLT, Nat.reduceSub, Int.reduceToNat, ↓reduceIte, reduceCtorEq, exl, enc_nil, enc_snoc0, enc_snoc1, enc_snoc, encPs_iff, wtL_append, wtL_one, wtP_mk, wtL_nil]; (repeat (refine And.intro ?_ ?_; focus (first | omega | assumption | with_reducible rfl | (simp only [go_sem, ↓upd_def, ↓evT, ↓aop, ↓aopc, ↓aopd, Nat.reduceEqDiff, Nat.reduceAdd, Nat.reduceLeDiff, Nat.reduceLT, Nat.reduceSub, Int.reduceToNat, ↓reduceIte, reduceCtorEq, exl, enc_nil, enc_snoc0, enc_snoc1, enc_snoc, encPs_iff, wtL_append, wtL_one, wtP_mk, wtL_nil]; done)))); intros; apply hk; clear hk K) | ((first | apply qg1 rfl | apply qcd); focus (simp only [go_sem, ↓upd_def, ↓evT, ↓aop, ↓aopc, ↓aopd, Nat.reduceEqDiff, Nat.reduceAdd, Nat.reduceLeDiff, Nat.reduceLT, Nat.reduceSub, Int.reduceToNat, ↓reduceIte, reduceCtorEq, exl, enc_nil, enc_snoc0, enc_snoc1, enc_snoc, encPs_iff, wtL_append, wtL_one, wtP_mk, wtL_nil]; exact rfl)) | (refine qj6 ?_ ?_ <;> intro hc <;> (try simp only [hc]) <;> (try simp only [decide_eq_true_eq, decide_eq_false_iff_not, Bool.not_eq_true', Bool.not_eq_false', Bool.not_eq_true, reduceCtorEq] at hc) <;> (try (exfalso; omega))) | (refine qk1 ?_ ?_; focus (repeat (first | exact qsub0 | (refine qsub1 ?_ ?_; focus (simp only [go_sem, ↓upd_def, ↓evT, ↓aop, ↓aopc, ↓aopd, Nat.reduceEqDiff, Nat.reduceAdd, Nat.reduceLeDiff, Nat.reduceLT, Nat.reduceSub, Int.reduceToNat, ↓reduceIte, reduceCtorEq, exl, enc_nil, enc_snoc0, enc_snoc1, enc_snoc, encPs_iff, wtL_append, wtL_one, wtP_mk, wtL_nil]))))) | (refine qt7 ?_ ?_; focus decide) | (refine qw7 ?_ ?_ ?_; (focus (decide +kernel)); (focus (decide +kernel))))
  all_goals (try (refine qw10 [2] [0, 2, 3, 5] [0, 2, 3, 1, 4, 5] ?_ ?_; focus (decide +kernel)))
  all_goals repeat' (first | (refine qwd fun K hk => ?_; simp only [lvR3_154, mkT, go_sem, ↓upd_def, ↓evT, ↓aop, ↓aopc, ↓aopd, Nat.reduceEqDiff, Nat.reduceAdd, Nat.reduceLeDiff, Nat.reduceLT, Nat.reduceSub, Int.reduceToNat, ↓reduceIte, reduceCtorEq, exl, enc_nil, enc_snoc0, enc_snoc1, enc_snoc, encPs_iff, wtL_append, wtL_one, wtP_mk, wtL_nil]; apply hk; clear hk K) | refine qw8 ?_ | refine qw1 ?_ | refine qwc lvR3_154 ?_ | refine qt1 ?_ | refine qw5 ?_ | refine qw2 ?_ | refine qw9 ?_ | refine qt2 ?_ | refine qt3 ?_ | refine qt4 ?_ | refine qt5 ?_ | refine qt6 ?_ | refine qw3 ?_ | refine qw4 ?_ | refine qj1 ?_ | refine qj2 ?_ | refine qj3 ?_ | refine qj4 ?_ | refine qj5 ?_ | refine qu1 ?_ | refine qu2 ?_ | refine qne ?_ | refine qyn ?_ | refine qyz ?_ | refine qy0 ?_ | refine qnt rfl rfl ?_ | refine qnf rfl rfl ?_ | refine qyc rfl ?_ | refine qy1 rfl ?_ | refine qy2 rfl ?_ ?_ | ((first | refine qa1 fun K hk => ?_ | refine qa2 fun K hk => ?_ | refine qa3 fun K hk => ?_ | refine qh1 fun K hk => ?_ | refine qh2 fun K hk => ?_ | refine qm1 fun K hk => ?_ | refine qm2 fun K hk => ?_ | refine qm3 fun K hk => ?_); simp only [go_sem, ↓upd_def, ↓evT, ↓aop, ↓aopc, ↓aopd, Nat.reduceEqDiff, Nat.reduceAdd, Nat.reduceLeDiff, Nat.reduceLT, Nat.reduceSub, Int.reduceToNat, ↓reduceIte, reduceCtorEq, exl, enc_nil, enc_snoc0, enc_snoc1, enc_snoc, encPs_iff, wtL_append, wtL_one, wtP_mk, wtL_nil]; (repeat (refine And.intro ?_ ?_; focus (first | omega | assumption | with_reducible rfl | (simp only [go_sem, ↓upd_def, ↓evT, ↓aop, ↓aopc, ↓aopd, Nat.reduceEqDiff, Nat.reduceAdd, Nat.reduceLeDiff, Nat.reduceLT, Nat.reduceSub, Int.reduceToNat, ↓reduceIte, reduceCtorEq, exl, enc_nil, enc_snoc0, enc_snoc1, enc_snoc, encPs_iff, wtL_append, wtL_one, wtP_mk, wtL_nil]; done)))); intros; apply hk; clear hk K) | ((first | apply qg1 rfl | apply qcd); focus (simp only [go_sem, ↓upd_def, ↓evT, ↓aop, ↓aopc, ↓aopd, Nat.reduceEqDiff, Nat.reduceAdd, Nat.reduceLeDiff, Nat.reduceLT, Nat.reduceSub, Int.reduceToNat, ↓reduceIte, reduceCtorEq, exl, enc_nil, enc_snoc0, enc_snoc1, enc_snoc, encPs_iff, wtL_append, wtL_one, wtP_mk, wtL_nil]; exact rfl)) | (refine qj6 ?_ ?_ <;> intro hc <;> (try simp only [hc]) <;> (try simp only [decide_eq_true_eq, decide_eq_false_iff_not, Bool.not_eq_true', Bool.not_eq_false', Bool.not_eq_true, reduceCtorEq] at hc) <;> (try (exfalso; omega))) | (refine qk1 ?_ ?_; focus (repeat (first | exact qsub0 | (refine qsub1 ?_ ?_; focus (simp only [go_sem, ↓upd_def, ↓evT, ↓aop, ↓aopc, ↓aopd, Nat.reduceEqDiff, Nat.reduceAdd, Nat.reduceLeDiff, Nat.reduceLT, Nat.reduceSub, Int.reduceToNat, ↓reduceIte, reduceCtorEq, exl, enc_nil, enc_snoc0, enc_snoc1, enc_snoc, encPs_iff, wtL_append, wtL_one, wtP_mk, wtL_nil]))))) | (refine qt7 ?_ ?_; focus decide) | (refine qw7 ?_ ?_ ?_; (focus (decide +kernel)); (focus (decide +kernel))))
  rotate_right
  · ((first | refine fin_V ?_ | refine fin_Ve ?_ | refine fin_O ?_ | refine fin_Oe ?_ | refine fin_X ?_ | refine fin_Xe ?_); simp only [go_sem, PV.own.injEq, MB.row.injEq, MB.nmb, not_false_eq_true, ne_eq, ↓upd_def, Nat.reduceEqDiff, Nat.reduceAdd, ↓reduceIte, reduceCtorEq])
    exact hK _ _ ⟨_, _, rfl, rfl, by omega, by omega, by omega⟩
  · rename p2 ≤ _ => hp9; obtain ⟨q9, hq9, _⟩ := le_ex hp9; subst hq9; rename Bs => s9; rename List PartD => y9
    refine s_againR ((m - 1, y9, q9 + 1)) (fun i => if i = 1 then 3 else i) ?_ ?_ ?_ ?_ ?_ ?_ <;> (first | omega | (dsimp only; omega) | (intro i hi; (try dsimp only); (repeat' split) <;> omega) | (intro i j hi hj h; (try dsimp only at h); (repeat' split at h) <;> omega) | skip)
    all_goals (simp [fitsTR, fitsMR, PV.ren, renL, MB.ren, upd_def, PV.nmb, nmbL, MB.nmb, List.getD_cons_zero, List.getD_cons_succ, frz, drp, enc_snoc, enc_snoc0, enc_snoc1]; done)
  · rename p2 ≤ _ => hp9; obtain ⟨q9, hq9, _⟩ := le_ex hp9; subst hq9; rename Bs => s9; rename List PartD => y9
    refine s_againR ((m - 1, y9, q9 + 1)) (fun i => if i = 1 then 5 else i) ?_ ?_ ?_ ?_ ?_ ?_ <;> (first | omega | (dsimp only; omega) | (intro i hi; (try dsimp only); (repeat' split) <;> omega) | (intro i j hi hj h; (try dsimp only at h); (repeat' split at h) <;> omega) | skip)
    all_goals (simp [fitsTR, fitsMR, PV.ren, renL, MB.ren, upd_def, PV.nmb, nmbL, MB.nmb, List.getD_cons_zero, List.getD_cons_succ, frz, drp, enc_snoc, enc_snoc0, enc_snoc1]; done)
  · rename p2 ≤ _ => hp9; obtain ⟨q9, hq9, _⟩ := le_ex hp9; subst hq9; rename Bs => s9; rename List PartD => y9
    refine s_againR ((m - 1, y9, q9 + 1)) (fun i => if i = 1 then 5 else i) ?_ ?_ ?_ ?_ ?_ ?_ <;> (first | omega | (dsimp only; omega) | (intro i hi; (try dsimp only); (repeat' split) <;> omega) | (intro i j hi hj h; (try dsimp only at h); (repeat' split at h) <;> omega) | skip)
    all_goals (simp [fitsTR, fitsMR, PV.ren, renL, MB.ren, upd_def, PV.nmb, nmbL, MB.nmb, List.getD_cons_zero, List.getD_cons_succ, frz, drp, enc_snoc, enc_snoc0, enc_snoc1]; done)
  · rename p2 ≤ _ => hp9; obtain ⟨q9, hq9, _⟩ := le_ex hp9; subst hq9; rename Bs => s9; rename List PartD => y9
    refine s_againR ((m - 1, y9, q9 + 1)) (fun i => if i = 1 then 5 else i) ?_ ?_ ?_ ?_ ?_ ?_ <;> (first | omega | (dsimp only; omega) | (intro i hi; (try dsimp only); (repeat' split) <;> omega) | (intro i j hi hj h; (try dsimp only at h); (repeat' split at h) <;> omega) | skip)
    all_goals (simp [fitsTR, fitsMR, PV.ren, renL, MB.ren, upd_def, PV.nmb, nmbL, MB.nmb, List.getD_cons_zero, List.getD_cons_succ, frz, drp, enc_snoc, enc_snoc0, enc_snoc1]; done)
  · rename p2 ≤ _ => hp9; obtain ⟨q9, hq9, _⟩ := le_ex hp9; subst hq9; rename Bs => s9; rename List PartD => y9
    refine s_againR ((m - 1, y9, q9 + 1)) (fun i => if i = 1 then 5 else i) ?_ ?_ ?_ ?_ ?_ ?_ <;> (first | omega | (dsimp only; omega) | (intro i hi; (try dsimp only); (repeat' split) <;> omega) | (intro i j hi hj h; (try dsimp only at h); (repeat' split at h) <;> omega) | skip)
    all_goals (simp [fitsTR, fitsMR, PV.ren, renL, MB.ren, upd_def, PV.nmb, nmbL, MB.nmb, List.getD_cons_zero, List.getD_cons_succ, frz, drp, enc_snoc, enc_snoc0, enc_snoc1]; done)
  · rename p2 ≤ _ => hp9; obtain ⟨q9, hq9, _⟩ := le_ex hp9; subst hq9; rename Bs => s9; rename List PartD => y9
    refine s_againR ((m - 1, y9, q9 + 1)) (fun i => if i = 1 then 5 else i) ?_ ?_ ?_ ?_ ?_ ?_ <;> (first | omega | (dsimp only; omega) | (intro i hi; (try dsimp only); (repeat' split) <;> omega) | (intro i j hi hj h; (try dsimp only at h); (repeat' split at h) <;> omega) | skip)
    all_goals (simp [fitsTR, fitsMR, PV.ren, renL, MB.ren, upd_def, PV.nmb, nmbL, MB.nmb, List.getD_cons_zero, List.getD_cons_succ, frz, drp, enc_snoc, enc_snoc0, enc_snoc1]; done)
  · rename p2 ≤ _ => hp9; obtain ⟨q9, hq9, _⟩ := le_ex hp9; subst hq9; rename Bs => s9; rename List PartD => y9
    refine s_againR ((m - 1, y9 ++ [.mk 2 [] s9 [] []], q9 + 1)) (fun i => if i = 1 then 4 else i) ?_ ?_ ?_ ?_ ?_ ?_ <;> (first | omega | (dsimp only; omega) | (intro i hi; (try dsimp only); (repeat' split) <;> omega) | (intro i j hi hj h; (try dsimp only at h); (repeat' split at h) <;> omega) | skip)
    · simp only [wtL_append, wtL_one, wtP_mk, wtL_nil]; dsimp only [List.length_nil]; omega
    all_goals (simp [fitsTR, fitsMR, PV.ren, renL, MB.ren, upd_def, PV.nmb, nmbL, MB.nmb, List.getD_cons_zero, List.getD_cons_succ, frz, drp, enc_snoc, enc_snoc0, enc_snoc1]; done)
  · rename_i s9 q1 _ _ _ y1 q2 _ _ _ _ k9 _ _ y2 q3 _ _ _ _
    refine s_againR ((m - 1, xs ++ [.mk 3 [] s9 y1 y2], q3)) (fun i => if i = 1 then 7 else i) ?_ ?_ ?_ ?_ ?_ ?_ <;> (first | omega | (dsimp only; omega) | (intro i hi; (try dsimp only); (repeat' split) <;> omega) | (intro i j hi hj h; (try dsimp only at h); (repeat' split at h) <;> omega) | skip)
    · simp only [wtL_append, wtL_one, wtP_mk, wtL_nil]; dsimp only [List.length_nil]; omega
    all_goals (simp [fitsTR, fitsMR, PV.ren, renL, MB.ren, upd_def, PV.nmb, nmbL, MB.nmb, List.getD_cons_zero, List.getD_cons_succ, frz, drp, enc_snoc, enc_snoc0, enc_snoc1]; done)
  · rename_i s9 q1 _ _ _ y1 q2 _ _ _ _ k9 _ _
    refine s_againR ((m - 1, xs ++ [.mk 3 [] s9 y1 []], q2 + 1)) (fun i => if i = 1 then 6 else i) ?_ ?_ ?_ ?_ ?_ ?_ <;> (first | omega | (dsimp only; omega) | (intro i hi; (try dsimp only); (repeat' split) <;> omega) | (intro i j hi hj h; (try dsimp only at h); (repeat' split at h) <;> omega) | skip)
    · simp only [wtL_append, wtL_one, wtP_mk, wtL_nil]; dsimp only [List.length_nil]; omega
    all_goals (simp [fitsTR, fitsMR, PV.ren, renL, MB.ren, upd_def, PV.nmb, nmbL, MB.nmb, List.getD_cons_zero, List.getD_cons_succ, frz, drp, enc_snoc, enc_snoc0, enc_snoc1]; done)
  · rename_i s9 q1 _ _ _ y1 q2 _ _ _ _ y2 _ _
    refine s_againR ((m - 1, xs ++ [.mk 4 [] s9 y2 []], q2)) (fun i => if i = 1 then 7 else i) ?_ ?_ ?_ ?_ ?_ ?_ <;> (first | omega | (dsimp only; omega) | (intro i hi; (try dsimp only); (repeat' split) <;> omega) | (intro i j hi hj h; (try dsimp only at h); (repeat' split at h) <;> omega) | skip)
    · simp only [wtL_append, wtL_one, wtP_mk, wtL_nil]; dsimp only [List.length_nil]; omega
    all_goals (simp [fitsTR, fitsMR, PV.ren, renL, MB.ren, upd_def, PV.nmb, nmbL, MB.nmb, List.getD_cons_zero, List.getD_cons_succ, frz, drp, enc_snoc, enc_snoc0, enc_snoc1]; done)
theorem prt1' : ACok Try.prog 154 (prtC 1 780 100) := prt_of prt1
set_option maxHeartbeats 16000000 in
theorem prt2 : ACok Try.prog 154 (prtC0 2 4800 700) := by
  refine locO_ok 2 (tabA_cons pick_ok (tabA_cons nmD_ok (tabA_cons add_ok (tabA_cons prt1' (tabA_cons put_ok' (tabA_nil (Γof_ok tab_nil))))))) tab_nil mixed [.tmp 4] Try.func154 rfl rfl (by kernel_rfl) (by kernel_rfl) (fun _ => rfl) (by kernel_rfl) (fun x => by simp [nmbL, PV.nmb]) (fun x => by simp [go_sem, MB.nmb, nmbL, PV.nmb]) ?_
  rintro ⟨l, p⟩ K ⟨hl, h0, h1⟩ hK
  dsimp only at *
  unfold entry
  simp only [mkM, rdB] at *
  repeat' (first | (refine qwd fun K hk => ?_; simp only [lvR3_154, mkT, go_sem, ↓upd_def, ↓evT, ↓aop, ↓aopc, ↓aopd, Nat.reduceEqDiff, Nat.reduceAdd, Nat.reduceLeDiff, Nat.reduceLT, Nat.reduceSub, Int.reduceToNat, ↓reduceIte, reduceCtorEq, exl, enc_nil]; apply hk; clear hk K) | refine qw8 ?_ | refine qw1 ?_ | refine qwc lvR3_154 ?_ | refine qt1 ?_ | refine qw5 ?_ | refine qw2 ?_ | refine qw9 ?_ | refine qt2 ?_ | refine qt3 ?_ | refine qt4 ?_ | refine qt5 ?_ | refine qt6 ?_ | refine qw3 ?_ | refine qw4 ?_ | refine qj1 ?_ | refine qj2 ?_ | refine qj3 ?_ | refine qj4 ?_ | refine qj5 ?_ | refine qu1 ?_ | refine qu2 ?_ | refine qne ?_ | refine qyn ?_ | refine qyz ?_ | refine qy0 ?_ | refine qnt rfl rfl ?_ | refine qnf rfl rfl ?_ | refine qyc rfl ?_ | refine qy1 rfl ?_ | refine qy2 rfl ?_ ?_ | ((first | refine qa1 fun K hk => ?_ | refine qa2 fun K hk => ?_ | refine qa3 fun K hk => ?_ | refine qh1 fun K hk => ?_ | refine qh2 fun K hk => ?_ | refine qm1 fun K hk => ?_ | refine qm2 fun K hk => ?_ | refine qm3 fun K hk => ?_); simp only [go_sem, ↓upd_def, ↓evT, ↓aop, ↓aopc, ↓aopd, Nat.reduceEqDiff, Nat.reduceAdd, Nat.reduceLeDiff, Nat.reduceLT, Nat.reduceSub, Int.reduceToNat, ↓reduceIte, reduceCtorEq, exl, enc_nil]; (repeat (refine And.intro ?_ ?_; focus (first | omega | assumption | with_reducible rfl | (simp only [go_sem, ↓upd_def, ↓evT, ↓aop, ↓aopc, ↓aopd, Nat.reduceEqDiff, Nat.reduceAdd, Nat.reduceLeDiff, Nat.reduceLT, Nat.reduceSub, Int.reduceToNat, ↓reduceIte, reduceCtorEq, exl, enc_nil]; done)))); intros; apply hk; clear hk K) | ((first | apply qg1 rfl | apply qcd); focus (simp only [go_sem, ↓upd_def, ↓evT, ↓aop, ↓aopc, ↓aopd, Nat.reduceEqDiff, Nat.reduceAdd, Nat.reduceLeDiff, Nat.reduceLT, Nat.reduceSub, Int.reduceToNat, ↓reduceIte, reduceCtorEq, exl, enc_nil]; exact rfl)) | (refine qj6 ?_ ?_ <;> intro hc <;> (try simp only [hc]) <;> (try simp only [decide_eq_true_eq, decide_eq_false_iff_not, Bool.not_eq_true', Bool.not_eq_false', Bool.not_eq_true, reduceCtorEq] at hc) <;> (try (exfalso; omega))) | (refine qk1 ?_ ?_; focus (repeat (first | exact qsub0 | (refine qsub1 ?_ ?_; focus (simp only [go_sem, ↓upd_def, ↓evT, ↓aop, ↓aopc, ↓aopd, Nat.reduceEqDiff, Nat.reduceAdd, Nat.reduceLeDiff, Nat.reduceLT, Nat.reduceSub, Int.reduceToNat, ↓reduceIte, reduceCtorEq, exl, enc_nil]))))) | (refine qt7 ?_ ?_; focus decide) | (refine qw7 ?_ ?_ ?_; (focus (decide +kernel)); (focus (decide +kernel))))
  rename_i k0 k1 k2
  refine s_loop (ι := Int × List PartD × Int) (fun i => [(0, .ref 0 0), (1, .int .i64 2), (5, .own 1), (6, .int .i64 i.1)]) (fun i => [(0, .box [.seq (l.map bc), .int .i64 i.2.2]), (1, .row 80 5 (encPs i.2.1))]) 2 (fun i => 0 ≤ i.1 ∧ i.1 ≤ 3 ∧ (wtL i.2.1 : Int) ≤ (3 - i.1) * 1600 ∧ p ≤ i.2.2 ∧ i.2.2 ≤ p + 1 + (3 - i.1) * 220) (fun i => i.1.toNat) (1 + k0, [], p + 1) (by omega) ⟨by dsimp only; omega, by dsimp only; omega, by simp [wtL_nil]; omega, by dsimp only; omega, by dsimp only; omega⟩ ?_ ?_
  · simp [fits, fitsT, fitsM, upd_def, PV.nmb, nmbL, MB.nmb, List.getD_cons_zero, List.getD_cons_succ, encPs_nil]
  rintro ⟨m, xs, p2⟩ ⟨g0, g1, g2, g3, g4⟩
  dsimp only at *
  have hxa := encPs_all xs
  have hxl := len_le_wtL xs
  simp only [mkS, mkT, mkM]
  repeat' (first | (refine qwd fun K hk => ?_; simp only [lvR3_154, mkT, go_sem, ↓upd_def, ↓evT, ↓aop, ↓aopc, ↓aopd, Nat.reduceEqDiff, Nat.reduceAdd, Nat.reduceLeDiff, Nat.reduceLT, Nat.reduceSub, Int.reduceToNat, ↓reduceIte, reduceCtorEq, exl, enc_nil, enc_snoc0, enc_snoc1, enc_snoc, encPs_iff, wtL_append, wtL_one, wtP_mk, wtL_nil]; apply hk; clear hk K) | refine qw8 ?_ | refine qw1 ?_ | refine qwc lvR3_154 ?_ | refine qt1 ?_ | refine qw5 ?_ | refine qw2 ?_ | refine qw9 ?_ | refine qt2 ?_ | refine qt3 ?_ | refine qt4 ?_ | refine qt5 ?_ | refine qt6 ?_ | refine qw3 ?_ | refine qw4 ?_ | refine qj1 ?_ | refine qj2 ?_ | refine qj3 ?_ | refine qj4 ?_ | refine qj5 ?_ | refine qu1 ?_ | refine qu2 ?_ | refine qne ?_ | refine qyn ?_ | refine qyz ?_ | refine qy0 ?_ | refine qnt rfl rfl ?_ | refine qnf rfl rfl ?_ | refine qyc rfl ?_ | refine qy1 rfl ?_ | refine qy2 rfl ?_ ?_ | ((first | refine qa1 fun K hk => ?_ | refine qa2 fun K hk => ?_ | refine qa3 fun K hk => ?_ | refine qh1 fun K hk => ?_ | refine qh2 fun K hk => ?_ | refine qm1 fun K hk => ?_ | refine qm2 fun K hk => ?_ | refine qm3 fun K hk => ?_); simp only [go_sem, ↓upd_def, ↓evT, ↓aop, ↓aopc, ↓aopd, Nat.reduceEqDiff, Nat.reduceAdd, Nat.reduceLeDiff, Nat.reduceLT, Nat.reduceSub, Int.reduceToNat, ↓reduceIte, reduceCtorEq, exl, enc_nil, enc_snoc0, enc_snoc1, enc_snoc, encPs_iff, wtL_append, wtL_one, wtP_mk, wtL_nil]; (repeat (refine And.intro ?_ ?_; focus (first | omega | assumption | with_reducible rfl | (simp only [go_sem, ↓upd_def, ↓evT, ↓aop, ↓aopc, ↓aopd, Nat.reduceEqDiff, Nat.reduceAdd, Nat.reduceLeDiff, Nat.reduceLT, Nat.reduceSub, Int.reduceToNat, ↓reduceIte, reduceCtorEq, exl, enc_nil, enc_snoc0, enc_snoc1, enc_snoc, encPs_iff, wtL_append, wtL_one, wtP_mk, wtL_nil]; done)))); intros; apply hk; clear hk K) | ((first | apply qg1 rfl | apply qcd); focus (simp only [go_sem, ↓upd_def, ↓evT, ↓aop, ↓aopc, ↓aopd, Nat.reduceEqDiff, Nat.reduceAdd, Nat.reduceLeDiff, Nat.reduceLT, Nat.reduceSub, Int.reduceToNat, ↓reduceIte, reduceCtorEq, exl, enc_nil, enc_snoc0, enc_snoc1, enc_snoc, encPs_iff, wtL_append, wtL_one, wtP_mk, wtL_nil]; exact rfl)) | (refine qj6 ?_ ?_ <;> intro hc <;> (try simp only [hc]) <;> (try simp only [decide_eq_true_eq, decide_eq_false_iff_not, Bool.not_eq_true', Bool.not_eq_false', Bool.not_eq_true, reduceCtorEq] at hc) <;> (try (exfalso; omega))) | (refine qk1 ?_ ?_; focus (repeat (first | exact qsub0 | (refine qsub1 ?_ ?_; focus (simp only [go_sem, ↓upd_def, ↓evT, ↓aop, ↓aopc, ↓aopd, Nat.reduceEqDiff, Nat.reduceAdd, Nat.reduceLeDiff, Nat.reduceLT, Nat.reduceSub, Int.reduceToNat, ↓reduceIte, reduceCtorEq, exl, enc_nil, enc_snoc0, enc_snoc1, enc_snoc, encPs_iff, wtL_append, wtL_one, wtP_mk, wtL_nil]))))) | (refine qt7 ?_ ?_; focus decide) | (refine qw7 ?_ ?_ ?_; (focus (decide +kernel)); (focus (decide +kernel))))
  all_goals (try (refine qw10 [2] [0, 2, 3, 5] [0, 2, 3, 1, 4, 5] ?_ ?_; focus (decide +kernel)))
  all_goals repeat' (first | (refine qwd fun K hk => ?_; simp only [lvR3_154, mkT, go_sem, ↓upd_def, ↓evT, ↓aop, ↓aopc, ↓aopd, Nat.reduceEqDiff, Nat.reduceAdd, Nat.reduceLeDiff, Nat.reduceLT, Nat.reduceSub, Int.reduceToNat, ↓reduceIte, reduceCtorEq, exl, enc_nil, enc_snoc0, enc_snoc1, enc_snoc, encPs_iff, wtL_append, wtL_one, wtP_mk, wtL_nil]; apply hk; clear hk K) | refine qw8 ?_ | refine qw1 ?_ | refine qwc lvR3_154 ?_ | refine qt1 ?_ | refine qw5 ?_ | refine qw2 ?_ | refine qw9 ?_ | refine qt2 ?_ | refine qt3 ?_ | refine qt4 ?_ | refine qt5 ?_ | refine qt6 ?_ | refine qw3 ?_ | refine qw4 ?_ | refine qj1 ?_ | refine qj2 ?_ | refine qj3 ?_ | refine qj4 ?_ | refine qj5 ?_ | refine qu1 ?_ | refine qu2 ?_ | refine qne ?_ | refine qyn ?_ | refine qyz ?_ | refine qy0 ?_ | refine qnt rfl rfl ?_ | refine qnf rfl rfl ?_ | refine qyc rfl ?_ | refine qy1 rfl ?_ | refine qy2 rfl ?_ ?_ | ((first | refine qa1 fun K hk => ?_ | refine qa2 fun K hk => ?_ | refine qa3 fun K hk => ?_ | refine qh1 fun K hk => ?_ | refine qh2 fun K hk => ?_ | refine qm1 fun K hk => ?_ | refine qm2 fun K hk => ?_ | refine qm3 fun K hk => ?_); simp only [go_sem, ↓upd_def, ↓evT, ↓aop, ↓aopc, ↓aopd, Nat.reduceEqDiff, Nat.reduceAdd, Nat.reduceLeDiff, Nat.reduceLT, Nat.reduceSub, Int.reduceToNat, ↓reduceIte, reduceCtorEq, exl, enc_nil, enc_snoc0, enc_snoc1, enc_snoc, encPs_iff, wtL_append, wtL_one, wtP_mk, wtL_nil]; (repeat (refine And.intro ?_ ?_; focus (first | omega | assumption | with_reducible rfl | (simp only [go_sem, ↓upd_def, ↓evT, ↓aop, ↓aopc, ↓aopd, Nat.reduceEqDiff, Nat.reduceAdd, Nat.reduceLeDiff, Nat.reduceLT, Nat.reduceSub, Int.reduceToNat, ↓reduceIte, reduceCtorEq, exl, enc_nil, enc_snoc0, enc_snoc1, enc_snoc, encPs_iff, wtL_append, wtL_one, wtP_mk, wtL_nil]; done)))); intros; apply hk; clear hk K) | ((first | apply qg1 rfl | apply qcd); focus (simp only [go_sem, ↓upd_def, ↓evT, ↓aop, ↓aopc, ↓aopd, Nat.reduceEqDiff, Nat.reduceAdd, Nat.reduceLeDiff, Nat.reduceLT, Nat.reduceSub, Int.reduceToNat, ↓reduceIte, reduceCtorEq, exl, enc_nil, enc_snoc0, enc_snoc1, enc_snoc, encPs_iff, wtL_append, wtL_one, wtP_mk, wtL_nil]; exact rfl)) | (refine qj6 ?_ ?_ <;> intro hc <;> (try simp only [hc]) <;> (try simp only [decide_eq_true_eq, decide_eq_false_iff_not, Bool.not_eq_true', Bool.not_eq_false', Bool.not_eq_true, reduceCtorEq] at hc) <;> (try (exfalso; omega))) | (refine qk1 ?_ ?_; focus (repeat (first | exact qsub0 | (refine qsub1 ?_ ?_; focus (simp only [go_sem, ↓upd_def, ↓evT, ↓aop, ↓aopc, ↓aopd, Nat.reduceEqDiff, Nat.reduceAdd, Nat.reduceLeDiff, Nat.reduceLT, Nat.reduceSub, Int.reduceToNat, ↓reduceIte, reduceCtorEq, exl, enc_nil, enc_snoc0, enc_snoc1, enc_snoc, encPs_iff, wtL_append, wtL_one, wtP_mk, wtL_nil]))))) | (refine qt7 ?_ ?_; focus decide) | (refine qw7 ?_ ?_ ?_; (focus (decide +kernel)); (focus (decide +kernel))))
  rotate_right
  · ((first | refine fin_V ?_ | refine fin_Ve ?_ | refine fin_O ?_ | refine fin_Oe ?_ | refine fin_X ?_ | refine fin_Xe ?_); simp only [go_sem, PV.own.injEq, MB.row.injEq, MB.nmb, not_false_eq_true, ne_eq, ↓upd_def, Nat.reduceEqDiff, Nat.reduceAdd, ↓reduceIte, reduceCtorEq])
    exact hK _ _ ⟨_, _, rfl, rfl, by omega, by omega, by omega⟩
  · rename p2 ≤ _ => hp9; obtain ⟨q9, hq9, _⟩ := le_ex hp9; subst hq9; rename Bs => s9; rename List PartD => y9
    refine s_againR ((m - 1, y9, q9 + 1)) (fun i => if i = 1 then 3 else i) ?_ ?_ ?_ ?_ ?_ ?_ <;> (first | omega | (dsimp only; omega) | (intro i hi; (try dsimp only); (repeat' split) <;> omega) | (intro i j hi hj h; (try dsimp only at h); (repeat' split at h) <;> omega) | skip)
    all_goals (simp [fitsTR, fitsMR, PV.ren, renL, MB.ren, upd_def, PV.nmb, nmbL, MB.nmb, List.getD_cons_zero, List.getD_cons_succ, frz, drp, enc_snoc, enc_snoc0, enc_snoc1]; done)
  · rename p2 ≤ _ => hp9; obtain ⟨q9, hq9, _⟩ := le_ex hp9; subst hq9; rename Bs => s9; rename List PartD => y9
    refine s_againR ((m - 1, y9, q9 + 1)) (fun i => if i = 1 then 5 else i) ?_ ?_ ?_ ?_ ?_ ?_ <;> (first | omega | (dsimp only; omega) | (intro i hi; (try dsimp only); (repeat' split) <;> omega) | (intro i j hi hj h; (try dsimp only at h); (repeat' split at h) <;> omega) | skip)
    all_goals (simp [fitsTR, fitsMR, PV.ren, renL, MB.ren, upd_def, PV.nmb, nmbL, MB.nmb, List.getD_cons_zero, List.getD_cons_succ, frz, drp, enc_snoc, enc_snoc0, enc_snoc1]; done)
  · rename p2 ≤ _ => hp9; obtain ⟨q9, hq9, _⟩ := le_ex hp9; subst hq9; rename Bs => s9; rename List PartD => y9
    refine s_againR ((m - 1, y9, q9 + 1)) (fun i => if i = 1 then 5 else i) ?_ ?_ ?_ ?_ ?_ ?_ <;> (first | omega | (dsimp only; omega) | (intro i hi; (try dsimp only); (repeat' split) <;> omega) | (intro i j hi hj h; (try dsimp only at h); (repeat' split at h) <;> omega) | skip)
    all_goals (simp [fitsTR, fitsMR, PV.ren, renL, MB.ren, upd_def, PV.nmb, nmbL, MB.nmb, List.getD_cons_zero, List.getD_cons_succ, frz, drp, enc_snoc, enc_snoc0, enc_snoc1]; done)
  · rename p2 ≤ _ => hp9; obtain ⟨q9, hq9, _⟩ := le_ex hp9; subst hq9; rename Bs => s9; rename List PartD => y9
    refine s_againR ((m - 1, y9, q9 + 1)) (fun i => if i = 1 then 5 else i) ?_ ?_ ?_ ?_ ?_ ?_ <;> (first | omega | (dsimp only; omega) | (intro i hi; (try dsimp only); (repeat' split) <;> omega) | (intro i j hi hj h; (try dsimp only at h); (repeat' split at h) <;> omega) | skip)
    all_goals (simp [fitsTR, fitsMR, PV.ren, renL, MB.ren, upd_def, PV.nmb, nmbL, MB.nmb, List.getD_cons_zero, List.getD_cons_succ, frz, drp, enc_snoc, enc_snoc0, enc_snoc1]; done)
  · rename p2 ≤ _ => hp9; obtain ⟨q9, hq9, _⟩ := le_ex hp9; subst hq9; rename Bs => s9; rename List PartD => y9
    refine s_againR ((m - 1, y9, q9 + 1)) (fun i => if i = 1 then 5 else i) ?_ ?_ ?_ ?_ ?_ ?_ <;> (first | omega | (dsimp only; omega) | (intro i hi; (try dsimp only); (repeat' split) <;> omega) | (intro i j hi hj h; (try dsimp only at h); (repeat' split at h) <;> omega) | skip)
    all_goals (simp [fitsTR, fitsMR, PV.ren, renL, MB.ren, upd_def, PV.nmb, nmbL, MB.nmb, List.getD_cons_zero, List.getD_cons_succ, frz, drp, enc_snoc, enc_snoc0, enc_snoc1]; done)
  · rename p2 ≤ _ => hp9; obtain ⟨q9, hq9, _⟩ := le_ex hp9; subst hq9; rename Bs => s9; rename List PartD => y9
    refine s_againR ((m - 1, y9, q9 + 1)) (fun i => if i = 1 then 5 else i) ?_ ?_ ?_ ?_ ?_ ?_ <;> (first | omega | (dsimp only; omega) | (intro i hi; (try dsimp only); (repeat' split) <;> omega) | (intro i j hi hj h; (try dsimp only at h); (repeat' split at h) <;> omega) | skip)
    all_goals (simp [fitsTR, fitsMR, PV.ren, renL, MB.ren, upd_def, PV.nmb, nmbL, MB.nmb, List.getD_cons_zero, List.getD_cons_succ, frz, drp, enc_snoc, enc_snoc0, enc_snoc1]; done)
  · rename p2 ≤ _ => hp9; obtain ⟨q9, hq9, _⟩ := le_ex hp9; subst hq9; rename Bs => s9; rename List PartD => y9
    refine s_againR ((m - 1, y9 ++ [.mk 2 [] s9 [] []], q9 + 1)) (fun i => if i = 1 then 4 else i) ?_ ?_ ?_ ?_ ?_ ?_ <;> (first | omega | (dsimp only; omega) | (intro i hi; (try dsimp only); (repeat' split) <;> omega) | (intro i j hi hj h; (try dsimp only at h); (repeat' split at h) <;> omega) | skip)
    · simp only [wtL_append, wtL_one, wtP_mk, wtL_nil]; dsimp only [List.length_nil]; omega
    all_goals (simp [fitsTR, fitsMR, PV.ren, renL, MB.ren, upd_def, PV.nmb, nmbL, MB.nmb, List.getD_cons_zero, List.getD_cons_succ, frz, drp, enc_snoc, enc_snoc0, enc_snoc1]; done)
  · rename_i s9 q1 _ _ _ y1 q2 _ _ _ _ k9 _ _ y2 q3 _ _ _ _
    refine s_againR ((m - 1, xs ++ [.mk 3 [] s9 y1 y2], q3)) (fun i => if i = 1 then 7 else i) ?_ ?_ ?_ ?_ ?_ ?_ <;> (first | omega | (dsimp only; omega) | (intro i hi; (try dsimp only); (repeat' split) <;> omega) | (intro i j hi hj h; (try dsimp only at h); (repeat' split at h) <;> omega) | skip)
    · simp only [wtL_append, wtL_one, wtP_mk, wtL_nil]; dsimp only [List.length_nil]; omega
    all_goals (simp [fitsTR, fitsMR, PV.ren, renL, MB.ren, upd_def, PV.nmb, nmbL, MB.nmb, List.getD_cons_zero, List.getD_cons_succ, frz, drp, enc_snoc, enc_snoc0, enc_snoc1]; done)
  · rename_i s9 q1 _ _ _ y1 q2 _ _ _ _ k9 _ _
    refine s_againR ((m - 1, xs ++ [.mk 3 [] s9 y1 []], q2 + 1)) (fun i => if i = 1 then 6 else i) ?_ ?_ ?_ ?_ ?_ ?_ <;> (first | omega | (dsimp only; omega) | (intro i hi; (try dsimp only); (repeat' split) <;> omega) | (intro i j hi hj h; (try dsimp only at h); (repeat' split at h) <;> omega) | skip)
    · simp only [wtL_append, wtL_one, wtP_mk, wtL_nil]; dsimp only [List.length_nil]; omega
    all_goals (simp [fitsTR, fitsMR, PV.ren, renL, MB.ren, upd_def, PV.nmb, nmbL, MB.nmb, List.getD_cons_zero, List.getD_cons_succ, frz, drp, enc_snoc, enc_snoc0, enc_snoc1]; done)
  · rename_i s9 q1 _ _ _ y1 q2 _ _ _ _ y2 _ _
    refine s_againR ((m - 1, xs ++ [.mk 4 [] s9 y2 []], q2)) (fun i => if i = 1 then 7 else i) ?_ ?_ ?_ ?_ ?_ ?_ <;> (first | omega | (dsimp only; omega) | (intro i hi; (try dsimp only); (repeat' split) <;> omega) | (intro i j hi hj h; (try dsimp only at h); (repeat' split at h) <;> omega) | skip)
    · simp only [wtL_append, wtL_one, wtP_mk, wtL_nil]; dsimp only [List.length_nil]; omega
    all_goals (simp [fitsTR, fitsMR, PV.ren, renL, MB.ren, upd_def, PV.nmb, nmbL, MB.nmb, List.getD_cons_zero, List.getD_cons_succ, frz, drp, enc_snoc, enc_snoc0, enc_snoc1]; done)
theorem prt2' : ACok Try.prog 154 (prtC 2 4800 700) := prt_of prt2
end Go.Proofs.Ytcagfbgplpokkaa

/- Contracts: drawn templates. -/
namespace Go.Proofs.Ytcagfbgplpokkaa
attribute [local irreducible] awp arun acalm FinP Fin AX.then AX.inBlock Again aG gsel amix amixN amixC aop aopc aopd cutK
attribute [local go_sem] aop aopc aopd aBSliceD aSlice aSliceC boundOf aMk evT upd_def aCall aCallC aLenL aLen aPick_t aPick_f aNil aAlloc aBox aBuild bldPV aBSlice bsPV aApp newsOf destOf drp aConvX aConv aConvInt aLoad cellsAt aStore cellsPV setAt aFld aField aIdx aIndex aUn aBin' aBin aMax aExtract pvOf PV.isCell nmbL PV.nmb List.map_cons List.map_nil List.all_cons List.all_nil Bool.and_true Bool.true_and if_true if_false List.getD_cons_zero List.getD_cons_succ List.getD_nil Option.isSome_some true_and and_true and_self eq_self true_or or_true List.drop_zero List.drop_succ_cons List.drop_nil List.take_zero List.take_succ_cons List.take_nil List.length_cons List.length_nil List.length_map Option.getD_some Option.getD_none List.nil_append List.cons_append List.append_nil Option.some.injEq exists_eq_left' List.getElem?_cons_zero List.getElem?_cons_succ Int.toNat_natCast Int.natCast_inj toNat_succ Nat.zero_add res res1 resC owns owns1 ownsC List.flatMap_cons List.flatMap_nil List.flatten_cons List.flatten_nil List.mem_cons List.not_mem_nil or_false false_or forall_eq forall_eq_or_imp isFro frz frz1 pureC tabA isBld List.cons.injEq PV.seq.injEq PV.int.injEq PV.str.injEq PV.bool.injEq PV.agg.injEq inR tab Γof aRes packR Option.map_some Option.map_none rel Prod.exists exists_and_left exists_eq_left and_assoc beq_self_eq_true Bool.not_true Bool.not_false decide_true decide_false List.set_cons_zero List.set_cons_succ rst_nil rst_cons
set_option maxRecDepth 100000
set_option linter.unusedVariables false
set_option linter.unusedSimpArgs false
open Go.RowKit

def lvR4_115 : Nat → List Nat
  | 0 => [0, 1]
  | 1 => [0, 1, 5]
  | 2 => [0, 5, 10]
  | 3 => [0, 5, 12]
  | 4 => [5]
  | 5 => [0, 5, 12, 20]
  | 6 => [5]
  | 7 => [0, 5, 12, 24]
  | 8 => [5]
  | 9 => [5]
  | 10 => [0, 5, 12, 33]
  | 11 => [5]
  | 12 => [5]
  | 13 => [0, 5, 12, 42]
  | 14 => [5]
  | 15 => [0, 5, 12, 52]
  | 16 => [5]
  | 17 => [0, 5, 12, 60]
  | 18 => [5]
  | 19 => [0, 5, 12, 66]
  | 20 => [5]
  | 21 => [5, 77]
  | 22 => [5]
  | 23 => [4]
  | _ => []
--LV=R4
theorem enc_two {xs : List PartD} {k k' : Int} {t n t' n' : Bs} {ps os ps' os' : List PartD} : encPs xs ++ [[.int .i64 k, .str t, .str n, .seq (encPs ps), .seq (encPs os)], [.int .i64 k', .str t', .str n', .seq (encPs ps'), .seq (encPs os')]] = encPs (xs ++ [.mk k t n ps os, .mk k' t' n' ps' os']) := by
  rw [encPs_append, show ([PartD.mk k t n ps os, .mk k' t' n' ps' os'] : List PartD) = [.mk k t n ps os] ++ [.mk k' t' n' ps' os'] from rfl, encPs_append, encPs_one, encPs_one, encP_mk, encP_mk]
  rfl
theorem encPs_two (a b : PartD) : encPs [a, b] = [encP a, encP b] := by simp [encPs]
theorem wtL_two (a b : PartD) : wtL [a, b] = 1 + wtP a + (1 + wtP b) := by simp [wtL, Nat.add_assoc]
theorem enc1 {k : Int} {t n : Bs} {ps os : List PartD} : [[.int .i64 k, .str t, .str n, .seq (encPs ps), .seq (encPs os)]] = encPs [.mk k t n ps os] := by
  rw [encPs_one, encP_mk]
@[go_sem] def tplC0 (w : Nat) (q : Int) : AC := locO 80 5 (α := (Bs × Int) × Int) (fun x => [.int .i64 x.2]) (fun x => rdB x.1.1 x.1.2) (fun x => x.1.1.length ≤ 2000 ∧ 0 ≤ x.1.2 ∧ x.1.2 + q ≤ 1000000 ∧ 0 ≤ x.2 ∧ x.2 ≤ 1000) (fun x es b' => ∃ xs p', es = encPs xs ∧ b' = rdB x.1.1 p' ∧ wtL xs ≤ w ∧ x.1.2 ≤ p' ∧ p' ≤ x.1.2 + q)
@[go_sem] def tplC (w : Nat) (q : Int) : AC := fun args mem n K => match args with
  | [.ref i o, .int .i64 m] => 0 ≤ m ∧ m ≤ 1000 ∧ (match mem i with
    | some (.box [.seq es, .int .i64 p]) => o = 0 ∧ (∃ l : Bs, es = l.map bc ∧ l.length ≤ 2000) ∧ 0 ≤ p ∧ p + q ≤ 1000000 ∧ ∀ (xs : List PartD) (p' : Int), wtL xs ≤ w → xs.length ≤ w → p ≤ p' → p' ≤ p + q → K (.own n) (upd (upd mem i (some (.box [.seq es, .int .i64 p']))) n (some (.row 80 5 (encPs xs)))) (n + 1)
    | _ => False)
  | _ => False
theorem tpl_of {f : FuncId} {w : Nat} {q : Int} (hp : ACok Try.prog f (tplC0 w q)) : ACok Try.prog f (tplC w q) := hp.mono fun args mem n K h => by
  clear hp
  unfold tplC at h
  split at h
  · rename_i i o m
    obtain ⟨hm0, hm1, h⟩ := h
    split at h
    · rename_i es p hm
      obtain ⟨rfl, ⟨l, rfl, hl⟩, h0, h1, hK⟩ := h
      refine ⟨((l, p), m), i, rfl, ⟨hl, h0, h1, hm0, hm1⟩, hm, ?_⟩
      rintro es b' ⟨xs, p', rfl, rfl, h1, h2, h3⟩
      exact hK xs p' h1 (Nat.le_trans (len_le_wtL xs) h1) h2 h3
    · exact h.elim
  · exact h.elim
set_option maxHeartbeats 16000000 in
theorem tpl_ok0 : ACok Try.prog 115 (tplC0 5000 1000) := by
  refine locO_ok 2 (tabA_cons pick_ok (tabA_cons odd_ok (tabA_cons add_ok (tabA_cons prt2' (tabA_nil (Γof_ok tab_nil)))))) tab_nil mixed [.tmp 4] Try.func115 rfl rfl (by kernel_rfl) (by kernel_rfl) (fun _ => rfl) (by kernel_rfl) (fun x => by simp [nmbL, PV.nmb]) (fun x => by simp [go_sem, MB.nmb, nmbL, PV.nmb]) ?_
  rintro ⟨⟨l, p⟩, m⟩ K ⟨hl, h0, h1, h2, h3⟩ hK
  dsimp only at *
  unfold entry
  simp only [mkM, rdB] at *
  repeat' (first | (refine qwd fun K hk => ?_; simp only [lvR4_115, mkT, go_sem, ↓upd_def, ↓evT, ↓aop, ↓aopc, ↓aopd, Nat.reduceEqDiff, Nat.reduceAdd, Nat.reduceLeDiff, Nat.reduceLT, Nat.reduceSub, Int.reduceToNat, ↓reduceIte, reduceCtorEq, exl, enc_nil, enc_snoc0, enc_snoc1, enc_snoc, encPs_iff, wtL_append, wtL_one, wtP_mk, wtL_nil]; apply hk; clear hk K) | refine qw8 ?_ | refine qw1 ?_ | refine qwc lvR4_115 ?_ | refine qt1 ?_ | refine qw5 ?_ | refine qw2 ?_ | refine qw9 ?_ | refine qt2 ?_ | refine qt3 ?_ | refine qt4 ?_ | refine qt5 ?_ | refine qt6 ?_ | refine qw3 ?_ | refine qw4 ?_ | refine qj1 ?_ | refine qj2 ?_ | refine qj3 ?_ | refine qj4 ?_ | refine qj5 ?_ | refine qu1 ?_ | refine qu2 ?_ | refine qne ?_ | refine qyn ?_ | refine qyz ?_ | refine qy0 ?_ | refine qnt rfl rfl ?_ | refine qnf rfl rfl ?_ | refine qyc rfl ?_ | refine qy1 rfl ?_ | refine qy2 rfl ?_ ?_ | ((first | refine qa1 fun K hk => ?_ | refine qa2 fun K hk => ?_ | refine qa3 fun K hk => ?_ | refine qh1 fun K hk => ?_ | refine qh2 fun K hk => ?_ | refine qm1 fun K hk => ?_ | refine qm2 fun K hk => ?_ | refine qm3 fun K hk => ?_); simp only [go_sem, ↓upd_def, ↓evT, ↓aop, ↓aopc, ↓aopd, Nat.reduceEqDiff, Nat.reduceAdd, Nat.reduceLeDiff, Nat.reduceLT, Nat.reduceSub, Int.reduceToNat, ↓reduceIte, reduceCtorEq, exl, enc_nil, enc_snoc0, enc_snoc1, enc_snoc, encPs_iff, wtL_append, wtL_one, wtP_mk, wtL_nil]; (repeat (refine And.intro ?_ ?_; focus (first | omega | assumption | with_reducible rfl | (simp only [go_sem, ↓upd_def, ↓evT, ↓aop, ↓aopc, ↓aopd, Nat.reduceEqDiff, Nat.reduceAdd, Nat.reduceLeDiff, Nat.reduceLT, Nat.reduceSub, Int.reduceToNat, ↓reduceIte, reduceCtorEq, exl, enc_nil, enc_snoc0, enc_snoc1, enc_snoc, encPs_iff, wtL_append, wtL_one, wtP_mk, wtL_nil]; done)))); intros; apply hk; clear hk K) | ((first | apply qg1 rfl | apply qcd); focus (simp only [go_sem, ↓upd_def, ↓evT, ↓aop, ↓aopc, ↓aopd, Nat.reduceEqDiff, Nat.reduceAdd, Nat.reduceLeDiff, Nat.reduceLT, Nat.reduceSub, Int.reduceToNat, ↓reduceIte, reduceCtorEq, exl, enc_nil, enc_snoc0, enc_snoc1, enc_snoc, encPs_iff, wtL_append, wtL_one, wtP_mk, wtL_nil]; exact rfl)) | (refine qj6 ?_ ?_ <;> intro hc <;> (try simp only [hc]) <;> (try simp only [decide_eq_true_eq, decide_eq_false_iff_not, Bool.not_eq_true', Bool.not_eq_false', Bool.not_eq_true, reduceCtorEq] at hc) <;> (try (exfalso; omega))) | (refine qk1 ?_ ?_; focus (repeat (first | exact qsub0 | (refine qsub1 ?_ ?_; focus (simp only [go_sem, ↓upd_def, ↓evT, ↓aop, ↓aopc, ↓aopd, Nat.reduceEqDiff, Nat.reduceAdd, Nat.reduceLeDiff, Nat.reduceLT, Nat.reduceSub, Int.reduceToNat, ↓reduceIte, reduceCtorEq, exl, enc_nil, enc_snoc0, enc_snoc1, enc_snoc, encPs_iff, wtL_append, wtL_one, wtP_mk, wtL_nil]))))) | (refine qt7 ?_ ?_; focus decide) | (refine qw7 ?_ ?_ ?_; (focus (decide +kernel)); (focus (decide +kernel))))
  · rename List PartD => y9
    ((first | refine fin_V ?_ | refine fin_Ve ?_ | refine fin_O ?_ | refine fin_Oe ?_ | refine fin_X ?_ | refine fin_Xe ?_); simp only [go_sem, PV.own.injEq, MB.row.injEq, MB.nmb, not_false_eq_true, ne_eq, ↓upd_def, Nat.reduceEqDiff, Nat.reduceAdd, ↓reduceIte, reduceCtorEq])
    exact hK _ _ ⟨y9, _, by simp [encPs_append, encPs_one, encP_mk, encPs_nil, encPs_two], rfl, by (try simp only [wtL_append, wtL_one, wtP_mk, wtL_nil, wtL_two, List.length_nil, List.length_cons]); omega, by omega, by omega⟩
  · rename List PartD => y9
    ((first | refine fin_V ?_ | refine fin_Ve ?_ | refine fin_O ?_ | refine fin_Oe ?_ | refine fin_X ?_ | refine fin_Xe ?_); simp only [go_sem, PV.own.injEq, MB.row.injEq, MB.nmb, not_false_eq_true, ne_eq, ↓upd_def, Nat.reduceEqDiff, Nat.reduceAdd, ↓reduceIte, reduceCtorEq])
    exact hK _ _ ⟨y9, _, by simp [encPs_append, encPs_one, encP_mk, encPs_nil, encPs_two], rfl, by (try simp only [wtL_append, wtL_one, wtP_mk, wtL_nil, wtL_two, List.length_nil, List.length_cons]); omega, by omega, by omega⟩
  · rename List PartD => y9
    ((first | refine fin_V ?_ | refine fin_Ve ?_ | refine fin_O ?_ | refine fin_Oe ?_ | refine fin_X ?_ | refine fin_Xe ?_); simp only [go_sem, PV.own.injEq, MB.row.injEq, MB.nmb, not_false_eq_true, ne_eq, ↓upd_def, Nat.reduceEqDiff, Nat.reduceAdd, ↓reduceIte, reduceCtorEq])
    exact hK _ _ ⟨y9, _, by simp [encPs_append, encPs_one, encP_mk, encPs_nil, encPs_two], rfl, by (try simp only [wtL_append, wtL_one, wtP_mk, wtL_nil, wtL_two, List.length_nil, List.length_cons]); omega, by omega, by omega⟩
  · rename List PartD => y9
    ((first | refine fin_V ?_ | refine fin_Ve ?_ | refine fin_O ?_ | refine fin_Oe ?_ | refine fin_X ?_ | refine fin_Xe ?_); simp only [go_sem, PV.own.injEq, MB.row.injEq, MB.nmb, not_false_eq_true, ne_eq, ↓upd_def, Nat.reduceEqDiff, Nat.reduceAdd, ↓reduceIte, reduceCtorEq])
    exact hK _ _ ⟨y9 ++ [.mk 3 [] [102, 108, 97, 103] [.mk 1 [60, 97, 32, 116, 105, 116, 108, 101, 61, 34] [] [] []] [.mk 1 [60, 98, 32, 116, 105, 116, 108, 101, 61, 34] [] [] []]], _, by simp [encPs_append, encPs_one, encP_mk, encPs_nil, encPs_two], rfl, by (try simp only [wtL_append, wtL_one, wtP_mk, wtL_nil, wtL_two, List.length_nil, List.length_cons]); omega, by omega, by omega⟩
  · rename List PartD => y9
    ((first | refine fin_V ?_ | refine fin_Ve ?_ | refine fin_O ?_ | refine fin_Oe ?_ | refine fin_X ?_ | refine fin_Xe ?_); simp only [go_sem, PV.own.injEq, MB.row.injEq, MB.nmb, not_false_eq_true, ne_eq, ↓upd_def, Nat.reduceEqDiff, Nat.reduceAdd, ↓reduceIte, reduceCtorEq])
    exact hK _ _ ⟨y9 ++ [.mk 4 [] [108, 105, 115, 116] [.mk 1 [60, 97, 32, 116, 105, 116, 108, 101, 61, 34] [] [] []] []], _, by simp [encPs_append, encPs_one, encP_mk, encPs_nil, encPs_two], rfl, by (try simp only [wtL_append, wtL_one, wtP_mk, wtL_nil, wtL_two, List.length_nil, List.length_cons]); omega, by omega, by omega⟩
  · rename List PartD => y9
    ((first | refine fin_V ?_ | refine fin_Ve ?_ | refine fin_O ?_ | refine fin_Oe ?_ | refine fin_X ?_ | refine fin_Xe ?_); simp only [go_sem, PV.own.injEq, MB.row.injEq, MB.nmb, not_false_eq_true, ne_eq, ↓upd_def, Nat.reduceEqDiff, Nat.reduceAdd, ↓reduceIte, reduceCtorEq])
    exact hK _ _ ⟨y9 ++ [.mk 1 [97, 123, 123, 98] [] [] []], _, by simp [encPs_append, encPs_one, encP_mk, encPs_nil, encPs_two], rfl, by (try simp only [wtL_append, wtL_one, wtP_mk, wtL_nil, wtL_two, List.length_nil, List.length_cons]); omega, by omega, by omega⟩
  · (refine qa1 fun K hk => ?_; apply qload 3; (focus (simp only [go_sem, ↓upd_def, ↓evT, Nat.reduceEqDiff, Nat.reduceAdd, Nat.reduceLeDiff, Nat.reduceLT, Nat.reduceSub, Int.reduceToNat, ↓reduceIte, reduceCtorEq]; exact rfl)); (focus (simp only [go_sem, ↓upd_def, ↓evT, Nat.reduceEqDiff, Nat.reduceAdd, Nat.reduceLeDiff, Nat.reduceLT, Nat.reduceSub, Int.reduceToNat, ↓reduceIte, reduceCtorEq]; exact rfl)); (focus (simp only [go_sem])); (focus (simp only [List.length_cons, List.length_nil]; omega)); (focus kernel_rfl); intro tx htx; apply hk; clear hk K)
    repeat' (first | (refine qwd fun K hk => ?_; simp only [lvR4_115, mkT, go_sem, ↓upd_def, ↓evT, ↓aop, ↓aopc, ↓aopd, Nat.reduceEqDiff, Nat.reduceAdd, Nat.reduceLeDiff, Nat.reduceLT, Nat.reduceSub, Int.reduceToNat, ↓reduceIte, reduceCtorEq, exl]; apply hk; clear hk K) | refine qw8 ?_ | refine qw1 ?_ | refine qwc lvR4_115 ?_ | refine qt1 ?_ | refine qw5 ?_ | refine qw2 ?_ | refine qw9 ?_ | refine qt2 ?_ | refine qt3 ?_ | refine qt4 ?_ | refine qt5 ?_ | refine qt6 ?_ | refine qw3 ?_ | refine qw4 ?_ | refine qj1 ?_ | refine qj2 ?_ | refine qj3 ?_ | refine qj4 ?_ | refine qj5 ?_ | refine qu1 ?_ | refine qu2 ?_ | refine qne ?_ | refine qyn ?_ | refine qyz ?_ | refine qy0 ?_ | refine qnt rfl rfl ?_ | refine qnf rfl rfl ?_ | refine qyc rfl ?_ | refine qy1 rfl ?_ | refine qy2 rfl ?_ ?_ | ((first | refine qa1 fun K hk => ?_ | refine qa2 fun K hk => ?_ | refine qa3 fun K hk => ?_ | refine qh1 fun K hk => ?_ | refine qh2 fun K hk => ?_ | refine qm1 fun K hk => ?_ | refine qm2 fun K hk => ?_ | refine qm3 fun K hk => ?_); simp only [go_sem, ↓upd_def, ↓evT, ↓aop, ↓aopc, ↓aopd, Nat.reduceEqDiff, Nat.reduceAdd, Nat.reduceLeDiff, Nat.reduceLT, Nat.reduceSub, Int.reduceToNat, ↓reduceIte, reduceCtorEq, exl]; (repeat (refine And.intro ?_ ?_; focus (first | omega | assumption | with_reducible rfl | (simp only [go_sem, ↓upd_def, ↓evT, ↓aop, ↓aopc, ↓aopd, Nat.reduceEqDiff, Nat.reduceAdd, Nat.reduceLeDiff, Nat.reduceLT, Nat.reduceSub, Int.reduceToNat, ↓reduceIte, reduceCtorEq, exl]; done)))); intros; apply hk; clear hk K) | ((first | apply qg1 rfl | apply qcd); focus (simp only [go_sem, ↓upd_def, ↓evT, ↓aop, ↓aopc, ↓aopd, Nat.reduceEqDiff, Nat.reduceAdd, Nat.reduceLeDiff, Nat.reduceLT, Nat.reduceSub, Int.reduceToNat, ↓reduceIte, reduceCtorEq, exl]; exact rfl)) | (refine qj6 ?_ ?_ <;> intro hc <;> (try simp only [hc]) <;> (try simp only [decide_eq_true_eq, decide_eq_false_iff_not, Bool.not_eq_true', Bool.not_eq_false', Bool.not_eq_true, reduceCtorEq] at hc) <;> (try (exfalso; omega))) | (refine qk1 ?_ ?_; focus (repeat (first | exact qsub0 | (refine qsub1 ?_ ?_; focus (simp only [go_sem, ↓upd_def, ↓evT, ↓aop, ↓aopc, ↓aopd, Nat.reduceEqDiff, Nat.reduceAdd, Nat.reduceLeDiff, Nat.reduceLT, Nat.reduceSub, Int.reduceToNat, ↓reduceIte, reduceCtorEq, exl]))))) | (refine qt7 ?_ ?_; focus decide) | (refine qw7 ?_ ?_ ?_; (focus (decide +kernel)); (focus (decide +kernel))))
    rename List PartD => y9
    ((first | refine fin_V ?_ | refine fin_Ve ?_ | refine fin_O ?_ | refine fin_Oe ?_ | refine fin_X ?_ | refine fin_Xe ?_); simp only [go_sem, PV.own.injEq, MB.row.injEq, MB.nmb, not_false_eq_true, ne_eq, ↓upd_def, Nat.reduceEqDiff, Nat.reduceAdd, ↓reduceIte, reduceCtorEq])
    exact hK _ _ ⟨y9 ++ [.mk 2 [] tx [] []], _, by simp [encPs_append, encPs_one, encP_mk, encPs_nil, encPs_two], rfl, by (try simp only [wtL_append, wtL_one, wtP_mk, wtL_nil, wtL_two, List.length_nil, List.length_cons]); omega, by omega, by omega⟩
  · rename List PartD => y9
    ((first | refine fin_V ?_ | refine fin_Ve ?_ | refine fin_O ?_ | refine fin_Oe ?_ | refine fin_X ?_ | refine fin_Xe ?_); simp only [go_sem, PV.own.injEq, MB.row.injEq, MB.nmb, not_false_eq_true, ne_eq, ↓upd_def, Nat.reduceEqDiff, Nat.reduceAdd, ↓reduceIte, reduceCtorEq])
    exact hK _ _ ⟨y9 ++ [.mk 5 [] [] [] []], _, by simp [encPs_append, encPs_one, encP_mk, encPs_nil, encPs_two], rfl, by (try simp only [wtL_append, wtL_one, wtP_mk, wtL_nil, wtL_two, List.length_nil, List.length_cons]); omega, by omega, by omega⟩
  · rename List PartD => y9
    ((first | refine fin_V ?_ | refine fin_Ve ?_ | refine fin_O ?_ | refine fin_Oe ?_ | refine fin_X ?_ | refine fin_Xe ?_); simp only [go_sem, PV.own.injEq, MB.row.injEq, MB.nmb, not_false_eq_true, ne_eq, ↓upd_def, Nat.reduceEqDiff, Nat.reduceAdd, ↓reduceIte, reduceCtorEq])
    exact hK _ _ ⟨y9 ++ [.mk 1 [] [] [] [], .mk 4 [] [120] [] [.mk 2 [] [97] [] []]], _, by simp [encPs_append, encPs_one, encP_mk, encPs_nil, encPs_two], rfl, by (try simp only [wtL_append, wtL_one, wtP_mk, wtL_nil, wtL_two, List.length_nil, List.length_cons]); omega, by omega, by omega⟩
  · rename List PartD => y9
    ((first | refine fin_V ?_ | refine fin_Ve ?_ | refine fin_O ?_ | refine fin_Oe ?_ | refine fin_X ?_ | refine fin_Xe ?_); simp only [go_sem, PV.own.injEq, MB.row.injEq, MB.nmb, not_false_eq_true, ne_eq, ↓upd_def, Nat.reduceEqDiff, Nat.reduceAdd, ↓reduceIte, reduceCtorEq])
    exact hK _ _ ⟨y9, _, by simp [encPs_append, encPs_one, encP_mk, encPs_nil, encPs_two], rfl, by (try simp only [wtL_append, wtL_one, wtP_mk, wtL_nil, wtL_two, List.length_nil, List.length_cons]); omega, by omega, by omega⟩
theorem tpl_ok : ACok Try.prog 115 (tplC 5000 1000) := tpl_of tpl_ok0
end Go.Proofs.Ytcagfbgplpokkaa
