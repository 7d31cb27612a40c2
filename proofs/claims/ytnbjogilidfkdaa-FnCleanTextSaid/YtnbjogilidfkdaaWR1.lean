/- Contracts: the reader of drawn inputs. -/
import Derived.Test.YtnbjogilidfkdaaWX1
import Derived.Test.YtnbjogilidfkdaaWD1

namespace Go.Proofs.Ytnbjogilidfkdaa
attribute [local irreducible] awp arun acalm FinP Fin AX.then AX.inBlock Again aG gsel amix amixN amixC aop aopc aopd cutK
attribute [local go_sem] aBSliceD aSlice aSliceC boundOf aMk aCall aCallC aLenL aLen aPick_t aPick_f aNil aAlloc aBox aBuild bldPV aBSlice bsPV aApp newsOf destOf drp aConvX aConv aConvInt aLoad cellsAt aStore cellsPV setAt aFld aField aIdx aIndex aUn aBin' aBin aMax aExtract pvOf PV.isCell nmbL PV.nmb List.map_cons List.map_nil List.all_cons List.all_nil Bool.and_true Bool.true_and if_true if_false List.getD_cons_zero List.getD_cons_succ List.getD_nil Option.isSome_some true_and and_true and_self eq_self true_or or_true List.drop_zero List.drop_succ_cons List.drop_nil List.take_zero List.take_succ_cons List.take_nil List.length_cons List.length_nil List.length_map Option.getD_some Option.getD_none List.nil_append List.cons_append List.append_nil Option.some.injEq exists_eq_left' List.getElem?_cons_zero List.getElem?_cons_succ Int.toNat_natCast Int.natCast_inj toNat_succ Nat.zero_add res res1 resC owns owns1 ownsC List.flatMap_cons List.flatMap_nil List.flatten_cons List.flatten_nil List.mem_cons List.not_mem_nil or_false false_or forall_eq forall_eq_or_imp isFro frz frz1 pureC tabA isBld List.cons.injEq PV.seq.injEq PV.int.injEq PV.str.injEq PV.bool.injEq PV.agg.injEq inR tab Γof aRes packR Option.map_some Option.map_none rel Prod.exists exists_and_left exists_eq_left and_assoc beq_self_eq_true Bool.not_true Bool.not_false decide_true decide_false List.set_cons_zero List.set_cons_succ rst_nil rst_cons
attribute [local go_sem ↓] evT upd_def aop aopc aopd
set_option maxRecDepth 100000
set_option linter.unusedVariables false
set_option linter.unusedSimpArgs false
open Go.RowKit
def lv77 : Nat → List Nat
  | 0 => [0, 1]
  | 1 => [0, 1]
  | 2 => [0, 1, 24]
  | 3 => [4]
  | 4 => [0, 1, 5]
  | 5 => [0, 1, 5, 36]
  | 6 => [4]
  | 7 => [1, 6]
  | 8 => [1, 6]
  | 9 => [4]
  | _ => []
/-- A reader over l, at p. -/
def rdB (l : Bs) (p : Int) : MB := .box [.seq (l.map bc), .int .i64 p]
@[go_sem] theorem rdB_def (l : Bs) (p : Int) : rdB l p = .box [.seq (l.map bc), .int .i64 p] := rfl
theorem bc_get (l : Bs) (k : Nat) : (l.map bc)[k]? = (l[k]?).map bc := by simp
theorem get_getD {l : Bs} {k : Nat} (h : k < l.length) : l[k]? = some (l.getD k 0) := by rw [getD_lt h]; exact List.getElem?_eq_getElem h
@[go_sem] def pickC0 : AC := locV (α := (Bs × Int) × Int) (fun x => [.int .i64 x.2]) (fun x => rdB x.1.1 x.1.2) (fun x => x.1.1.length ≤ 2000 ∧ 0 ≤ x.1.2 ∧ x.1.2 ≤ 1000000 ∧ x.2 ≤ 1000) (fun x r b' => b' = rdB x.1.1 (x.1.2 + 1) ∧ ∃ k : Int, r = .int .i64 k ∧ 0 ≤ k ∧ (k = 0 ∨ k < x.2))
set_option maxHeartbeats 8000000 in
theorem pick_ok0 : ACok Try.prog 77 pickC0 := by
  refine locV_ok 2 (tabA_nil (Γof_ok tab_nil)) tab_nil mixed [.tmp 4] Try.func77 rfl rfl (by kernel_rfl) (by kernel_rfl) (fun _ => rfl) (by kernel_rfl) (fun x => by simp [nmbL, PV.nmb]) (fun x => by simp [go_sem, MB.nmb, nmbL, PV.nmb]) ?_
  rintro ⟨⟨l, p⟩, m⟩ K ⟨hl, h0, h1, hm⟩ hK
  dsimp only at *
  obtain ⟨q, rfl⟩ := Int.eq_ofNat_of_zero_le h0
  have hfin : ∀ a : Nat, ¬ m < 1 → K (.int .i64 ((a : Int) % m)) (rdB l ((q : Int) + 1)) := fun a hm1 => hK _ _ ⟨rfl, _, rfl, Int.emod_nonneg _ (by omega), .inr (Int.emod_lt_of_pos _ (by omega))⟩
  have hfin0 : K (.int .i64 0) (rdB l ((q : Int) + 1)) := hK _ _ ⟨rfl, _, rfl, by omega, .inl rfl⟩
  clear hK
  by_cases hl0 : l = []
  · subst hl0
    unfold entry
    simp only [mkM, rdB, List.map_nil] at *
    repeat' (first | ((first | apply qwd | apply qa1 | apply qa2 | apply qa3 | apply qh1 | apply qh2 | apply qg1 rfl | apply qcd); (try intro K hk); focus (simp only [lv77, mkT, go_sem, Nat.reduceEqDiff, Nat.reduceAdd, Nat.reduceLeDiff, Nat.reduceLT, Nat.reduceSub, Int.reduceToNat, ↓reduceIte, reduceCtorEq]; first | exact rfl | ((repeat (refine And.intro ?_ ?_; focus (first | omega | assumption | with_reducible rfl))); intros; apply hk; clear hk K))) | apply qw8 | apply qw1 | refine qwc lv77 ?_ | apply qt1 | apply qw5 | apply qw2 | apply qw9 | apply qt2 | apply qt3 | apply qt4 | apply qt5 | apply qt6 | apply qw3 | apply qw4 | apply qj1 | apply qj2 | apply qj3 | apply qj4 | apply qj5 | apply qu1 | apply qu2 | (refine qj6 ?_ ?_ <;> intro hc <;> (try simp only [hc]) <;> (try simp only [decide_eq_true_eq, decide_eq_false_iff_not, Bool.not_eq_true', Bool.not_eq_false', Bool.not_eq_true, reduceCtorEq] at hc) <;> (try (exfalso; omega))) | (refine qt7 ?_ ?_; focus decide) | (refine qw7 ?_ ?_ ?_; (focus (decide +kernel)); (focus (decide +kernel))))
    all_goals
      ((first | refine fin_V ?_ | refine fin_Ve ?_ | refine fin_O ?_ | refine fin_Oe ?_ | refine fin_X ?_ | refine fin_Xe ?_ | refine fin_B ?_ | refine fin_Be ?_); simp only [go_sem, PV.own.injEq, MB.row.injEq, MB.nmb, not_false_eq_true, ne_eq, ↓upd_def, Nat.reduceEqDiff, Nat.reduceAdd, ↓reduceIte, reduceCtorEq])
      exact hfin0
  have hlp : 0 < l.length := List.length_pos_iff.2 hl0
  by_cases hq : q < l.length
  · have hg := get_getD hq
    have hb := byte_lt l q
    unfold entry
    simp only [mkM, rdB] at *
    repeat' (first | ((first | apply qwd | apply qa1 | apply qa2 | apply qa3 | apply qh1 | apply qh2 | apply qg1 rfl | apply qcd); (try intro K hk); focus (simp only [lv77, mkT, go_sem, Nat.reduceEqDiff, Nat.reduceAdd, Nat.reduceLeDiff, Nat.reduceLT, Nat.reduceSub, Int.reduceToNat, ↓reduceIte, reduceCtorEq, Int.add_sub_cancel, bc_get, hg, bc]; first | exact rfl | ((repeat (refine And.intro ?_ ?_; focus (first | omega | assumption | with_reducible rfl))); intros; apply hk; clear hk K))) | apply qw8 | apply qw1 | refine qwc lv77 ?_ | apply qt1 | apply qw5 | apply qw2 | apply qw9 | apply qt2 | apply qt3 | apply qt4 | apply qt5 | apply qt6 | apply qw3 | apply qw4 | apply qj1 | apply qj2 | apply qj3 | apply qj4 | apply qj5 | apply qu1 | apply qu2 | (refine qj6 ?_ ?_ <;> intro hc <;> (try simp only [hc]) <;> (try simp only [decide_eq_true_eq, decide_eq_false_iff_not, Bool.not_eq_true', Bool.not_eq_false', Bool.not_eq_true, reduceCtorEq] at hc) <;> (try (exfalso; omega))) | (refine qt7 ?_ ?_; focus decide) | (refine qw7 ?_ ?_ ?_; (focus (decide +kernel)); (focus (decide +kernel))))
    all_goals
      ((first | refine fin_V ?_ | refine fin_Ve ?_ | refine fin_O ?_ | refine fin_Oe ?_ | refine fin_X ?_ | refine fin_Xe ?_ | refine fin_B ?_ | refine fin_Be ?_); simp only [go_sem, PV.own.injEq, MB.row.injEq, MB.nmb, not_false_eq_true, ne_eq, ↓upd_def, Nat.reduceEqDiff, Nat.reduceAdd, ↓reduceIte, reduceCtorEq])
      first | exact hfin0 | (refine hfin _ ?_; assumption)
  · have hm1 : q % l.length < l.length := Nat.mod_lt _ hlp
    have hm2 : (q * 7 + 3) % l.length < l.length := Nat.mod_lt _ hlp
    have e1 : ((q : Int) % (l.length : Int)).toNat = q % l.length := by rw [← Int.natCast_emod]; rfl
    have e2 : (((q : Int) * 7 + 3) % (l.length : Int)).toNat = (q * 7 + 3) % l.length := by
      have : ((q : Int) * 7 + 3) = ((q * 7 + 3 : Nat) : Int) := by omega
      rw [this, ← Int.natCast_emod]; rfl
    have g1 := get_getD hm1
    have g2 := get_getD hm2
    have b1 := byte_lt l (q % l.length)
    have b2 := byte_lt l ((q * 7 + 3) % l.length)
    have d1 : 0 ≤ (q : Int) / (l.length : Int) := Int.ediv_nonneg (by omega) (by omega)
    have d2 : (q : Int) / (l.length : Int) ≤ q := Int.ediv_le_self _ (by omega)
    have m1 : 0 ≤ (q : Int) % (l.length : Int) := Int.emod_nonneg _ (by omega)
    have m2 : 0 ≤ ((q : Int) * 7 + 3) % (l.length : Int) := Int.emod_nonneg _ (by omega)
    unfold entry
    simp only [mkM, rdB] at *
    repeat' (first | ((first | apply qwd | apply qa1 | apply qa2 | apply qa3 | apply qh1 | apply qh2 | apply qg1 rfl | apply qcd); (try intro K hk); focus (simp only [lv77, mkT, go_sem, Nat.reduceEqDiff, Nat.reduceAdd, Nat.reduceLeDiff, Nat.reduceLT, Nat.reduceSub, Int.reduceToNat, ↓reduceIte, reduceCtorEq, Int.add_sub_cancel, bc_get, g1, g2, e1, e2, bc]; first | exact rfl | ((repeat (refine And.intro ?_ ?_; focus (first | omega | assumption | with_reducible rfl))); intros; apply hk; clear hk K))) | apply qw8 | apply qw1 | refine qwc lv77 ?_ | apply qt1 | apply qw5 | apply qw2 | apply qw9 | apply qt2 | apply qt3 | apply qt4 | apply qt5 | apply qt6 | apply qw3 | apply qw4 | apply qj1 | apply qj2 | apply qj3 | apply qj4 | apply qj5 | apply qu1 | apply qu2 | (refine qj6 ?_ ?_ <;> intro hc <;> (try simp only [hc]) <;> (try simp only [decide_eq_true_eq, decide_eq_false_iff_not, Bool.not_eq_true', Bool.not_eq_false', Bool.not_eq_true, reduceCtorEq] at hc) <;> (try (exfalso; omega))) | (refine qt7 ?_ ?_; focus decide) | (refine qw7 ?_ ?_ ?_; (focus (decide +kernel)); (focus (decide +kernel))))
    all_goals
      ((first | refine fin_V ?_ | refine fin_Ve ?_ | refine fin_O ?_ | refine fin_Oe ?_ | refine fin_X ?_ | refine fin_Xe ?_ | refine fin_B ?_ | refine fin_Be ?_); simp only [go_sem, PV.own.injEq, MB.row.injEq, MB.nmb, not_false_eq_true, ne_eq, ↓upd_def, Nat.reduceEqDiff, Nat.reduceAdd, ↓reduceIte, reduceCtorEq])
      first | exact hfin0 | (refine hfin _ ?_; assumption)
@[go_sem] def pickC : AC := fun args mem n K => match args with
  | [.ref i o, .int .i64 m] => (match mem i with
    | some (.box [.seq es, .int .i64 p]) => o = 0 ∧ (∃ l : Bs, es = l.map bc ∧ l.length ≤ 2000) ∧ 0 ≤ p ∧ p ≤ 1000000 ∧ m ≤ 1000 ∧ ∀ k : Int, 0 ≤ k → (k = 0 ∨ k < m) → K (.int .i64 k) (upd mem i (some (.box [.seq es, .int .i64 (p + 1)]))) n
    | _ => False)
  | _ => False
theorem ACok.mono {P : Program} {f : FuncId} {C C' : AC} (h : ACok P f C) (hc : ∀ args mem n K, C' args mem n K → C args mem n K) : ACok P f C' :=
  ⟨h.fn, fun c mem n args vs K hI hn hr hC => h.run c mem n args vs K hI hn hr (hc args mem n K hC)⟩
theorem pick_ok : ACok Try.prog 77 pickC := pick_ok0.mono fun args mem n K h => by
  unfold pickC at h
  split at h
  · rename_i i o m
    split at h
    · rename_i es p hm
      obtain ⟨rfl, ⟨l, rfl, hl⟩, h0, h1, h2, hK⟩ := h
      refine ⟨((l, p), m), i, rfl, ⟨hl, h0, h1, h2⟩, hm, ?_⟩
      rintro r b' ⟨rfl, k, rfl, k0, k1⟩
      exact hK k k0 k1
    · exact h.elim
  · exact h.elim
theorem exl {α : Type} {p : α → Prop} {a : α} : (∃ x, a = x ∧ p x) ↔ p a := ⟨fun ⟨_, rfl, h⟩ => h, fun h => ⟨a, rfl, h⟩⟩
/-- A text of at most so many bytes. -/
def isTxt (B : Nat) : List PV → Bool
  | [.str l] => Nat.ble l.length B
  | _ => false
theorem isTxt_get {B : Nat} {es : List (List PV)} {k : Nat} (h : es.all (isTxt B) = true) (hk : k < es.length) : ∃ l : Bs, es[k]? = some [.str l] ∧ l.length ≤ B := by
  rw [List.all_eq_true] at h
  have := h es[k] (List.getElem_mem hk)
  unfold isTxt at this
  split at this
  · rename_i l hl
    exact ⟨l, by rw [List.getElem?_eq_getElem hk, hl], Nat.le_of_ble_eq_true this⟩
  · cases this
/-- One of some texts is loaded. -/
theorem qload {P : Program} {Γ : Ctr} {ev : Operand → PV} {t : TypeId} {x : Operand} {mem : Mem} {nx i k s : Nat} {e : TypeId} {es : List (List PV)} {K : PV → Mem → Nat → Prop} (B : Nat) (hx : ev x = .rref i k s 0) (hm : mem i = some (.row e s es)) (ha : aggOf P t = some none) (hk : k < es.length) (hB : es.all (isTxt B) = true)
    (h : ∀ l : Bs, l.length ≤ B → K (.str l) mem nx) : aop P Γ ev (.load t x) mem nx K := by
  obtain ⟨l, h1, h2⟩ := isTxt_get hB hk
  simp only [aop]
  rw [hx]
  unfold aLoad
  rw [ha]
  simp only [cellsAt, hm, if_true, h1, Option.map_some, List.drop_zero]
  exact h l h2
@[go_sem] def oddC0 : AC := locV (α := (Bs × Int) × Int) (fun x => [.int .i64 x.2]) (fun x => rdB x.1.1 x.1.2) (fun x => x.1.1.length ≤ 2000 ∧ 0 ≤ x.1.2 ∧ x.1.2 ≤ 1000000 ∧ 0 ≤ x.2 ∧ x.2 ≤ 1000) (fun x r b' => ∃ b : Bool, r = .bool b ∧ b' = rdB x.1.1 (if 0 < x.2 then x.1.2 + 1 else x.1.2) ∧ (x.2 = 0 → b = false))
set_option maxHeartbeats 8000000 in
theorem odd_ok0 : ACok Try.prog 82 oddC0 := by
  refine locV_ok 2 (tabA_cons pick_ok (tabA_nil (Γof_ok tab_nil))) tab_nil mixed [.tmp 4] Try.func82 rfl rfl (by kernel_rfl) (by kernel_rfl) (fun _ => rfl) (by kernel_rfl) (fun x => by simp [nmbL, PV.nmb]) (fun x => by simp [go_sem, MB.nmb, nmbL, PV.nmb]) ?_
  rintro ⟨⟨l, p⟩, m⟩ K ⟨hl, h0, h1, h2, hm⟩ hK
  dsimp only at *
  unfold entry
  simp only [mkM, rdB] at *
  repeat' (first | ((first | apply qa1 | apply qa2 | apply qa3 | apply qh1 | apply qh2 | apply qg1 rfl | apply qcd); (try intro K hk); focus (simp only [go_sem, Nat.reduceEqDiff, Nat.reduceAdd, Nat.reduceLeDiff, Nat.reduceLT, Nat.reduceSub, Int.reduceToNat, ↓reduceIte, reduceCtorEq, exl]; first | exact rfl | ((repeat (refine And.intro ?_ ?_; focus (first | omega | assumption | with_reducible rfl))); intros; apply hk; clear hk K))) | apply qw8 | apply qw1 | apply qw6 | apply qt1 | apply qw5 | apply qw2 | apply qw9 | apply qt2 | apply qt3 | apply qt4 | apply qt5 | apply qt6 | apply qw3 | apply qw4 | apply qj1 | apply qj2 | apply qj3 | apply qj4 | apply qj5 | apply qu1 | apply qu2 | (refine qj6 ?_ ?_ <;> intro hc <;> (try simp only [hc]) <;> (try simp only [decide_eq_true_eq, decide_eq_false_iff_not, Bool.not_eq_true', Bool.not_eq_false', Bool.not_eq_true, reduceCtorEq] at hc) <;> (try (exfalso; omega))) | (refine qt7 ?_ ?_; focus decide) | (refine qw7 ?_ ?_ ?_; (focus (decide +kernel)); (focus (decide +kernel))))
  · ((first | refine fin_V ?_ | refine fin_Ve ?_ | refine fin_O ?_ | refine fin_Oe ?_ | refine fin_X ?_ | refine fin_Xe ?_ | refine fin_B ?_ | refine fin_Be ?_); simp only [go_sem, PV.own.injEq, MB.row.injEq, MB.nmb, not_false_eq_true, ne_eq, ↓upd_def, Nat.reduceEqDiff, Nat.reduceAdd, ↓reduceIte, reduceCtorEq])
    refine hK _ _ ⟨_, rfl, ?_, ?_⟩
    · rw [if_pos hc]
    · intro h; omega
  · ((first | refine fin_V ?_ | refine fin_Ve ?_ | refine fin_O ?_ | refine fin_Oe ?_ | refine fin_X ?_ | refine fin_Xe ?_ | refine fin_B ?_ | refine fin_Be ?_); simp only [go_sem, PV.own.injEq, MB.row.injEq, MB.nmb, not_false_eq_true, ne_eq, ↓upd_def, Nat.reduceEqDiff, Nat.reduceAdd, ↓reduceIte, reduceCtorEq])
    refine hK _ _ ⟨_, rfl, ?_, fun _ => rfl⟩
    rw [if_neg hc]
@[go_sem] def oddC : AC := fun args mem n K => match args with
  | [.ref i o, .int .i64 m] => (match mem i with
    | some (.box [.seq es, .int .i64 p]) => o = 0 ∧ (∃ l : Bs, es = l.map bc ∧ l.length ≤ 2000) ∧ 0 ≤ p ∧ p ≤ 1000000 ∧ 0 ≤ m ∧ m ≤ 1000 ∧ ∀ (b : Bool) (p' : Int), p ≤ p' → p' ≤ p + 1 → (m = 0 → b = false) → K (.bool b) (upd mem i (some (.box [.seq es, .int .i64 p']))) n
    | _ => False)
  | _ => False
theorem odd_ok : ACok Try.prog 82 oddC := odd_ok0.mono fun args mem n K h => by
  unfold oddC at h
  split at h
  · rename_i i o m
    split at h
    · rename_i es p hm
      obtain ⟨rfl, ⟨l, rfl, hl⟩, h0, h1, h2, h3, hK⟩ := h
      refine ⟨((l, p), m), i, rfl, ⟨hl, h0, h1, h2, h3⟩, hm, ?_⟩
      rintro r b' ⟨b, rfl, rfl, hb⟩
      refine hK b _ ?_ ?_ hb <;> dsimp only <;> split <;> omega
    · exact h.elim
  · exact h.elim
@[go_sem] def openC : AC := fun args mem n K => match args with
  | [.seq es] => (∃ l : Bs, es = l.map bc ∧ l.length ≤ 1048576) ∧ ∀ l' : Bs, l'.length ≤ 2000 → K (.ref n 0) (upd mem n (some (.box [.seq (l'.map bc), .int .i64 0]))) (n + 1)
  | _ => False
theorem open_ok : ACok Try.prog 43 openC := by
  refine ac_body 1 (tabA_nil (Γof_ok tab_nil)) tab_nil mixed [.tmp 2] Try.func43 rfl rfl (by kernel_rfl) (by kernel_rfl) ?_ (by kernel_rfl) ?_
  · intro args mem n K h
    unfold openC at h
    split at h
    · rfl
    · exact h.elim
  intro args mem n K h
  unfold openC at h
  split at h
  · rename_i es
    obtain ⟨⟨l, rfl, hl⟩, hK⟩ := h
    have hba := bc_all l
    unfold entry
    repeat' (first | ((first | apply qa1 | apply qa2 | apply qa3 | apply qh1 | apply qh2 | apply qg1 rfl | apply qcd); (try intro K hk); focus (simp only [go_sem, Nat.reduceEqDiff, Nat.reduceAdd, Nat.reduceLeDiff, Nat.reduceLT, Nat.reduceSub, Int.reduceToNat, ↓reduceIte, reduceCtorEq]; first | exact rfl | ((repeat (refine And.intro ?_ ?_; focus (first | omega | assumption | with_reducible rfl))); intros; apply hk; clear hk K))) | apply qw8 | apply qw1 | apply qw6 | apply qt1 | apply qw5 | apply qw2 | apply qw9 | apply qt2 | apply qt3 | apply qt4 | apply qt5 | apply qt6 | apply qw3 | apply qw4 | apply qj1 | apply qj2 | apply qj3 | apply qj4 | apply qj5 | apply qu1 | apply qu2 | (refine qj6 ?_ ?_ <;> intro hc <;> (try simp only [hc]) <;> (try simp only [decide_eq_true_eq, decide_eq_false_iff_not, Bool.not_eq_true', Bool.not_eq_false', Bool.not_eq_true, reduceCtorEq] at hc) <;> (try (exfalso; omega))) | (refine qt7 ?_ ?_; focus decide) | (refine qw7 ?_ ?_ ?_; (focus (decide +kernel)); (focus (decide +kernel))))
    · refine fin_retA ?_
      simp only [go_sem, ↓upd_def, Nat.reduceEqDiff, ↓reduceIte]
      have := hK (l.take 2000) (by simp; omega)
      rw [List.map_take] at this
      exact this
    · refine fin_retA ?_
      simp only [go_sem, ↓upd_def, Nat.reduceEqDiff, ↓reduceIte]
      exact hK l (by omega)
  · exact h.elim
end Go.Proofs.Ytnbjogilidfkdaa

/- The drawn texts. -/
namespace Go.Proofs.Ytnbjogilidfkdaa
attribute [local irreducible] awp arun acalm FinP Fin AX.then AX.inBlock Again aG gsel amix amixN amixC aop aopc aopd cutK
attribute [local go_sem] aBSliceD aSlice aSliceC boundOf aMk aCall aCallC aLenL aLen aPick_t aPick_f aNil aAlloc aBox aBuild bldPV aBSlice bsPV aApp newsOf destOf drp aConvX aConv aConvInt aLoad cellsAt aStore cellsPV setAt aFld aField aIdx aIndex aUn aBin' aBin aMax aExtract pvOf PV.isCell nmbL PV.nmb List.map_cons List.map_nil List.all_cons List.all_nil Bool.and_true Bool.true_and if_true if_false List.getD_cons_zero List.getD_cons_succ List.getD_nil Option.isSome_some true_and and_true and_self eq_self true_or or_true List.drop_zero List.drop_succ_cons List.drop_nil List.take_zero List.take_succ_cons List.take_nil List.length_cons List.length_nil List.length_map Option.getD_some Option.getD_none List.nil_append List.cons_append List.append_nil Option.some.injEq exists_eq_left' List.getElem?_cons_zero List.getElem?_cons_succ Int.toNat_natCast Int.natCast_inj toNat_succ Nat.zero_add res res1 resC owns owns1 ownsC List.flatMap_cons List.flatMap_nil List.flatten_cons List.flatten_nil List.mem_cons List.not_mem_nil or_false false_or forall_eq forall_eq_or_imp isFro frz frz1 pureC tabA isBld List.cons.injEq PV.seq.injEq PV.int.injEq PV.str.injEq PV.bool.injEq PV.agg.injEq inR tab Γof aRes packR Option.map_some Option.map_none rel Prod.exists exists_and_left exists_eq_left and_assoc beq_self_eq_true Bool.not_true Bool.not_false decide_true decide_false List.set_cons_zero List.set_cons_succ rst_nil rst_cons
attribute [local go_sem ↓] evT upd_def aop aopc aopd
set_option maxRecDepth 100000
set_option linter.unusedVariables false
set_option linter.unusedSimpArgs false
open Go.RowKit
def lvR8_52 : Nat → List Nat
  | 0 => [0, 1]
  | 1 => [0, 1, 5]
  | 2 => [0, 1, 5, 6]
  | 3 => [0, 1, 5, 6, 10]
  | 4 => [0, 1, 5, 6]
  | 5 => [0, 1, 5, 6]
  | 6 => [0, 5, 22]
  | 7 => [5]
  | 8 => [4]
  | _ => []
--LV=R8
@[go_sem] def txD0 : AC := locV (α := (Bs × Int) × Int) (fun x => [.int .i64 x.2]) (fun x => rdB x.1.1 x.1.2) (fun x => x.1.1.length ≤ 2000 ∧ 0 ≤ x.1.2 ∧ x.1.2 + 10 ≤ 1000000 ∧ 0 ≤ x.2 ∧ x.2 ≤ 1000) (fun x r b' => ∃ (s : Bs) (p' : Int), r = .str s ∧ b' = rdB x.1.1 p' ∧ s.length ≤ 200 ∧ x.1.2 ≤ p' ∧ p' ≤ x.1.2 + 10)
set_option maxHeartbeats 8000000 in
theorem txD_ok0 : ACok Try.prog 52 txD0 := by
  refine locV_ok 2 (tabA_cons pick_ok (tabA_cons odd_ok (tabA_nil (Γof_ok tab_nil)))) tab_nil mixed [.tmp 4] Try.func52 rfl rfl (by kernel_rfl) (by kernel_rfl) (fun _ => rfl) (by kernel_rfl) (fun x => by simp [nmbL, PV.nmb]) (fun x => by simp [go_sem, MB.nmb, nmbL, PV.nmb]) ?_
  rintro ⟨⟨l, p⟩, m0⟩ K ⟨hl, h0, h1, h2, h3⟩ hK
  dsimp only at *
  unfold entry
  simp only [mkM, rdB] at *
  repeat' (first | ((first | apply qwd | apply qa1 | apply qa2 | apply qa3 | apply qh1 | apply qh2 | apply qg1 rfl | apply qcd); (try intro K hk); focus (simp only [lvR8_52, mkT, go_sem, Nat.reduceEqDiff, Nat.reduceAdd, Nat.reduceLeDiff, Nat.reduceLT, Nat.reduceSub, Int.reduceToNat, ↓reduceIte, reduceCtorEq, exl]; first | exact rfl | ((repeat (refine And.intro ?_ ?_; focus (first | omega | assumption | with_reducible rfl))); intros; apply hk; clear hk K))) | apply qw8 | apply qw1 | refine qwc lvR8_52 ?_ | apply qt1 | apply qw5 | apply qw2 | apply qw9 | apply qt2 | apply qt3 | apply qt4 | apply qt5 | apply qt6 | apply qw3 | apply qw4 | apply qj1 | apply qj2 | apply qj3 | apply qj4 | apply qj5 | apply qu1 | apply qu2 | (refine qj6 ?_ ?_ <;> intro hc <;> (try simp only [hc]) <;> (try simp only [decide_eq_true_eq, decide_eq_false_iff_not, Bool.not_eq_true', Bool.not_eq_false', Bool.not_eq_true, reduceCtorEq] at hc) <;> (try (exfalso; omega))) | (refine qt7 ?_ ?_; focus decide) | (refine qw7 ?_ ?_ ?_; (focus (decide +kernel)); (focus (decide +kernel))))
  rename Int => k0
  refine s_loop (ι := Int × Bs × Int) (fun i => [(0, .ref 0 0), (1, .int .i64 m0), (5, .str i.2.1), (6, .int .i64 i.1)]) (fun i => [(0, .box [.seq (l.map bc), .int .i64 i.2.2])]) 1 (fun i => 0 ≤ i.1 ∧ i.1 ≤ 6 ∧ (i.2.1.length : Int) ≤ (6 - i.1) * 20 ∧ p + 1 ≤ i.2.2 ∧ i.2.2 ≤ p + 1 + (6 - i.1)) (fun i => i.1.toNat) (k0, [], p + 1) (by omega) ⟨by dsimp only; omega, by dsimp only; omega, by simp; omega, by dsimp only; omega, by dsimp only; omega⟩ ?_ ?_
  · simp [fits, fitsT, fitsM, upd_def, PV.nmb, nmbL, MB.nmb, List.getD_cons_zero, List.getD_cons_succ]
  rintro ⟨m, t, p2⟩ ⟨g0, g1, g2, g3, g4⟩
  dsimp only at *
  simp only [mkS, mkT, mkM]
  repeat' (first | ((first | apply qwd | apply qa1 | apply qa2 | apply qa3 | apply qh1 | apply qh2 | apply qg1 rfl | apply qcd); (try intro K hk); focus (simp only [lvR8_52, mkT, go_sem, Nat.reduceEqDiff, Nat.reduceAdd, Nat.reduceLeDiff, Nat.reduceLT, Nat.reduceSub, Int.reduceToNat, ↓reduceIte, reduceCtorEq, exl]; first | exact rfl | ((repeat (refine And.intro ?_ ?_; focus (first | omega | assumption | with_reducible rfl))); intros; apply hk; clear hk K))) | apply qw8 | apply qw1 | refine qwc lvR8_52 ?_ | apply qt1 | apply qw5 | apply qw2 | apply qw9 | apply qt2 | apply qt3 | apply qt4 | apply qt5 | apply qt6 | apply qw3 | apply qw4 | apply qj1 | apply qj2 | apply qj3 | apply qj4 | apply qj5 | apply qu1 | apply qu2 | (refine qj6 ?_ ?_ <;> intro hc <;> (try simp only [hc]) <;> (try simp only [decide_eq_true_eq, decide_eq_false_iff_not, Bool.not_eq_true', Bool.not_eq_false', Bool.not_eq_true, reduceCtorEq] at hc) <;> (try (exfalso; omega))) | (refine qt7 ?_ ?_; focus decide) | (refine qw7 ?_ ?_ ?_; (focus (decide +kernel)); (focus (decide +kernel))))
  · (refine qa1 fun K hk => ?_; apply qload 20; (focus (simp only [go_sem, ↓upd_def, ↓evT, Nat.reduceEqDiff, Nat.reduceAdd, Nat.reduceLeDiff, Nat.reduceLT, Nat.reduceSub, Int.reduceToNat, ↓reduceIte, reduceCtorEq]; exact rfl)); (focus (simp only [go_sem, ↓upd_def, ↓evT, Nat.reduceEqDiff, Nat.reduceAdd, Nat.reduceLeDiff, Nat.reduceLT, Nat.reduceSub, Int.reduceToNat, ↓reduceIte, reduceCtorEq]; exact rfl)); (focus (simp only [go_sem])); (focus (simp only [List.length_cons, List.length_nil]; omega)); (focus kernel_rfl); intro tx htx; apply hk; clear hk K)
    repeat' (first | ((first | apply qwd | apply qa1 | apply qa2 | apply qa3 | apply qh1 | apply qh2 | apply qg1 rfl | apply qcd); (try intro K hk); focus (simp only [lvR8_52, mkT, go_sem, Nat.reduceEqDiff, Nat.reduceAdd, Nat.reduceLeDiff, Nat.reduceLT, Nat.reduceSub, Int.reduceToNat, ↓reduceIte, reduceCtorEq, exl, List.length_append]; first | exact rfl | ((repeat (refine And.intro ?_ ?_; focus (first | omega | assumption | with_reducible rfl))); intros; apply hk; clear hk K))) | apply qw8 | apply qw1 | refine qwc lvR8_52 ?_ | apply qt1 | apply qw5 | apply qw2 | apply qw9 | apply qt2 | apply qt3 | apply qt4 | apply qt5 | apply qt6 | apply qw3 | apply qw4 | apply qj1 | apply qj2 | apply qj3 | apply qj4 | apply qj5 | apply qu1 | apply qu2 | (refine qj6 ?_ ?_ <;> intro hc <;> (try simp only [hc]) <;> (try simp only [decide_eq_true_eq, decide_eq_false_iff_not, Bool.not_eq_true', Bool.not_eq_false', Bool.not_eq_true, reduceCtorEq] at hc) <;> (try (exfalso; omega))) | (refine qt7 ?_ ?_; focus decide) | (refine qw7 ?_ ?_ ?_; (focus (decide +kernel)); (focus (decide +kernel))))
    refine s_again ((m - 1, t ++ tx, p2 + 1)) ?_ ?_ ?_ <;> (first | omega | (dsimp only; omega) | skip)
    · refine ⟨by dsimp only; omega, by dsimp only; omega, ?_, by dsimp only; omega, by dsimp only; omega⟩
      dsimp only
      rw [List.length_append]
      omega
    all_goals simp [fits, fitsT, fitsM, upd_def, PV.nmb, nmbL, MB.nmb, List.getD_cons_zero, List.getD_cons_succ]
  · (refine qa1 fun K hk => ?_; apply qload 1; (focus (simp only [go_sem, ↓upd_def, ↓evT, Nat.reduceEqDiff, Nat.reduceAdd, Nat.reduceLeDiff, Nat.reduceLT, Nat.reduceSub, Int.reduceToNat, ↓reduceIte, reduceCtorEq]; exact rfl)); (focus (simp only [go_sem, ↓upd_def, ↓evT, Nat.reduceEqDiff, Nat.reduceAdd, Nat.reduceLeDiff, Nat.reduceLT, Nat.reduceSub, Int.reduceToNat, ↓reduceIte, reduceCtorEq]; exact rfl)); (focus (simp only [go_sem])); (focus (simp only [List.length_cons, List.length_nil]; omega)); (focus kernel_rfl); intro tx htx; apply hk; clear hk K)
    repeat' (first | ((first | apply qwd | apply qa1 | apply qa2 | apply qa3 | apply qh1 | apply qh2 | apply qg1 rfl | apply qcd); (try intro K hk); focus (simp only [lvR8_52, mkT, go_sem, Nat.reduceEqDiff, Nat.reduceAdd, Nat.reduceLeDiff, Nat.reduceLT, Nat.reduceSub, Int.reduceToNat, ↓reduceIte, reduceCtorEq, exl, List.length_append]; first | exact rfl | ((repeat (refine And.intro ?_ ?_; focus (first | omega | assumption | with_reducible rfl))); intros; apply hk; clear hk K))) | apply qw8 | apply qw1 | refine qwc lvR8_52 ?_ | apply qt1 | apply qw5 | apply qw2 | apply qw9 | apply qt2 | apply qt3 | apply qt4 | apply qt5 | apply qt6 | apply qw3 | apply qw4 | apply qj1 | apply qj2 | apply qj3 | apply qj4 | apply qj5 | apply qu1 | apply qu2 | (refine qj6 ?_ ?_ <;> intro hc <;> (try simp only [hc]) <;> (try simp only [decide_eq_true_eq, decide_eq_false_iff_not, Bool.not_eq_true', Bool.not_eq_false', Bool.not_eq_true, reduceCtorEq] at hc) <;> (try (exfalso; omega))) | (refine qt7 ?_ ?_; focus decide) | (refine qw7 ?_ ?_ ?_; (focus (decide +kernel)); (focus (decide +kernel))))
    ((first | refine fin_V ?_ | refine fin_Ve ?_ | refine fin_O ?_ | refine fin_Oe ?_ | refine fin_X ?_ | refine fin_Xe ?_ | refine fin_B ?_ | refine fin_Be ?_); simp only [go_sem, PV.own.injEq, MB.row.injEq, MB.nmb, not_false_eq_true, ne_eq, ↓upd_def, Nat.reduceEqDiff, Nat.reduceAdd, ↓reduceIte, reduceCtorEq])
    refine hK _ _ ⟨_, _, rfl, rfl, ?_, ?_, ?_⟩
    · rw [List.length_append]; omega
    · omega
    · omega
  · ((first | refine fin_V ?_ | refine fin_Ve ?_ | refine fin_O ?_ | refine fin_Oe ?_ | refine fin_X ?_ | refine fin_Xe ?_ | refine fin_B ?_ | refine fin_Be ?_); simp only [go_sem, PV.own.injEq, MB.row.injEq, MB.nmb, not_false_eq_true, ne_eq, ↓upd_def, Nat.reduceEqDiff, Nat.reduceAdd, ↓reduceIte, reduceCtorEq])
    refine hK _ _ ⟨_, _, rfl, rfl, ?_, ?_, ?_⟩ <;> omega
@[go_sem] def txDC : AC := fun args mem n K => match args with
  | [.ref i o, .int .i64 m] => (match mem i with
    | some (.box [.seq es, .int .i64 p]) => o = 0 ∧ (∃ l : Bs, es = l.map bc ∧ l.length ≤ 2000) ∧ 0 ≤ p ∧ p + 10 ≤ 1000000 ∧ 0 ≤ m ∧ m ≤ 1000 ∧ ∀ (s : Bs) (p' : Int), s.length ≤ 200 → p ≤ p' → p' ≤ p + 10 → K (.str s) (upd mem i (some (.box [.seq es, .int .i64 p']))) n
    | _ => False)
  | _ => False
theorem txD_ok : ACok Try.prog 52 txDC := txD_ok0.mono fun args mem n K h => by
  unfold txDC at h
  split at h
  · rename_i i o m
    split at h
    · rename_i es p hm
      obtain ⟨rfl, ⟨l, rfl, hl⟩, h0, h1, h2, h3, hK⟩ := h
      refine ⟨((l, p), m), i, rfl, ⟨hl, h0, h1, h2, h3⟩, hm, ?_⟩
      rintro r b' ⟨s, p', rfl, rfl, h1, h2, h3⟩
      exact hK s p' h1 h2 h3
    · exact h.elim
  · exact h.elim
end Go.Proofs.Ytnbjogilidfkdaa
