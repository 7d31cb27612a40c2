/- Valid tokens, printed; clean markup. Plain. -/
import Derived.Test.YtnbjogilidfkdaaWK3

namespace Go.Proofs.Ytnbjogilidfkdaa
set_option maxRecDepth 100000
set_option linter.unusedVariables false
set_option linter.unusedSimpArgs false
open Go.RowKit
theorem tok_wf_step {x y : TkI} {b : UInt8} (h : ∀ t ∈ x.out, wfT t) (e : tkStep x b = some y) : ∀ t ∈ y.out, wfT t := by
  have w1 : ∀ v, wfT (tkText v) := fun v => ⟨.inl rfl, fun _ => rfl⟩
  have w2 : ∀ n ps, wfT (tkOpen n ps) := fun n ps => ⟨.inr (.inl rfl), fun h => absurd rfl h⟩
  have w3 : ∀ n, wfT (tkEnd n) := fun n => ⟨.inr (.inr (.inl rfl)), fun _ => rfl⟩
  have w4 : ∀ v, wfT (tkCom v) := fun v => ⟨.inr (.inr (.inr (.inl rfl))), fun _ => rfl⟩
  have w5 : ∀ v, wfT (tkScr v) := fun v => ⟨.inr (.inr (.inr (.inr rfl))), fun _ => rfl⟩
  have app : ∀ u, wfT u → ∀ t ∈ x.out ++ [u], wfT t := by
    intro u hu t ht
    rcases List.mem_append.1 ht with ht | ht
    · exact h t ht
    · obtain rfl : t = u := by simpa using ht
      exact hu
  unfold tkStep at e
  split at e
  · cases e
  split at e
  · split at e
    · cases e
    · cases e; exact app _ (w2 _ _)
  · cases e
    dsimp only
    unfold rawI
    (repeat' split) <;> first
      | exact h
      | exact app _ (w1 _)
      | exact app _ (w3 _)
      | exact app _ (w4 _)
      | exact app _ (w5 _)
theorem tok_wf_fold : ∀ (t : Bs) {x y : TkI}, (∀ t ∈ x.out, wfT t) → tkFold x t = some y → ∀ t ∈ y.out, wfT t
  | [], x, y, h, e => by cases e; exact h
  | b :: t, x, y, h, e => by
    rw [tkFold_cons] at e
    cases hq : tkStep x b with
    | none => rw [hq] at e; cases e
    | some z => rw [hq] at e; exact tok_wf_fold t (tok_wf_step h hq) e
theorem tok_wf {s : Bs} {l : List TokD} (h : tokM s = some l) : (∀ t ∈ l, wfT t) ∧ l.length ≤ 60 := by
  unfold tokM at h
  split at h
  · cases hf : tkFold tkI0 s with
    | none => rw [hf] at h; cases h
    | some y =>
      rw [hf] at h
      have hw := tok_wf_fold s (x := tkI0) (fun t ht => by cases ht) hf
      have h : tkFin y = some l := h
      unfold tkFin at h
      have hz : ∀ t ∈ (if y.raw = [] then y.out else y.out ++ [tkText (unT y.raw)]), wfT t := by
        split
        · exact hw
        · intro t ht
          rcases List.mem_append.1 ht with ht | ht
          · exact hw t ht
          · obtain rfl : t = _ := by simpa using ht
            exact ⟨.inl rfl, fun _ => rfl⟩
      generalize (if y.raw = [] then y.out else y.out ++ [tkText (unT y.raw)]) = Z at h hz
      split at h
      · cases h
      split at h
      · cases h
      · cases h
        exact ⟨hz, by omega⟩
  · cases h
def scrIn : St → Bs → Bool
  | _, [] => true
  | s, b :: t => decide (11 ≤ (step s b).mode ∧ (step s b).mode ≤ 14) && scrIn (step s b) t
def scrOk (v : Bs) : Bool := scrIn ⟨11, [], [], false⟩ v && (decide ((run ⟨11, [], [], false⟩ v).mode = 11) || decide ((run ⟨11, [], [], false⟩ v).mode = 14))
def insideT (b : TokD) : Bool := decide (b.kind = 2) && decide (b.name = script)
def tvT (b t : TokD) : Bool :=
  if t.kind = 1 then decide (t.name = []) && decide (t.pairs = []) && decide (t.value ≠ []) && textB t.value && decide (b.kind ≠ 1) && !insideT b && decide (b.kind ≠ 5)
  else if t.kind = 2 then t.pairs.all (fun p => nameB p.1 && textB p.2) && nameB t.name && decide (t.value = []) && decide (t.pairs.length ≤ 60) && !insideT b && decide (b.kind ≠ 5)
  else if t.kind = 3 then nameB t.name && decide (t.value = []) && decide (t.pairs = [])
  else if t.kind = 4 then decide (t.name = []) && decide (t.pairs = []) && textB t.value && (t.value.all fun c => decide (c.toNat ≠ 62)) && !insideT b && decide (b.kind ≠ 5)
  else if t.kind = 5 then insideT b && decide (t.name = []) && decide (t.pairs = []) && decide (t.value ≠ []) && textB t.value && scrOk t.value
  else false
def tk0 : TokD := ⟨0, [], [], []⟩
def tvF : TokD → List TokD → Bool
  | b, [] => !(decide (b.kind = 5) || insideT b)
  | b, t :: r => tvT b t && tvF t r
def tvM (l : List TokD) : Bool := tvF tk0 l && decide (l.length ≤ 60)
def ptM (l : List TokD) : Option Bs := if tvM l = true ∧ (printL l).length ≤ 600 then some (printL l) else none
theorem tvF_all : ∀ (l : List TokD) (b : TokD), tvF b l = true → ∀ t ∈ l, ∃ b, tvT b t = true
  | [], b, h => by intro t ht; cases ht
  | t :: r, b, h => by
    rw [tvF, Bool.and_eq_true] at h
    intro u hu
    rcases List.mem_cons.1 hu with rfl | hu
    · exact ⟨b, h.1⟩
    · exact tvF_all r t h.2 u hu
theorem okB_text {s : Bs} (h : textB s = true) : ∀ b ∈ s, okByte b.toNat = true := by
  unfold textB allB at h
  rw [Bool.and_eq_true, List.all_eq_true] at h
  exact h.2
theorem okB_name : ∀ b : UInt8, okNm b.toNat = true → okByte b.toNat = true := all_bytes (by decide)
theorem okB_ent : ∀ b : UInt8, okByte b.toNat = true → (ent1 b).all (fun c => okByte c.toNat) = true := all_bytes (by decide)
theorem okB_esc {s : Bs} (h : ∀ b ∈ s, okByte b.toNat = true) : ∀ b ∈ escT s, okByte b.toNat = true := by
  intro b hb
  unfold escT at hb
  obtain ⟨c, hc, hb⟩ := List.mem_flatMap.1 hb
  exact List.all_eq_true.1 (okB_ent c (h c hc)) b hb
theorem okB_nm {s : Bs} (h : nameB s = true) : ∀ b ∈ s, okByte b.toNat = true := fun b hb => okB_name b ((nameB_iff.1 h).2 b hb)
def okL' (s : Bs) : Prop := ∀ b ∈ s, okByte b.toNat = true
theorem okL_app {s t : Bs} (h : okL' s) (h' : okL' t) : okL' (s ++ t) := fun b hb => (List.mem_append.1 hb).elim (h b) (h' b)
theorem okL_lit {s : Bs} (h : (s.all fun c => okByte c.toNat) = true) : okL' s := List.all_eq_true.1 h
theorem okB_print {b t : TokD} (h : tvT b t = true) : okL' (printT t) := by
  unfold tvT at h
  unfold printT
  obtain ⟨k, n, v, ps⟩ := t
  dsimp only at *
  split at h
  · rename_i hk
    rw [if_pos hk]
    simp only [Bool.and_eq_true, decide_eq_true_eq] at h
    exact okB_esc (okB_text h.1.1.1.2)
  rename_i h1
  rw [if_neg h1]
  split at h
  · rename_i hk
    rw [if_neg (by omega), if_neg (by omega), if_neg (by omega)]
    simp only [Bool.and_eq_true, decide_eq_true_eq, List.all_eq_true] at h
    refine okL_app (okL_app (okL_app (okL_lit (by decide)) (okB_nm h.1.1.1.1.2)) ?_) (okL_lit (by decide))
    intro b hb
    obtain ⟨p, hp, hb⟩ := List.mem_flatMap.1 hb
    obtain ⟨g1, g2⟩ := h.1.1.1.1.1 p hp
    exact (okL_app (okL_app (okL_app (okL_app (okL_lit (by decide)) (okB_nm g1)) (okL_lit (by decide))) (okB_esc (okB_text g2))) (okL_lit (by decide))) b hb
  split at h
  · rename_i hk
    rw [if_pos hk]
    simp only [Bool.and_eq_true, decide_eq_true_eq] at h
    exact okL_app (okL_app (okL_lit (by decide)) (okB_nm h.1.1)) (okL_lit (by decide))
  rename_i h2 h3
  rw [if_neg h3]
  split at h
  · rename_i hk
    rw [if_pos hk]
    simp only [Bool.and_eq_true, decide_eq_true_eq] at h
    exact okL_app (okL_app (okL_lit (by decide)) (okB_text h.1.1.1.2)) (okL_lit (by decide))
  rename_i h4
  rw [if_neg h4]
  split at h
  · rename_i hk
    rw [if_pos hk]
    simp only [Bool.and_eq_true, decide_eq_true_eq] at h
    exact okB_text h.1.2
  · cases h
theorem okB_printL {l : List TokD} (h : tvM l = true) : okL' (printL l) := by
  unfold tvM at h
  rw [Bool.and_eq_true] at h
  intro b hb
  obtain ⟨t, ht, hb⟩ := List.mem_flatMap.1 hb
  obtain ⟨b0, hv⟩ := tvF_all l tk0 h.1 t ht
  exact okB_print hv b hb
theorem textB_iff {s : Bs} : textB s = true ↔ s.length ≤ 600 ∧ ∀ b ∈ s, okByte b.toNat = true := by
  unfold textB allB
  rw [Bool.and_eq_true, decide_eq_true_eq, List.all_eq_true]
theorem printL_text {l : List TokD} (h : tvM l = true) : textB (printL l) = decide ((printL l).length ≤ 600) := by
  have := okB_printL h
  by_cases hl : (printL l).length ≤ 600
  · rw [decide_eq_true hl, textB_iff]; exact ⟨hl, this⟩
  · rw [decide_eq_false hl]
    cases ht : textB (printL l) with
    | false => rfl
    | true => exact absurd (textB_iff.1 ht).1 hl
def cmM (s : Bs) : Option Bs := (tokM s).bind fun l => ptM (cleanMk l)
def txtL1 (s : Bs) : List TokD := if s = [] then [] else [tkText s]
theorem print_txt (s : Bs) : printL (txtL1 s) = escT s := by
  unfold txtL1
  split
  · rename_i h; subst h; rfl
  · simp [printL, printT, tkText]
theorem esc_text {s : Bs} (h : textB s = true) (hl : s.length ≤ 100) : textB (escT s) = true := by
  rw [textB_iff] at *
  have := escT_len s
  exact ⟨by omega, okB_esc h.2⟩
theorem tok_esc {s : Bs} (h : textB s = true) (hl : s.length ≤ 100) : tokM (escT s) = some (txtL1 s) := by
  have e := print_txt s
  rw [← e]
  refine read_print ?_ ?_ ?_ (by rw [e]; exact esc_text h hl)
  · intro t ht
    unfold txtL1 at ht
    split at ht
    · cases ht
    · rename_i hne
      obtain rfl : t = tkText s := by simpa using ht
      exact .inl ⟨rfl, rfl, rfl, hne⟩
  · unfold txtL1; split <;> rfl
  · unfold txtL1; split <;> simp
theorem esc_clean {s : Bs} (h : textB s = true) (hl : s.length ≤ 100) : cmM (escT s) = some (escT s) := by
  unfold cmM
  rw [tok_esc h hl]
  have e : cleanMk (txtL1 s) = txtL1 s := by
    refine clean_id ?_ ?_ ?_
    · intro t ht
      unfold txtL1 at ht
      split at ht
      · cases ht
      · obtain rfl : t = tkText s := by simpa using ht
        exact ⟨.inl rfl, fun h => absurd rfl h, fun p hp => by cases hp⟩
    · unfold txtL1; split <;> rfl
    · unfold txtL1; split <;> rfl
  show ptM (cleanMk (txtL1 s)) = _
  rw [e]
  unfold ptM
  rw [if_pos, print_txt]
  refine ⟨?_, by rw [print_txt]; exact (textB_iff.1 (esc_text h hl)).1⟩
  unfold txtL1
  split
  · rfl
  · rename_i hne
    simp [tvM, tvF, tvT, tkText, tk0, insideT, hne, h]
end Go.Proofs.Ytnbjogilidfkdaa

/- Sizes of tokens. Plain. -/
namespace Go.Proofs.Ytnbjogilidfkdaa
set_option maxRecDepth 100000
set_option linter.unusedVariables false
set_option linter.unusedSimpArgs false
open Go.RowKit
def bdP (N : Nat) (p : Bs × Bs) : Prop := p.1.length ≤ 10 ∧ p.2.length ≤ N
def bdT (N : Nat) (t : TokD) : Prop := t.name.length ≤ 10 ∧ t.value.length ≤ N ∧ t.pairs.length ≤ 60 ∧ ∀ p ∈ t.pairs, bdP N p
theorem bdT_mono {N M : Nat} {t : TokD} (h : bdT N t) (hm : N ≤ M) : bdT M t := by
  obtain ⟨h1, h2, h3, h4⟩ := h
  exact ⟨h1, by omega, h3, fun p hp => ⟨(h4 p hp).1, by have := (h4 p hp).2; omega⟩⟩
structure BdI (N : Nat) (x : TkI) : Prop where
  v : stV x.s = true
  raw : x.raw.length ≤ N
  out : ∀ t ∈ x.out, bdT N t
  ps : ∀ p ∈ x.ps, bdP N p
theorem bd_snoc {N : Nat} {l : List TokD} {u : TokD} (h : ∀ t ∈ l, bdT N t) (hu : bdT N u) : ∀ t ∈ l ++ [u], bdT N t := by
  intro t ht
  rcases List.mem_append.1 ht with ht | ht
  · exact h t ht
  · obtain rfl : t = u := by simpa using ht
    exact hu
theorem last_mem {g : Bs × Bs → Bs × Bs} : ∀ {l : List (Bs × Bs)} {p : Bs × Bs}, p ∈ lastP g l → p ∈ l ∨ ∃ q ∈ l, p = g q
  | [], p, h => by cases h
  | [q], p, h => by
    obtain rfl : p = g q := by simpa [lastP] using h
    exact .inr ⟨q, by simp, rfl⟩
  | q :: r :: l, p, h => by
    have h : p ∈ q :: lastP g (r :: l) := h
    rcases List.mem_cons.1 h with rfl | h
    · exact .inl (by simp)
    · rcases last_mem h with h | ⟨u, hu, e⟩
      · exact .inl (List.mem_cons_of_mem _ h)
      · exact .inr ⟨u, List.mem_cons_of_mem _ hu, e⟩
theorem bd_step {N : Nat} {x y : TkI} {b : UInt8} (h : BdI N x) (e : tkStep x b = some y) : BdI (N + 1) y := by
  obtain ⟨hv, hr, ho, hp⟩ := h
  have hv' := stV_step x.s b
  have ht := stV_tag_len hv
  have ha := stV_attr_len hv'
  have ho' : ∀ t ∈ x.out, bdT (N + 1) t := fun t ht => bdT_mono (ho t ht) (by omega)
  have hp' : ∀ p ∈ x.ps, bdP (N + 1) p := fun p hq => ⟨(hp p hq).1, by have := (hp p hq).2; omega⟩
  have hu := unT_len x.raw
  have b1 : bdT (N + 1) (tkText (unT x.raw)) := ⟨by simp [tkText], by show (unT x.raw).length ≤ _; omega, by simp [tkText], fun p hp => by cases hp⟩
  have b3 : bdT (N + 1) (tkEnd x.s.tag) := ⟨ht, by simp [tkEnd], by simp [tkEnd], fun p hp => by cases hp⟩
  have b4 : bdT (N + 1) (tkCom x.raw) := ⟨by simp [tkCom], by show x.raw.length ≤ _; omega, by simp [tkCom], fun p hp => by cases hp⟩
  have b5 : bdT (N + 1) (tkScr x.raw.dropLast) := ⟨by simp [tkScr], by show x.raw.dropLast.length ≤ _; rw [List.length_dropLast]; omega, by simp [tkScr], fun p hp => by cases hp⟩
  unfold tkStep at e
  generalize step x.s b = n at *
  split at e
  · cases e
  split at e
  · split at e
    · cases e
    · rename_i hl
      cases e
      refine ⟨hv', by dsimp only; omega, bd_snoc ho' ⟨ht, by simp [tkOpen], by show (unPs x.ps).length ≤ 60; rw [unPs_len]; omega, fun p hq => ?_⟩, fun p hp => by cases hp⟩
      have hq : p ∈ unPs x.ps := hq
      unfold unPs at hq
      obtain ⟨q, hq2, rfl⟩ := List.mem_map.1 hq
      have := unT_len q.2
      exact ⟨(hp' q hq2).1, by have := (hp' q hq2).2; dsimp only; omega⟩
  · cases e
    refine ⟨hv', ?_, ?_, ?_⟩
    · dsimp only
      unfold rawI
      (repeat' split) <;> simp <;> omega
    · dsimp only
      unfold rawI
      (repeat' split) <;> first
        | exact ho'
        | exact bd_snoc ho' b1
        | exact bd_snoc ho' b3
        | exact bd_snoc ho' b4
        | exact bd_snoc ho' b5
    · dsimp only
      unfold prsI
      split
      · intro p hp; cases hp
      split
      · split
        · intro p hq
          rcases List.mem_append.1 hq with hq | hq
          · exact hp' p hq
          · obtain rfl : p = (n.attr, []) := by simpa using hq
            exact ⟨ha, by simp⟩
        split
        · intro p hq
          rcases last_mem hq with hq | ⟨q, hq2, rfl⟩
          · exact hp' p hq
          · exact ⟨ha, (hp' q hq2).2⟩
        split
        · intro p hq
          rcases last_mem hq with hq | ⟨q, hq2, rfl⟩
          · exact hp' p hq
          · exact ⟨(hp q hq2).1, by dsimp only; rw [List.length_append, List.length_singleton]; have := (hp q hq2).2; omega⟩
        split
        · intro p hp; cases hp
        · exact hp'
      · exact hp'
theorem bd_fold : ∀ (t : Bs) {N : Nat} {x y : TkI}, BdI N x → tkFold x t = some y → BdI (N + t.length) y
  | [], N, x, y, h, e => by cases e; exact h
  | b :: t, N, x, y, h, e => by
    rw [tkFold_cons] at e
    cases hq : tkStep x b with
    | none => rw [hq] at e; cases e
    | some z =>
      rw [hq] at e
      rw [List.length_cons, show N + (t.length + 1) = N + 1 + t.length by omega]
      exact bd_fold t (bd_step h hq) e
theorem tok_bd {s : Bs} {l : List TokD} (h : tokM s = some l) : l.length ≤ 60 ∧ ∀ t ∈ l, bdT 600 t := by
  refine ⟨(tok_wf h).2, ?_⟩
  unfold tokM at h
  split at h
  · rename_i ht
    have hl := (textB_iff.1 ht).1
    cases hf : tkFold tkI0 s with
    | none => rw [hf] at h; cases h
    | some y =>
      rw [hf] at h
      have hb : BdI (0 + s.length) y := bd_fold s (x := tkI0) ⟨stV_st0, Nat.le_refl _, (fun t ht => by cases ht), (fun p hp => by cases hp)⟩ hf
      have ho : ∀ t ∈ y.out, bdT 600 t := fun t ht => bdT_mono (hb.out t ht) (by omega)
      have h : tkFin y = some l := h
      unfold tkFin at h
      have hz : ∀ t ∈ (if y.raw = [] then y.out else y.out ++ [tkText (unT y.raw)]), bdT 600 t := by
        split
        · exact ho
        · have := unT_len y.raw
          have := hb.raw
          exact bd_snoc ho ⟨by simp [tkText], by show (unT y.raw).length ≤ _; omega, by simp [tkText], fun p hp => by cases hp⟩
      generalize (if y.raw = [] then y.out else y.out ++ [tkText (unT y.raw)]) = Z at h hz
      split at h
      · cases h
      split at h
      · cases h
      · cases h
        exact hz
  · cases h
theorem keep_bd {N : Nat} {l : List TokD} (h : ∀ t ∈ l, bdT N t) : (keepMk l).length ≤ l.length ∧ ∀ t ∈ keepMk l, bdT N t := by
  unfold keepMk
  refine ⟨by rw [List.length_map]; exact List.length_filter_le _ _, fun t ht => ?_⟩
  obtain ⟨u, hu, rfl⟩ := List.mem_map.1 ht
  obtain ⟨h1, h2, h3, h4⟩ := h u (List.mem_filter.1 hu).1
  exact ⟨h1, h2, Nat.le_trans (List.length_filter_le _ _) h3, fun p hp => h4 p (List.mem_filter.1 hp).1⟩
theorem close_bd {N : Nat} : ∀ (l : List TokD) (st : List Bs), (∀ t ∈ l, bdT N t) → (∀ n ∈ st, n.length ≤ 10) → (closeF st l).length ≤ 2 * l.length + st.length ∧ ∀ t ∈ closeF st l, bdT N t
  | [], st, _, hs => by
    rw [close_nil]
    refine ⟨by simp, fun t ht => ?_⟩
    obtain ⟨n, hn, rfl⟩ := List.mem_map.1 ht
    exact ⟨hs n hn, by simp [tkEnd], by simp [tkEnd], fun p hp => by cases hp⟩
  | t :: r, st, h, hs => by
    have ht := h t List.mem_cons_self
    have hr : ∀ u ∈ r, bdT N u := fun u hu => h u (List.mem_cons_of_mem _ hu)
    have cons : ∀ {m : List TokD}, (∀ u ∈ m, bdT N u) → ∀ u ∈ t :: m, bdT N u := by
      intro m hm u hu
      rcases List.mem_cons.1 hu with rfl | hu
      · exact ht
      · exact hm u hu
    by_cases h3 : t.kind = 3
    · rw [close_3 h3]
      cases st with
      | nil =>
        have := close_bd r [] hr hs
        exact ⟨by rw [List.length_cons]; have := this.1; dsimp only at *; omega, this.2⟩
      | cons n q =>
        dsimp only
        split
        · have := close_bd r q hr (fun m hm => hs m (List.mem_cons_of_mem _ hm))
          exact ⟨by simp only [List.length_cons]; have := this.1; omega, cons this.2⟩
        · have := close_bd r (n :: q) hr hs
          exact ⟨by rw [List.length_cons]; have := this.1; omega, this.2⟩
    · by_cases h2 : t.kind = 2 ∧ voidN t.name = false
      · rw [close_2 h2.1 h2.2]
        have := close_bd r (t.name :: st) hr (fun m hm => by
          rcases List.mem_cons.1 hm with rfl | hm
          · exact ht.1
          · exact hs m hm)
        have h9 := this.1
        rw [List.length_cons] at h9
        exact ⟨by simp only [List.length_cons]; omega, cons this.2⟩
      · rw [close_o h3 h2]
        have := close_bd r st hr hs
        exact ⟨by simp only [List.length_cons]; have := this.1; omega, cons this.2⟩
def wtVs (l : List TokD) : Nat := (l.map fun t => t.value.length).sum
theorem wtVs_le {N : Nat} : ∀ {l : List TokD}, (∀ t ∈ l, bdT N t) → wtVs l ≤ l.length * N
  | [], _ => by simp [wtVs]
  | t :: r, h => by
    have h1 := (h t List.mem_cons_self).2.1
    have h2 := wtVs_le (l := r) (fun u hu => h u (List.mem_cons_of_mem _ hu))
    have e : wtVs (t :: r) = t.value.length + wtVs r := by simp [wtVs]
    rw [e, List.length_cons, Nat.add_mul]
    omega
def bdV (M : Nat) (N : Nat) (t : TokD) : Prop := t.name.length ≤ 10 ∧ t.value.length ≤ M ∧ t.pairs.length ≤ 60 ∧ ∀ p ∈ t.pairs, bdP N p
theorem join_bd {N M : Nat} {l : List TokD} (h : ∀ t ∈ l, bdT N t) (hM : wtVs l ≤ M) : (joinM l).length ≤ l.length ∧ ∀ t ∈ joinM l, bdV M N t := by
  have key : ∀ (l q : List TokD), (∀ t ∈ l, bdT N t) → wtVs q + wtVs l ≤ M → (∀ t ∈ q, bdV (wtVs q) N t) → (l.foldl addT q).length ≤ q.length + l.length ∧ ∀ t ∈ l.foldl addT q, bdV M N t := by
    intro l
    induction l with
    | nil =>
      intro q _ hM hq
      refine ⟨Nat.le_refl _, fun t ht => ?_⟩
      obtain ⟨h1, h2, h3, h4⟩ := hq t ht
      exact ⟨h1, by have : wtVs q ≤ M := by simpa [wtVs] using hM
                    omega, h3, h4⟩
    | cons t r ih =>
      intro q hl hM hq
      have ht := hl t List.mem_cons_self
      have e : wtVs (t :: r) = t.value.length + wtVs r := by simp [wtVs]
      have hadd : wtVs (addT q t) = wtVs q + t.value.length ∧ (addT q t).length ≤ q.length + 1 ∧ ∀ u ∈ addT q t, bdV (wtVs q + t.value.length) N u := by
        rcases snoc_cases q with rfl | ⟨p, v, rfl⟩
        · refine ⟨by simp [addT_nil, wtVs], by simp [addT_nil], fun u hu => ?_⟩
          obtain rfl : u = t := by simpa [addT_nil] using hu
          exact ⟨ht.1, by omega, ht.2.2⟩
        · rw [addT_snoc]
          have hup : ∀ u ∈ p ++ [v], bdV (wtVs (p ++ [v]) + t.value.length) N u := fun u hu => ⟨(hq u hu).1, by have := (hq u hu).2.1; omega, (hq u hu).2.2⟩
          split
          · refine ⟨by simp [wtVs]; omega, by simp, fun u hu => ?_⟩
            rcases List.mem_append.1 hu with hu | hu
            · exact hup u (List.mem_append_left _ hu)
            · obtain rfl : u = _ := by simpa using hu
              have hv := hq v (by simp)
              exact ⟨hv.1, by dsimp only; rw [List.length_append]; have := hv.2.1; omega, hv.2.2⟩
          · refine ⟨by simp [wtVs]; omega, by simp, fun u hu => ?_⟩
            rcases List.mem_append.1 hu with hu | hu
            · exact hup u (List.mem_append_left _ hu)
            · rcases List.mem_cons.1 hu with rfl | hu
              · exact hup u (by simp)
              · obtain rfl : u = t := by simpa using hu
                exact ⟨ht.1, by omega, ht.2.2⟩
      rw [List.foldl_cons]
      have := ih (addT q t) (fun u hu => hl u (List.mem_cons_of_mem _ hu)) (by rw [hadd.1]; omega) (by rw [hadd.1]; exact hadd.2.2)
      exact ⟨by rw [List.length_cons]; have := this.1; have := hadd.2.1; omega, this.2⟩
  have := key l [] h (by simpa [wtVs] using hM) (fun t ht => by cases ht)
  exact ⟨by have h9 := this.1; rw [List.length_nil, Nat.zero_add] at h9; exact h9, this.2⟩
theorem clean_bd {l : List TokD} (h : l.length ≤ 60) (h' : ∀ t ∈ l, bdT 600 t) : (cleanMk l).length ≤ 120 ∧ ∀ t ∈ cleanMk l, bdT 72000 t := by
  obtain ⟨h1, h2⟩ := keep_bd h'
  obtain ⟨h3, h4⟩ := close_bd (keepMk l) [] h2 (fun n hn => by cases hn)
  have h5 := wtVs_le h4
  rw [List.length_nil] at h3
  have h6 : wtVs (closeF [] (keepMk l)) ≤ 72000 := by
    have : (closeF [] (keepMk l)).length * 600 ≤ 120 * 600 := Nat.mul_le_mul_right _ (by omega)
    omega
  obtain ⟨h7, h8⟩ := join_bd h4 h6
  refine ⟨by show (joinM _).length ≤ 120; omega, fun t ht => ?_⟩
  obtain ⟨a1, a2, a3, a4⟩ := h8 t ht
  exact ⟨a1, a2, a3, fun p hp => ⟨(a4 p hp).1, by have := (a4 p hp).2; omega⟩⟩
end Go.Proofs.Ytnbjogilidfkdaa

/- Tokens as cells; how deep they are open. Plain. -/
namespace Go.Proofs.Ytnbjogilidfkdaa
set_option maxRecDepth 100000
set_option linter.unusedVariables false
set_option linter.unusedSimpArgs false
open Go.RowKit
theorem encTk_mk (k : Int) (n v : Bs) (ps : List (Bs × Bs)) : encTk ⟨k, n, v, ps⟩ = [.int .i64 k, .str n, .str v, .seq (encPrs ps)] := rfl
theorem encTks_len (l : List TokD) : (encTks l).length = l.length := by simp [encTks]
theorem encTks_get (l : List TokD) (k : Nat) : (encTks l)[k]? = (l[k]?).map encTk := by simp [encTks]
theorem encTks_app (a b : List TokD) : encTks (a ++ b) = encTks a ++ encTks b := by simp [encTks]
theorem encTks_pt (a : List TokD) (k : Int) (n v : Bs) (ps : List (Bs × Bs)) : encTks a ++ [[.int .i64 k, .str n, .str v, .seq (encPrs ps)]] = encTks (a ++ [⟨k, n, v, ps⟩]) := by rw [encTks_app]; rfl
theorem encTks_nil : encTks [] = [] := rfl
theorem encTks_all (l : List TokD) : (∀ e ∈ encTks l, e.length = 4) = True := eq_true (by
  intro e he
  obtain ⟨t, _, rfl⟩ := List.mem_map.1 he; rfl)
theorem encPrs_len (l : List (Bs × Bs)) : (encPrs l).length = l.length := by simp [encPrs]
theorem encPrs_get (l : List (Bs × Bs)) (k : Nat) : (encPrs l)[k]? = (l[k]?).map encPr := by simp [encPrs]
theorem encPrs_app (a b : List (Bs × Bs)) : encPrs (a ++ b) = encPrs a ++ encPrs b := by simp [encPrs]
theorem encPrs_pt (a : List (Bs × Bs)) (n v : Bs) : encPrs a ++ [[.str n, .str v]] = encPrs (a ++ [(n, v)]) := by rw [encPrs_app]; rfl
theorem encPrs_nil : encPrs [] = [] := rfl
theorem encPrs_all (l : List (Bs × Bs)) : (∀ e ∈ encPrs l, e.length = 2) = True := eq_true (by
  intro e he
  obtain ⟨t, _, rfl⟩ := List.mem_map.1 he; rfl)
theorem encPr_inj {x y : Bs × Bs} (h : encPr x = encPr y) : x = y := by
  obtain ⟨a, b⟩ := x
  obtain ⟨c, d⟩ := y
  simp [encPr] at h
  rw [h.1, h.2]
theorem encPrs_inj {a b : List (Bs × Bs)} (h : encPrs a = encPrs b) : a = b := (List.map_inj_right (fun x y e => encPr_inj e)).1 h
theorem encTk_inj {x y : TokD} (h : encTk x = encTk y) : x = y := by
  obtain ⟨k, n, v, ps⟩ := x
  obtain ⟨k', n', v', ps'⟩ := y
  rw [encTk_mk, encTk_mk] at h
  simp only [List.cons.injEq, PV.int.injEq, PV.str.injEq, PV.seq.injEq, true_and, and_true] at h
  obtain ⟨rfl, rfl, rfl, h⟩ := h
  rw [encPrs_inj h]
theorem encTks_inj {a b : List TokD} (h : encTks a = encTks b) : a = b := (List.map_inj_right (fun x y e => encTk_inj e)).1 h
theorem encTks_iff {a b : List TokD} : encTks a = encTks b ↔ a = b := ⟨encTks_inj, fun h => h ▸ rfl⟩
/-- Small tokens. -/
def smTk (t : TokD) : Prop := t.name.length ≤ 10 ∧ t.value.length ≤ 72000 ∧ t.pairs.length ≤ 60 ∧ ∀ p ∈ t.pairs, p.1.length ≤ 10 ∧ p.2.length ≤ 72000
def smTks (l : List TokD) : Prop := l.length ≤ 1000 ∧ ∀ t ∈ l, smTk t
theorem smTk_of {N : Nat} {t : TokD} (h : bdT N t) (hN : N ≤ 72000) : smTk t := bdT_mono h hN
theorem sm_tok {s : Bs} {l : List TokD} (h : tokM s = some l) : smTks l := by
  obtain ⟨h1, h2⟩ := tok_bd h
  exact ⟨by omega, fun t ht => smTk_of (h2 t ht) (by omega)⟩
theorem sm_clean {s : Bs} {l : List TokD} (h : tokM s = some l) : smTks (cleanMk l) := by
  obtain ⟨h1, h2⟩ := tok_bd h
  obtain ⟨h3, h4⟩ := clean_bd h1 h2
  exact ⟨by omega, fun t ht => smTk_of (h4 t ht) (by omega)⟩
theorem smTk_at {l : List TokD} (h : smTks l) {k : Nat} {t : TokD} (hx : l[k]? = some t) : smTk t := h.2 t (List.mem_of_getElem? hx)
theorem drop_tk {α : Type} {l : List α} {k : Nat} {x : α} (h : l[k]? = some x) : l.drop k = x :: l.drop (k + 1) := by
  obtain ⟨hk, rfl⟩ := List.getElem?_eq_some_iff.1 h
  exact List.drop_eq_getElem_cons hk
theorem strs_rev (n : Bs) (st : List Bs) : strs st.reverse ++ [[.str n]] = strs (n :: st).reverse := by simp [strs]
theorem strs_top (n : Bs) (st : List Bs) : (strs (n :: st).reverse)[st.length]? = some [.str n] := by
  simp [strs]
theorem strs_pop (n : Bs) (st : List Bs) : (strs (n :: st).reverse).take st.length = strs st.reverse := by
  simp [strs]
end Go.Proofs.Ytnbjogilidfkdaa

/- Reading tokens: what holds behind some bytes. Plain. -/
namespace Go.Proofs.Ytnbjogilidfkdaa
set_option maxRecDepth 100000
set_option linter.unusedVariables false
set_option linter.unusedSimpArgs false
open Go.RowKit
/-- What holds behind k bytes of s. -/
structure TkAt (s : Bs) (k : Nat) (x : TkI) : Prop where
  ok : TkOk x
  bd : BdI k x
  lo : x.out.length ≤ k
  lp : x.ps.length ≤ k
  eq : (tkFold tkI0 s).bind tkFin = (tkFold x (s.drop k)).bind tkFin
theorem TkAt.zero (s : Bs) : TkAt s 0 tkI0 := ⟨tkI0_ok, ⟨stV_st0, Nat.le_refl _, (fun t h => by cases h), (fun t h => by cases h)⟩, Nat.le_refl _, Nat.le_refl _, rfl⟩
theorem tkStep_lens {x y : TkI} {b : UInt8} (e : tkStep x b = some y) : y.out.length ≤ x.out.length + 1 ∧ y.ps.length ≤ x.ps.length + 1 := by
  unfold tkStep at e
  split at e
  · cases e
  split at e
  · split at e
    · cases e
    · cases e
      simp
  · cases e
    refine ⟨?_, ?_⟩
    · unfold rawI
      (repeat' split) <;> simp
    · unfold prsI
      (repeat' split) <;> simp [lastP_len]
theorem drop_get {s : Bs} {k : Nat} (h : k < s.length) : s.drop k = s.getD k 0 :: s.drop (k + 1) := by
  rw [List.drop_eq_getElem_cons h]
  simp [List.getD_eq_getElem?_getD, h]
theorem TkAt.step {s : Bs} {k : Nat} {x y : TkI} (h : TkAt s k x) (hk : k < s.length) (e : tkStep x (s.getD k 0) = some y) : TkAt s (k + 1) y := by
  obtain ⟨h1, h2⟩ := tkStep_lens e
  refine ⟨tk_ok h.ok e, bd_step h.bd e, by have := h.lo; omega, by have := h.lp; omega, ?_⟩
  rw [h.eq, drop_get hk, tkFold_cons, e]
  rfl
theorem TkAt.stop {s : Bs} {k : Nat} {x : TkI} (h : TkAt s k x) (hk : k < s.length) (ht : textB s = true) (e : tkStep x (s.getD k 0) = none) : tokM s = none := by
  unfold tokM
  rw [if_pos ht, h.eq, drop_get hk, tkFold_cons, e]
  rfl
theorem TkAt.fin {s : Bs} {k : Nat} {x : TkI} (h : TkAt s k x) (hk : s.length ≤ k) (ht : textB s = true) : tokM s = tkFin x := by
  unfold tokM
  rw [if_pos ht, h.eq, List.drop_eq_nil_of_le hk]
  rfl
theorem tokM_bad {s : Bs} (h : textB s = false) : tokM s = none := by
  unfold tokM
  rw [if_neg (by rw [h]; decide)]
/-- The last attribute is written over. -/
theorem encPrs_setl (l : List (Bs × Bs)) (p q : Bs × Bs) : (encPrs (l ++ [p])).set l.length [.str q.1, .str q.2] = encPrs (l ++ [q]) := by
  rw [encPrs_app, encPrs_app, List.set_append_right _ _ (by rw [encPrs_len]; exact Nat.le_refl _), encPrs_len, Nat.sub_self]
  rfl
theorem encPrs_getl (l : List (Bs × Bs)) (p : Bs × Bs) : (encPrs (l ++ [p]))[l.length]? = some [.str p.1, .str p.2] := by
  simp [encPrs, encPr]
/-- Some attributes are unescaped. -/
def psJ (ps : List (Bs × Bs)) (j : Nat) : List (Bs × Bs) := unPs (ps.take j) ++ ps.drop j
theorem psJ_zero (ps : List (Bs × Bs)) : psJ ps 0 = ps := by simp [psJ, unPs]
theorem psJ_all (ps : List (Bs × Bs)) : psJ ps ps.length = unPs ps := by simp [psJ]
theorem psJ_len (ps : List (Bs × Bs)) (j : Nat) : (psJ ps j).length = ps.length := by simp [psJ, unPs]; omega
theorem psJ_get {ps : List (Bs × Bs)} {j : Nat} {p : Bs × Bs} (h : ps[j]? = some p) : (encPrs (psJ ps j))[j]? = some [.str p.1, .str p.2] := by
  obtain ⟨hj, rfl⟩ := List.getElem?_eq_some_iff.1 h
  rw [encPrs_get, psJ, List.getElem?_append_right (by simp [unPs]; omega)]
  simp [unPs, encPr, Nat.min_eq_left (Nat.le_of_lt hj), hj]
theorem psJ_set {ps : List (Bs × Bs)} {j : Nat} {p : Bs × Bs} (h : ps[j]? = some p) : (encPrs (psJ ps j)).set j [.str p.1, .str (unT p.2)] = encPrs (psJ ps (j + 1)) := by
  obtain ⟨hj, rfl⟩ := List.getElem?_eq_some_iff.1 h
  have hl : (unPs (ps.take j)).length = j := by simp [unPs]; omega
  unfold psJ
  rw [encPrs_app, List.set_append_right _ _ (by rw [encPrs_len, hl]; exact Nat.le_refl _), encPrs_len, hl, Nat.sub_self, List.drop_eq_getElem_cons hj, show ps.take (j + 1) = ps.take j ++ [ps[j]] from (List.take_append_getElem hj).symm, unPs_append, encPrs_app, encPrs_app, List.append_assoc]
  rfl
end Go.Proofs.Ytnbjogilidfkdaa

/- Valid tokens by steps; how long they are printed; safe markup by steps. Plain. -/
namespace Go.Proofs.Ytnbjogilidfkdaa
set_option maxRecDepth 100000
set_option linter.unusedVariables false
set_option linter.unusedSimpArgs false
open Go.RowKit
/-- Small tokens that may stay. -/
def gdTks (l : List TokD) : Prop := smTks l ∧ ∀ t ∈ l, goodT t
theorem gd_clean {s : Bs} {l : List TokD} (h : tokM s = some l) : gdTks (cleanMk l) := ⟨sm_clean h, clean_good (tok_wf h).1⟩
/-- The token before the k-th one. -/
def befT (l : List TokD) (k : Nat) : TokD := if k = 0 then tk0 else l.getD (k - 1) tk0
theorem bef_succ {l : List TokD} {k : Nat} {t : TokD} (h : l[k]? = some t) : befT l (k + 1) = t := by
  unfold befT
  rw [if_neg (by omega), Nat.add_sub_cancel, List.getD_eq_getElem?_getD, h]; rfl
theorem bef_at {l : List TokD} {k : Nat} {t : TokD} (hk : k ≠ 0) (h : l[k - 1]? = some t) : befT l k = t := by
  unfold befT
  rw [if_neg hk, List.getD_eq_getElem?_getD, h]; rfl
theorem bef_kind {l : List TokD} (h : ∀ t ∈ l, goodT t) {k : Nat} (hk : k ≤ l.length) : (befT l k).kind ≠ 5 ∧ insideT (befT l k) = false := by
  unfold befT
  split
  · exact ⟨by decide, by decide⟩
  · obtain ⟨t, ht⟩ := get_some (xs := l) (k := k - 1) (by omega)
    rw [List.getD_eq_getElem?_getD, ht]
    obtain ⟨h1, h2, _⟩ := h t (List.mem_of_getElem? ht)
    refine ⟨by show t.kind ≠ 5; omega, ?_⟩
    show insideT t = false
    unfold insideT
    by_cases hk : t.kind = 2
    · have h3 := h2 (by omega)
      have : t.name ≠ script := by
        intro e
        rw [e] at h3
        revert h3; decide
      simp [this]
    · simp [hk]
theorem tvF_at {l : List TokD} {k : Nat} {t : TokD} (h : l[k]? = some t) : tvF (befT l k) (l.drop k) = (tvT (befT l k) t && tvF (befT l (k + 1)) (l.drop (k + 1))) := by
  rw [drop_tk h, tvF, bef_succ h]
theorem tvF_end {l : List TokD} (h : ∀ t ∈ l, goodT t) : tvF (befT l l.length) (l.drop l.length) = true := by
  obtain ⟨h1, h2⟩ := bef_kind h (Nat.le_refl _)
  rw [List.drop_length, tvF, h2]
  simp [h1]
theorem tv_1 {b : TokD} (h5 : b.kind ≠ 5) (hi : insideT b = false) (n v : Bs) (ps : List (Bs × Bs)) : tvT b ⟨1, n, v, ps⟩ = (decide (n = []) && decide (ps = []) && decide (v ≠ []) && textB v && decide (b.kind ≠ 1)) := by
  unfold tvT
  rw [if_pos rfl, hi]
  simp [h5]
theorem tv_2 {b : TokD} (h5 : b.kind ≠ 5) (hi : insideT b = false) (n v : Bs) (ps : List (Bs × Bs)) (hp : ps.length ≤ 60) : tvT b ⟨2, n, v, ps⟩ = (ps.all (fun p => nameB p.1 && textB p.2) && nameB n && decide (v = [])) := by
  unfold tvT
  rw [if_neg (show ¬ ((2 : Int) = 1) by omega), if_pos rfl, hi]
  simp [h5, hp]
theorem tv_3 (b : TokD) (n v : Bs) (ps : List (Bs × Bs)) : tvT b ⟨3, n, v, ps⟩ = (nameB n && decide (v = []) && decide (ps = [])) := by
  unfold tvT
  rw [if_neg (show ¬ ((3 : Int) = 1) by omega), if_neg (show ¬ ((3 : Int) = 2) by omega), if_pos rfl]
theorem tvF_stop {l : List TokD} {k : Nat} {t : TokD} (h : l[k]? = some t) (ht : tvT (befT l k) t = false) : tvF (befT l k) (l.drop k) = false := by rw [tvF_at h, ht]; rfl
theorem tvF_go {l : List TokD} {k : Nat} {t : TokD} (h : l[k]? = some t) (ht : tvT (befT l k) t = true) : tvF (befT l (k + 1)) (l.drop (k + 1)) = tvF (befT l k) (l.drop k) := by rw [tvF_at h, ht, Bool.true_and]
theorem tkStop {α : Type} {p : α → Bool} {l : List α} {k : Nat} {x : α} (h : l[k]? = some x) (hp : p x = false) : l.all p = false := by
  rw [List.all_eq_false]
  exact ⟨x, List.mem_of_getElem? h, by simp [hp]⟩
theorem tkTake {α : Type} {p : α → Bool} {l : List α} {k : Nat} {x : α} (h : l[k]? = some x) (hk : (l.take k).all p = true) (hp : p x = true) : (l.take (k + 1)).all p = true := by
  rw [take_snoc' h, List.all_append, hk]; simp [hp]
theorem printP_len {p : Bs × Bs} (h1 : p.1.length ≤ 10) (h2 : p.2.length ≤ 72000) : (printP p).length ≤ 500000 := by
  have := escT_len p.2
  unfold printP
  simp only [List.length_append, List.length_cons, List.length_nil]
  omega
theorem printPs_snoc {ps : List (Bs × Bs)} {j : Nat} {p : Bs × Bs} (h : ps[j]? = some p) : (ps.take (j + 1)).flatMap printP = (ps.take j).flatMap printP ++ printP p := by
  rw [take_snoc' h, List.flatMap_append]
  simp
theorem printPs_len {ps : List (Bs × Bs)} (h : ∀ p ∈ ps, p.1.length ≤ 10 ∧ p.2.length ≤ 72000) : (ps.flatMap printP).length ≤ ps.length * 500000 := by
  induction ps with
  | nil => simp
  | cons p r ih =>
    rw [List.flatMap_cons, List.length_append, List.length_cons]
    have h1 := printP_len (h p List.mem_cons_self).1 (h p List.mem_cons_self).2
    have h2 := ih (fun q hq => h q (List.mem_cons_of_mem _ hq))
    omega
theorem printPs_take {ps : List (Bs × Bs)} (h : ∀ p ∈ ps, p.1.length ≤ 10 ∧ p.2.length ≤ 72000) (hl : ps.length ≤ 60) (j : Nat) : ((ps.take j).flatMap printP).length ≤ 30000000 := by
  have h1 := printPs_len (ps := ps.take j) (fun p hp => h p (List.mem_of_mem_take hp))
  rw [List.length_take] at h1
  omega
theorem printT_len {t : TokD} (h : smTk t) : (printT t).length ≤ 40000000 := by
  obtain ⟨h1, h2, h3, h4⟩ := h
  have e1 := escT_len t.value
  have e2 := printPs_len h4
  unfold printT
  (repeat' split) <;> (try simp only [List.length_append, List.length_cons, List.length_nil]) <;> omega
theorem printL_snoc {l : List TokD} {k : Nat} {t : TokD} (h : l[k]? = some t) : printL (l.take (k + 1)) = printL (l.take k) ++ printT t := by
  unfold printL
  rw [take_snoc' h, List.flatMap_append]
  simp
theorem printL_len {l : List TokD} (h : ∀ t ∈ l, smTk t) : (printL l).length ≤ l.length * 40000000 := by
  induction l with
  | nil => simp [printL]
  | cons t r ih =>
    rw [printL_cons, List.length_append, List.length_cons]
    have h1 := printT_len (h t List.mem_cons_self)
    have h2 := ih (fun q hq => h q (List.mem_cons_of_mem _ hq))
    omega
theorem printL_bd {l : List TokD} (h : smTks l) (k : Nat) : (printL (l.take k)).length ≤ 40000000000 := by
  have h1 := printL_len (l := l.take k) (fun t ht => h.2 t (List.mem_of_mem_take ht))
  have := h.1
  rw [List.length_take] at h1
  omega
theorem pt_no {l : List TokD} (h : tvM l = false) : ptM l = none := by
  unfold ptM
  rw [if_neg (by rw [h]; simp)]
theorem pt_big' {l : List TokD} (h : 600 < (printL l).length) : ptM l = none := by
  unfold ptM
  rw [if_neg (by omega)]
theorem pt_yes {l : List TokD} (h : tvM l = true) (h' : (printL l).length ≤ 600) : ptM l = some (printL l) := by
  unfold ptM
  rw [if_pos ⟨h, h'⟩]
theorem pt_text {l : List TokD} (h : tvM l = true) : textB (printL l) = decide ((printL l).length ≤ 600) := printL_text h
theorem cm_none {s : Bs} (h : tokM s = none) : cmM s = none := by unfold cmM; rw [h]; rfl
theorem cm_some {s : Bs} {l : List TokD} (h : tokM s = some l) : cmM s = ptM (cleanMk l) := by unfold cmM; rw [h]; rfl
theorem wf_tok {s : Bs} {l : List TokD} (h : tokM s = some l) : smTks l ∧ ∀ t ∈ l, wfT t := ⟨sm_tok h, (tok_wf h).1⟩
end Go.Proofs.Ytnbjogilidfkdaa
