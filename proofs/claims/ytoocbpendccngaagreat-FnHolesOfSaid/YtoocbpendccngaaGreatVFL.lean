/- Functions that work on one block of their caller's: proved over that block alone. No program. -/
import Derived.Test.YtoocbpendccngaaGreatVF12

namespace Go.Proofs.YtoocbpendccngaaGreat
set_option maxRecDepth 100000
set_option linter.unusedVariables false
set_option linter.unusedSimpArgs false
open Go.RowKit
/-- The context of a call: the name 0 stands for what i stands for. -/
def Cx.one (c : Cx) (i : Nat) : Cx := ⟨c.w, c.fz, fun j => if j < 1 then c.ρ i else none⟩
theorem Names.one {c : Cx} {n i : Nat} (hn : Names c n) : Names (c.one i) 1 :=
  ⟨fun j hj => by simp only [Cx.one]; rw [if_neg (by omega)], fun j v hj => by
    simp only [Cx.one] at hj
    split at hj
    · exact hn.2 _ v hj
    · cases hj⟩
/-- Closed values stand for the same in any context of that world. -/
theorem Rep.any {u : PV} {c c' : Cx} {v : Value} (h : Rep u c v) (hc : u.nmb 0 = true) (hw : c'.w = c.w) (hf : c'.fz = c.fz) : Rep u c' v := by
  have h1 := h.to_data hc
  have : c'.data = c.data := by simp only [Cx.data, hw, hf]
  rw [← this] at h1
  exact Rep.mono _ c'.data_le h1
theorem RepL.any {us : List PV} {c c' : Cx} {vs : List Value} (h : RepL us c vs) (hc : nmbL 0 us = true) (hw : c'.w = c.w) (hf : c'.fz = c.fz) : RepL us c' vs := by
  have h1 := h.to_data hc
  have : c'.data = c.data := by simp only [Cx.data, hw, hf]
  rw [← this] at h1
  exact RepL.mono _ c'.data_le h1
theorem MRep.move {c c' : Cx} {a l : Nat} {S : Nat → Prop} : ∀ {mb : MB}, MRep c a S mb → mb.nmb 0 = true → c'.w = c.w → c'.fz = c.fz → c'.ρ l = c.ρ a → MRep c' l S mb
  | .box cs, ⟨b, t, vs, h1, h2, h3, h4⟩, hc, hw, hf, hρ => ⟨b, t, vs, by rw [hρ]; exact h1, by rw [hw]; exact h2, h3.any (by simpa [MB.nmb] using hc) hw hf, h4⟩
  | .row e s es, ⟨v, vs, h1, h2, h3, h4, h5⟩, hc, hw, hf, hρ => ⟨v, vs, by rw [hρ]; exact h1, by rw [hw]; exact h2, by
      have : c'.data = c.data := by simp only [Cx.data, hw, hf]
      rw [this]; exact h3, h4, h5⟩
  | .fro es, ⟨v, h1, h2, h3⟩, hc, hw, hf, hρ => ⟨v, by rw [hρ]; exact h1, h2.any rfl hw hf, h3⟩
  | .gen p d, ⟨v, h1, h2⟩, hc, hw, hf, hρ => ⟨v, by rw [hρ]; exact h1, by rw [hw]; exact h2⟩
theorem InvM.one {c : Cx} {mem : Mem} {i : Nat} {b : MB} (h : InvM c mem) (hi : mem i = some b) (hb : b.nmb 0 = true) : InvM (c.one i) (mkM [(0, b)]) := by
  obtain ⟨hf, S, h1, h2, h3⟩ := h
  have hm : ∀ j mb, mkM [(0, b)] j = some mb → j = 0 ∧ mb = b := by
    intro j mb hj
    simp only [mkM, upd] at hj
    split at hj
    · rename_i e; cases hj; exact ⟨e, rfl⟩
    · cases hj
  have hne : ∀ j, mkM [(0, b)] j ≠ none → j = 0 := fun j hj => by
    obtain ⟨mb, hmb⟩ := Option.ne_none_iff_exists'.1 hj
    exact (hm j mb hmb).1
  refine ⟨⟨hf.lt, hf.glob⟩, fun _ => S i, ?_, ?_, ?_⟩
  · intro j mb hj
    obtain ⟨rfl, rfl⟩ := hm j mb hj
    exact MRep.move (h1 i _ hi) hb rfl rfl (by simp [Cx.one])
  · intro j k b' hj hk hjk
    exact absurd ((hne j hj).trans (hne k hk).symm) hjk
  · intro j b' _ hs
    exact h3 i b' (by rw [hi]; simp) hs
/-- What a call over one block does to all memory: T tells which local name a global one now is. -/
theorem Step.lift {c c1 : Cx} {mem m1 mem' : Mem} {n n' k1 i : Nat} {b0 : MB} {ρ' : Nat → Option Value} (hI : InvM c mem) (hn : Names c n) (hi : mem i = some b0) (hb0 : b0.nmb 0 = true) (st : Step (c.one i) (mkM [(0, b0)]) 1 c1 m1 k1)
    (T : Nat → Option Nat) (hT : ∀ l a, T l = some a → l = i ∧ a = 0 ∨ l = n) (hinj : ∀ l l' a, T l = some a → T l' = some a → l = l')
    (hm : ∀ l mb, mem' l = some mb → (∃ a, T l = some a ∧ m1 a = some mb ∧ mb.nmb 0 = true) ∨ T l = none ∧ l ≠ i ∧ l ≠ n ∧ mem l = some mb)
    (hρ : ∀ l, l < n → ρ' l = c.ρ l) (hρn : ∀ l, n' ≤ l → ρ' l = none) (hρT : ∀ a, T n = some a → ρ' n = c1.ρ a) (hρ1 : ∀ v, ρ' n = some v → v.oneCell' = true) (hnn : n' = n ∨ n' = n + 1) :
    Step c mem n ⟨c1.w, c1.fz, ρ'⟩ mem' n' := by
  classical
  have hin : i < n := Nat.lt_of_not_le fun hle => by
    obtain ⟨_, S, h1, _, _⟩ := hI
    obtain ⟨v, hv⟩ := (h1 i b0 hi).ρ
    rw [hn.1 i hle] at hv; cases hv
  obtain ⟨hf, S, h1, h2, h3⟩ := id hI
  obtain ⟨hf1, S1, g1, g2, g3⟩ := st.inv
  have hmine : ∀ b, Mine (c.one i) (mkM [(0, b0)]) b ↔ S i b := by
    intro b
    have hr : MRep (c.one i) 0 (S i) b0 := MRep.move (h1 i _ hi) hb0 rfl rfl (by simp [Cx.one])
    constructor
    · rintro ⟨j, U, mb, hj, hR, hU⟩
      simp only [mkM, upd] at hj
      split at hj
      · rename_i e; subst e; cases hj
        have := MRep.det hR hr
        subst this
        exact hU
      · cases hj
    · intro hb
      exact ⟨0, S i, b0, by simp [mkM, upd], hr, hb⟩
  have hle : c.Le ⟨c1.w, c1.fz, ρ'⟩ := ⟨st.le.fz, fun b hb o => st.le.cell b hb o, fun l v hl => by
    have : l < n := Nat.lt_of_not_le fun hle => by rw [hn.1 l hle] at hl; cases hl
    show ρ' l = some v
    rw [hρ l this]; exact hl⟩
  have hlt : ∀ l b, mem l ≠ none → S l b → b < c.w.heap.size := by
    intro l b hl hb
    obtain ⟨mb, hmb⟩ := Option.ne_none_iff_exists'.1 hl
    exact (h1 l mb hmb).lt hb
  have hS1 : ∀ a b, m1 a ≠ none → S1 a b → S i b ∨ c.w.heap.size ≤ b := by
    intro a b ha hb
    obtain ⟨mb, hmb⟩ := Option.ne_none_iff_exists'.1 ha
    exact (st.mine b ⟨a, S1 a, mb, hmb, g1 a mb hmb, hb⟩).imp (hmine b).1 id
  -- what a global name has
  have hcase : ∀ l, mem' l ≠ none → (∃ a mb, T l = some a ∧ m1 a = some mb ∧ mem' l = some mb ∧ mb.nmb 0 = true) ∨ (T l = none ∧ l ≠ i ∧ l ≠ n ∧ mem l ≠ none ∧ mem' l = mem l) := by
    intro l hl
    obtain ⟨mb, hmb⟩ := Option.ne_none_iff_exists'.1 hl
    rcases hm l mb hmb with ⟨a, h, h', h''⟩ | ⟨h, h', h'', h'''⟩
    · exact .inl ⟨a, mb, h, h', hmb, h''⟩
    · exact .inr ⟨h, h', h'', by rw [h''']; simp, by rw [hmb, h''']⟩
  have hblk : ∀ l b, mem l ≠ none → l ≠ i → S l b → c1.w.heap[b]? = c.w.heap[b]? := by
    intro l b hl hli hb
    refine st.block b (hlt l b hl hb) (fun hm' => ?_)
    exact h2 l i b hl (by rw [hi]; simp) hli hb ((hmine b).1 hm')
  have hrep : ∀ l mb, mem' l = some mb → MRep ⟨c1.w, c1.fz, ρ'⟩ l (match T l with | some a => S1 a | none => S l) mb := by
    intro l mb hl
    rcases hm l mb hl with ⟨a, hTl, ha, hc⟩ | ⟨hTl, hli, hln, hl'⟩
    · rw [hTl]
      refine MRep.move (g1 a mb ha) hc rfl rfl ?_
      show ρ' l = c1.ρ a
      rcases hT l a hTl with ⟨rfl, rfl⟩ | rfl
      · rw [hρ l hin, st.ρ 0 (by omega)]; simp [Cx.one]
      · exact hρT a hTl
    · rw [hTl]
      exact MRep.mono hle (fun b hb => hblk l b (by rw [hl']; simp) hli hb) (h1 l mb hl')
  refine ⟨⟨⟨hf1.lt, hf1.glob⟩, _, hrep, ?_, ?_⟩, hle, st.os, st.tape, st.output, st.size, fun b hb hm' => st.block b hb (fun h => hm' ⟨i, S i, b0, hi, h1 i b0 hi, (hmine b).1 h⟩), ?_,
    fun b hb => (st.fzNew b hb).imp id (fun h => h.imp (fun h => ⟨i, S i, b0, hi, h1 i b0 hi, (hmine b).1 h⟩) id), by omega, hρ, ⟨hρn, fun l v hl => ?_⟩⟩
  · intro l l' b hl hl' hne hb hb'
    rcases hcase l hl with ⟨a, mb, e1, e2, _⟩ | ⟨e1, e2, e3, e4, _⟩ <;> rcases hcase l' hl' with ⟨a', mb', e1', e2', _⟩ | ⟨e1', e2', e3', e4', _⟩ <;> rw [e1] at hb <;> rw [e1'] at hb'
    · have : a ≠ a' := fun e => hne (hinj l l' a e1 (e ▸ e1'))
      exact g2 a a' b (by rw [e2]; simp) (by rw [e2']; simp) this hb hb'
    · rcases hS1 a b (by rw [e2]; simp) hb with h | h
      · exact h2 l' i b e4' (by rw [hi]; simp) e2' hb' h
      · have := hlt l' b e4' hb'; omega
    · rcases hS1 a' b (by rw [e2']; simp) hb' with h | h
      · exact h2 l i b e4 (by rw [hi]; simp) e2 hb h
      · have := hlt l b e4 hb; omega
    · exact h2 l l' b e4 e4' hne hb hb'
  · intro l b hl hb
    rcases hcase l hl with ⟨a, mb, e1, e2, _⟩ | ⟨e1, e2, e3, e4, _⟩ <;> rw [e1] at hb
    · exact g3 a b (by rw [e2]; simp) hb
    · intro hfz
      rcases st.fzNew b hfz with h | h | h
      · exact h3 l b e4 hb h
      · exact h2 l i b e4 (by rw [hi]; simp) e2 hb ((hmine b).1 h)
      · have h9 := hlt l b e4 hb
        have h8 : c.w.heap.size ≤ b := h
        omega
  · rintro b ⟨l, U, mb, hl, hR, hb⟩
    have e := MRep.det hR (hrep l mb hl)
    subst e
    rcases hcase l (by rw [hl]; simp) with ⟨a, mb', e1, e2, _⟩ | ⟨e1, e2, e3, e4, e5⟩ <;> rw [e1] at hb
    · exact (hS1 a b (by rw [e2]; simp) hb).imp (fun h => ⟨i, S i, b0, hi, h1 i b0 hi, h⟩) id
    · rw [hl] at e5
      exact .inl ⟨l, S l, mb, e5.symm, h1 l mb e5.symm, hb⟩
  · have hl3 : ρ' l = some v := hl
    have hl' : l < n' := Nat.lt_of_not_le fun hle => by have := hρn l hle; rw [hl3] at this; cases this
    by_cases e : l = n
    · subst e; exact hρ1 v hl
    · have hl2 : ρ' l = some v := hl
      rw [hρ l (by omega)] at hl2
      exact hn.2 l v hl2
theorem frz_not : ∀ {is : List Nat} {m : Mem} {j : Nat}, j ∉ is → frz m is j = m j
  | [], _, _, _ => rfl
  | i :: is, m, j, h => by
    show frz (frz1 m i) is j = m j
    rw [frz_not (fun h' => h (by simp [h'])), frz1_other (fun e => h (by simp [e]))]
/-- At the end: the block 0 is as b' says, and the result is plain. -/
def FinV (P : Program) (rs : List ResultVar) (K : PV → MB → Prop) : AX → AS → Prop := Fin P rs fun r mem _ => (res mem r).nmb 0 = true ∧ 0 ∉ owns r ∧ ∃ b', mem 0 = some b' ∧ b'.nmb 0 = true ∧ K (res mem r) b'
/-- At the end: the block 0 is as b' says, and the result is a row of one's own. -/
def FinO (P : Program) (rs : List ResultVar) (K : List (List PV) → MB → Prop) (e : TypeId) (s : Nat) : AX → AS → Prop := Fin P rs fun r mem _ => ∃ j es b', r = .own j ∧ j ≠ 0 ∧ mem j = some (.row e s es) ∧ mem 0 = some b' ∧ b'.nmb 0 = true ∧ K es b'
/-- At the end: the result is a row of one's own; the block 0 is gone. -/
def FinX (P : Program) (rs : List ResultVar) (K : List (List PV) → Prop) (e : TypeId) (s : Nat) : AX → AS → Prop := Fin P rs fun r mem _ => ∃ j es, r = .own j ∧ mem j = some (.row e s es) ∧ K es
theorem repL_one {c : Cx} {i n : Nat} (hn : Names c n) (hi : i < n) {us : List PV} {v : Value} {vs : List Value} {off : Nat} (h : RepL (.ref i off :: us) c (v :: vs)) (hc : nmbL 0 us = true) : RepL (.ref 0 off :: us) (c.one i) (v :: vs) := by
  rw [RepL.cons_iff] at h ⊢
  obtain ⟨x, xs, e, h1, h2⟩ := h
  refine ⟨x, xs, e, ?_, h2.any hc rfl rfl⟩
  unfold Rep at *
  obtain ⟨u, b, a1, a2, a3⟩ := h1
  exact ⟨u, b, by simp [Cx.one, a1], a2, a3⟩
theorem repL_oneO {c : Cx} {i n : Nat} (hn : Names c n) (hi : i < n) {us : List PV} {v : Value} {vs : List Value} (h : RepL (.own i :: us) c (v :: vs)) (hc : nmbL 0 us = true) : RepL (.own 0 :: us) (c.one i) (v :: vs) := by
  rw [RepL.cons_iff] at h ⊢
  obtain ⟨x, xs, e, h1, h2⟩ := h
  refine ⟨x, xs, e, ?_, h2.any hc rfl rfl⟩
  unfold Rep at *
  simp [Cx.one, h1]
/-- A function over one block that hands back plain data. -/
def locV {α : Type} (args : α → List PV) (B : α → MB) (pre : α → Prop) (post : α → PV → MB → Prop) : AC := fun as mem n K =>
  ∃ x i, as = .ref i 0 :: args x ∧ pre x ∧ mem i = some (B x) ∧ ∀ r b', post x r b' → K r (upd mem i (some b')) n
/-- .. a row of one's own. -/
def locO {α : Type} (e : TypeId) (s : Nat) (args : α → List PV) (B : α → MB) (pre : α → Prop) (post : α → List (List PV) → MB → Prop) : AC := fun as mem n K =>
  ∃ x i, as = .ref i 0 :: args x ∧ pre x ∧ mem i = some (B x) ∧ ∀ es b', post x es b' → K (.own n) (upd (upd mem i (some b')) n (some (.row e s es))) (n + 1)
/-- A function that takes a row and hands back one. -/
def locX {α : Type} (e : TypeId) (s : Nat) (args : α → List PV) (B : α → MB) (pre : α → Prop) (post : α → List (List PV) → Prop) : AC := fun as mem n K =>
  ∃ x i, as = .own i :: args x ∧ pre x ∧ mem i = some (B x) ∧ ∀ es, post x es → K (.own n) (upd (upd mem i none) n (some (.row e s es))) (n + 1)
section
variable {P : Program} {Γ : Ctr} {G : PCtr} {α : Type} {args : α → List PV} {B : α → MB} {pre : α → Prop}
theorem name_lt {c : Cx} {mem : Mem} {n i : Nat} {b : MB} (hI : InvM c mem) (hn : Names c n) (hi : mem i = some b) : i < n := Nat.lt_of_not_le fun hle => by
  obtain ⟨_, S, h1, _, _⟩ := hI
  obtain ⟨v, hv⟩ := (h1 i b hi).ρ
  rw [hn.1 i hle] at hv; cases hv
theorem locV_ok {post : α → PV → MB → Prop} (m : Nat) (hΓ : ∀ f C, Γ f = some C → ACok P f C) (hG : ∀ f R, G f = some R → PureOk P f R) (hm : P.follows .mixedOrders = true) {f : FuncId} {fn : Func} {code : Code} (rs : List ResultVar) (hf : P.funcs[f]? = some fn) (hb : fn.body = some code) (hrs : fn.results.toList = rs) (hN : codeN fn.ntmps code = true)
    (hname : (fn.name == "runtime.NumGoroutine") = false) (hl : ∀ x, (args x).length + 1 = m) (hle : Nat.ble m fn.ntmps = true) (hca : ∀ x, nmbL 0 (args x) = true) (hcb : ∀ x, (B x).nmb 0 = true)
    (h : ∀ x K, pre x → (∀ r b', post x r b' → K r b') → awp P G Γ 1 code (FinV P rs K) (entry (.ref 0 0 :: args x) (mkM [(0, B x)]) 1)) : ACok P f (locV args B pre post) := by
  subst hrs
  refine ⟨⟨fn, hf, by rw [hb]; rfl, hname⟩, fun c mem n as vs K hI hn hr hC => ?_⟩
  obtain ⟨x, i, rfl, hp, hi, hK⟩ := hC
  have hin := name_lt hI hn hi
  obtain ⟨v, vs', rfl⟩ : ∃ v vs', vs = v :: vs' := by
    cases vs with
    | nil => rw [RepL.cons_iff] at hr; obtain ⟨_, _, e, _⟩ := hr; cases e
    | cons v vs' => exact ⟨v, vs', rfl⟩
  have hr1 := repL_one hn hin hr (hca x)
  refine (calls_of_body hΓ hG hm hf hb hN (hI.one hi (hcb x)) (Names.one hn) hr1 (by have := hl x; rw [List.length_cons, this]; exact Nat.le_of_ble_eq_true hle) (K := fun r mem _ => (res mem r).nmb 0 = true ∧ 0 ∉ owns r ∧ ∃ b', mem 0 = some b' ∧ b'.nmb 0 = true ∧ post x (res mem r) b') (h x (fun r b' => post x r b') hp (fun _ _ h => h))).mono ?_
  rintro e w' ⟨v', r, c1, m1, k1, rfl, rfl, ⟨hr0, hno, b', hb1, hb2, hpost⟩, st, hrep⟩
  obtain ⟨c2, e1, e2, st2⟩ := Step.frz (owns r) st.inv st.free
  have hrep2 : Rep (res m1 r) c2 v' := rep_res st2.inv (frz_fits m1 (owns r)) (Rep.mono _ st2.le hrep)
  have h0 : frz m1 (owns r) 0 = some b' := by rw [frz_not hno]; exact hb1
  have stA := st.trans st2
  refine ⟨v', _, ⟨c2.w, c2.fz, c.ρ⟩, _, _, rfl, e1, hK _ _ hpost, ?_, hrep2.any hr0 rfl rfl⟩
  refine Step.lift hI hn hi (hcb x) stA (fun l => if l = i then some 0 else none) ?_ ?_ ?_ (fun _ _ => rfl) (fun l hl => hn.1 l hl) ?_ ?_ (.inl rfl)
  · intro l a hl
    by_cases e : l = i
    · rw [if_pos e] at hl; cases hl; exact .inl ⟨e, rfl⟩
    · rw [if_neg e] at hl; cases hl
  · intro l l' a hl hl'
    by_cases e : l = i
    · by_cases e' : l' = i
      · rw [e, e']
      · rw [if_neg e'] at hl'; cases hl'
    · rw [if_neg e] at hl; cases hl
  · intro l mb hl
    by_cases e : l = i
    · subst e; rw [upd_same] at hl; cases hl; exact .inl ⟨0, if_pos rfl, h0, hb2⟩
    · rw [upd_other _ _ e] at hl
      refine .inr ⟨if_neg e, e, ?_, hl⟩
      rintro rfl
      exact absurd (name_lt hI hn hl) (Nat.lt_irrefl _)
  · intro a ha
    rw [if_neg (by omega)] at ha; cases ha
  · intro v hv; rw [hn.1 n (Nat.le_refl _)] at hv; cases hv
theorem locO_ok {e : TypeId} {s : Nat} {post : α → List (List PV) → MB → Prop} (m : Nat) (hΓ : ∀ f C, Γ f = some C → ACok P f C) (hG : ∀ f R, G f = some R → PureOk P f R) (hm : P.follows .mixedOrders = true) {f : FuncId} {fn : Func} {code : Code} (rs : List ResultVar) (hf : P.funcs[f]? = some fn) (hb : fn.body = some code) (hrs : fn.results.toList = rs) (hN : codeN fn.ntmps code = true)
    (hname : (fn.name == "runtime.NumGoroutine") = false) (hl : ∀ x, (args x).length + 1 = m) (hle : Nat.ble m fn.ntmps = true) (hca : ∀ x, nmbL 0 (args x) = true) (hcb : ∀ x, (B x).nmb 0 = true)
    (h : ∀ x K, pre x → (∀ es b', post x es b' → K es b') → awp P G Γ 1 code (FinO P rs K e s) (entry (.ref 0 0 :: args x) (mkM [(0, B x)]) 1)) : ACok P f (locO e s args B pre post) := by
  subst hrs
  refine ⟨⟨fn, hf, by rw [hb]; rfl, hname⟩, fun c mem n as vs K hI hn hr hC => ?_⟩
  obtain ⟨x, i, rfl, hp, hi, hK⟩ := hC
  have hin := name_lt hI hn hi
  obtain ⟨v, vs', rfl⟩ : ∃ v vs', vs = v :: vs' := by
    cases vs with
    | nil => rw [RepL.cons_iff] at hr; obtain ⟨_, _, e, _⟩ := hr; cases e
    | cons v vs' => exact ⟨v, vs', rfl⟩
  have hr1 := repL_one hn hin hr (hca x)
  refine (calls_of_body hΓ hG hm hf hb hN (hI.one hi (hcb x)) (Names.one hn) hr1 (by have := hl x; rw [List.length_cons, this]; exact Nat.le_of_ble_eq_true hle) (K := fun r mem _ => ∃ j es b', r = .own j ∧ j ≠ 0 ∧ mem j = some (.row e s es) ∧ mem 0 = some b' ∧ b'.nmb 0 = true ∧ post x es b') (h x (fun es b' => post x es b') hp (fun _ _ h => h))).mono ?_
  rintro e w' ⟨v', r, c1, m1, k1, rfl, rfl, ⟨j, es, b', rfl, hj0, hj, hb1, hb2, hpost⟩, st, hrep⟩
  have hrj : c1.ρ j = some v' := by unfold Rep at hrep; exact hrep
  have hnm : mem n = none := free_mem hI hn
  refine ⟨v', _, ⟨c1.w, c1.fz, upd c.ρ n (some v')⟩, _, _, rfl, rfl, hK _ _ hpost, ?_, by unfold Rep; exact upd_same _ _ _⟩
  refine Step.lift hI hn hi (hcb x) st (fun l => if l = i then some 0 else if l = n then some j else none) ?_ ?_ ?_ (fun l hl => upd_other _ _ (by omega)) (fun l hl => by rw [upd_other _ _ (by omega)]; exact hn.1 l (by omega)) ?_ ?_ (.inr rfl)
  · intro l a hl
    by_cases e : l = i
    · rw [if_pos e] at hl; cases hl; exact .inl ⟨e, rfl⟩
    · rw [if_neg e] at hl
      by_cases e' : l = n
      · exact .inr e'
      · rw [if_neg e'] at hl; cases hl
  · intro l l' a hl hl'
    by_cases e : l = i
    · rw [if_pos e] at hl; cases hl
      by_cases e' : l' = i
      · rw [e, e']
      · rw [if_neg e'] at hl'
        by_cases e2 : l' = n
        · rw [if_pos e2] at hl'; cases hl'; exact absurd rfl hj0
        · rw [if_neg e2] at hl'; cases hl'
    · rw [if_neg e] at hl
      by_cases e1 : l = n
      · rw [if_pos e1] at hl; cases hl
        by_cases e' : l' = i
        · rw [if_pos e'] at hl'; cases hl'; exact absurd rfl hj0
        · rw [if_neg e'] at hl'
          by_cases e2 : l' = n
          · rw [e1, e2]
          · rw [if_neg e2] at hl'; cases hl'
      · rw [if_neg e1] at hl; cases hl
  · intro l mb hl
    by_cases e : l = n
    · subst e; rw [upd_same] at hl; cases hl
      exact .inl ⟨j, by rw [if_neg (by omega), if_pos rfl], hj, rfl⟩
    · rw [upd_other _ _ e] at hl
      by_cases e' : l = i
      · subst e'; rw [upd_same] at hl; cases hl; exact .inl ⟨0, if_pos rfl, hb1, hb2⟩
      · rw [upd_other _ _ e'] at hl
        exact .inr ⟨by rw [if_neg e', if_neg e], e', e, hl⟩
  · intro a ha
    rw [if_neg (by omega), if_pos rfl] at ha; cases ha
    rw [upd_same]; exact hrj.symm
  · intro v hv; rw [upd_same] at hv; cases hv; exact st.free.2 _ _ hrj
theorem locX_ok {e : TypeId} {s : Nat} {post : α → List (List PV) → Prop} (m : Nat) (hΓ : ∀ f C, Γ f = some C → ACok P f C) (hG : ∀ f R, G f = some R → PureOk P f R) (hm : P.follows .mixedOrders = true) {f : FuncId} {fn : Func} {code : Code} (rs : List ResultVar) (hf : P.funcs[f]? = some fn) (hb : fn.body = some code) (hrs : fn.results.toList = rs) (hN : codeN fn.ntmps code = true)
    (hname : (fn.name == "runtime.NumGoroutine") = false) (hl : ∀ x, (args x).length + 1 = m) (hle : Nat.ble m fn.ntmps = true) (hca : ∀ x, nmbL 0 (args x) = true) (hcb : ∀ x, (B x).nmb 0 = true)
    (h : ∀ x K, pre x → (∀ es, post x es → K es) → awp P G Γ 1 code (FinX P rs K e s) (entry (.own 0 :: args x) (mkM [(0, B x)]) 1)) : ACok P f (locX e s args B pre post) := by
  subst hrs
  refine ⟨⟨fn, hf, by rw [hb]; rfl, hname⟩, fun c mem n as vs K hI hn hr hC => ?_⟩
  obtain ⟨x, i, rfl, hp, hi, hK⟩ := hC
  have hin := name_lt hI hn hi
  obtain ⟨v, vs', rfl⟩ : ∃ v vs', vs = v :: vs' := by
    cases vs with
    | nil => rw [RepL.cons_iff] at hr; obtain ⟨_, _, e, _⟩ := hr; cases e
    | cons v vs' => exact ⟨v, vs', rfl⟩
  have hr1 := repL_oneO hn hin hr (hca x)
  refine (calls_of_body hΓ hG hm hf hb hN (hI.one hi (hcb x)) (Names.one hn) hr1 (by have := hl x; rw [List.length_cons, this]; exact Nat.le_of_ble_eq_true hle) (K := fun r mem _ => ∃ j es, r = .own j ∧ mem j = some (.row e s es) ∧ post x es) (h x (fun es => post x es) hp (fun _ h => h))).mono ?_
  rintro e w' ⟨v', r, c1, m1, k1, rfl, rfl, ⟨j, es, rfl, hj, hpost⟩, st, hrep⟩
  have hrj : c1.ρ j = some v' := by unfold Rep at hrep; exact hrep
  have hnm : mem n = none := free_mem hI hn
  refine ⟨v', _, ⟨c1.w, c1.fz, upd c.ρ n (some v')⟩, _, _, rfl, rfl, hK _ hpost, ?_, by unfold Rep; exact upd_same _ _ _⟩
  refine Step.lift hI hn hi (hcb x) st (fun l => if l = n then some j else none) ?_ ?_ ?_ (fun l hl => upd_other _ _ (by omega)) (fun l hl => by rw [upd_other _ _ (by omega)]; exact hn.1 l (by omega)) ?_ ?_ (.inr rfl)
  · intro l a hl
    by_cases e' : l = n
    · exact .inr e'
    · rw [if_neg e'] at hl; cases hl
  · intro l l' a hl hl'
    by_cases e1 : l = n
    · by_cases e2 : l' = n
      · rw [e1, e2]
      · rw [if_neg e2] at hl'; cases hl'
    · rw [if_neg e1] at hl; cases hl
  · intro l mb hl
    by_cases e : l = n
    · subst e; rw [upd_same] at hl; cases hl
      exact .inl ⟨j, if_pos rfl, hj, rfl⟩
    · rw [upd_other _ _ e] at hl
      by_cases e' : l = i
      · subst e'; rw [upd_same] at hl; cases hl
      · rw [upd_other _ _ e'] at hl
        exact .inr ⟨if_neg e, e', e, hl⟩
  · intro a ha
    rw [if_pos rfl] at ha; cases ha
    rw [upd_same]; exact hrj.symm
  · intro v hv; rw [upd_same] at hv; cases hv; exact st.free.2 _ _ hrj
end
section
variable {P : Program} {rs : List ResultVar} {σ : AS}
theorem fin_V {K : PV → MB → Prop} (h : aRes P σ rs fun us => (res σ.mem (packR us)).nmb 0 = true ∧ 0 ∉ owns (packR us) ∧ ∃ b', σ.mem 0 = some b' ∧ b'.nmb 0 = true ∧ K (res σ.mem (packR us)) b') : FinV P rs K .ret σ := h
theorem fin_Ve {K : PV → MB → Prop} (h : aRes P σ rs fun us => (res σ.mem (packR us)).nmb 0 = true ∧ 0 ∉ owns (packR us) ∧ ∃ b', σ.mem 0 = some b' ∧ b'.nmb 0 = true ∧ K (res σ.mem (packR us)) b') : FinV P rs K .normal σ := h
theorem fin_O {K : List (List PV) → MB → Prop} {e : TypeId} {s : Nat} (h : aRes P σ rs fun us => ∃ j es b', packR us = .own j ∧ j ≠ 0 ∧ σ.mem j = some (.row e s es) ∧ σ.mem 0 = some b' ∧ b'.nmb 0 = true ∧ K es b') : FinO P rs K e s .ret σ := h
theorem fin_Oe {K : List (List PV) → MB → Prop} {e : TypeId} {s : Nat} (h : aRes P σ rs fun us => ∃ j es b', packR us = .own j ∧ j ≠ 0 ∧ σ.mem j = some (.row e s es) ∧ σ.mem 0 = some b' ∧ b'.nmb 0 = true ∧ K es b') : FinO P rs K e s .normal σ := h
theorem fin_X {K : List (List PV) → Prop} {e : TypeId} {s : Nat} (h : aRes P σ rs fun us => ∃ j es, packR us = .own j ∧ σ.mem j = some (.row e s es) ∧ K es) : FinX P rs K e s .ret σ := h
theorem fin_Xe {K : List (List PV) → Prop} {e : TypeId} {s : Nat} (h : aRes P σ rs fun us => ∃ j es, packR us = .own j ∧ σ.mem j = some (.row e s es) ∧ K es) : FinX P rs K e s .normal σ := h
end
end Go.Proofs.YtoocbpendccngaaGreat

/- Results that are new rows; arguments that are lent. No program. -/
namespace Go.Proofs.YtoocbpendccngaaGreat
set_option maxRecDepth 100000
set_option linter.unusedVariables false
set_option linter.unusedSimpArgs false
open Go.RowKit
/-- A value without memory. -/
def plainU : PV → Bool
  | .int .. | .bool _ | .str _ => true
  | _ => false
def plainV : PV → Bool
  | .agg cs => cs.all plainU
  | .tup cs => cs.all plainU
  | u => plainU u
theorem rep_plainU {u : PV} {c c' : Cx} {v : Value} (h : plainU u = true) (hr : Rep u c v) : Rep u c' v := by
  cases u <;> simp [plainU] at h <;> (unfold Rep at *; exact hr)
theorem repL_plain {c c' : Cx} : ∀ {us : List PV} {vs : List Value}, us.all plainU = true → RepL us c vs → RepL us c' vs
  | [], vs, _, h => by rw [RepL.nil_iff] at *; exact h
  | u :: us, vs, h, hr => by
    simp only [List.all_cons, Bool.and_eq_true] at h
    rw [RepL.cons_iff] at *
    obtain ⟨x, xs, rfl, h1, h2⟩ := hr
    exact ⟨x, xs, rfl, rep_plainU h.1 h1, repL_plain h.2 h2⟩
section
variable {P : Program}
variable {Γ : Ctr} {G : PCtr} {α : Type} {args : α → List PV} {pre : α → Prop}
end
end Go.Proofs.YtoocbpendccngaaGreat

/- Functions over one lent block, whatever their arguments; a variable that holds a row, as one block. No program. -/
namespace Go.Proofs.YtoocbpendccngaaGreat
set_option maxRecDepth 100000
set_option linter.unusedVariables false
set_option linter.unusedSimpArgs false
open Go.RowKit
theorem repL_oneG {c : Cx} {i : Nat} {us : List PV} {vs : List Value} (h : RepL (renL (fun _ => i) us) c vs) (hc : nmbL 1 us = true) : RepL us (c.one i) vs := RepL.nam us hc h
/-- A function over one block, that its arguments name somewhere; it hands back plain data. -/
def locG {α : Type} (args : α → List PV) (B : α → MB) (pre : α → Prop) (post : α → PV → MB → Prop) : AC := fun as mem n K =>
  ∃ x i, as = renL (fun _ => i) (args x) ∧ mem i = some (B x) ∧ pre x ∧ ∀ r b', post x r b' → K r (upd mem i (some b')) n
section
variable {P : Program} {Γ : Ctr} {G : PCtr} {α : Type} {args : α → List PV} {B : α → MB} {pre : α → Prop}
/-- What a call over one block leaves behind. -/
theorem Step.liftV {c : Cx} {mem : Mem} {n i : Nat} {b0 b' : MB} {c2 : Cx} {m2 : Mem} {k2 : Nat} {r : PV} {v' : Value} (hI : InvM c mem) (hn : Names c n) (hi : mem i = some b0) (hb0 : b0.nmb 0 = true)
    (stA : Step (c.one i) (mkM [(0, b0)]) 1 c2 m2 k2) (h0 : m2 0 = some b') (hb2 : b'.nmb 0 = true) (hr0 : r.nmb 0 = true) (hrep2 : Rep r c2 v') :
    Step c mem n ⟨c2.w, c2.fz, c.ρ⟩ (upd mem i (some b')) n ∧ Rep r ⟨c2.w, c2.fz, c.ρ⟩ v' := by
  refine ⟨Step.lift hI hn hi hb0 stA (fun l => if l = i then some 0 else none) ?_ ?_ ?_ (fun _ _ => rfl) (fun l hl => hn.1 l hl) ?_ ?_ (.inl rfl), hrep2.any hr0 rfl rfl⟩
  · intro l a hl
    by_cases e : l = i
    · rw [if_pos e] at hl; cases hl; exact .inl ⟨e, rfl⟩
    · rw [if_neg e] at hl; cases hl
  · intro l l' a hl hl'
    by_cases e : l = i
    · by_cases e' : l' = i
      · rw [e, e']
      · rw [if_neg e'] at hl'; cases hl'
    · rw [if_neg e] at hl; cases hl
  · intro l mb hl
    by_cases e : l = i
    · subst e; rw [upd_same] at hl; cases hl; exact .inl ⟨0, if_pos rfl, h0, hb2⟩
    · rw [upd_other _ _ e] at hl
      refine .inr ⟨if_neg e, e, ?_, hl⟩
      rintro rfl
      exact absurd (name_lt hI hn hl) (Nat.lt_irrefl _)
  · have hin := name_lt hI hn hi
    intro a ha
    rw [if_neg (by omega)] at ha; cases ha
  · intro v hv; rw [hn.1 n (Nat.le_refl _)] at hv; cases hv
theorem locG_ok {post : α → PV → MB → Prop} (m : Nat) (hΓ : ∀ f C, Γ f = some C → ACok P f C) (hG : ∀ f R, G f = some R → PureOk P f R) (hm : P.follows .mixedOrders = true) {f : FuncId} {fn : Func} {code : Code} (rs : List ResultVar) (hf : P.funcs[f]? = some fn) (hb : fn.body = some code) (hrs : fn.results.toList = rs) (hN : codeN fn.ntmps code = true)
    (hname : (fn.name == "runtime.NumGoroutine") = false) (hl : ∀ x, (args x).length = m) (hle : Nat.ble m fn.ntmps = true) (hca : ∀ x, nmbL 1 (args x) = true) (hcb : ∀ x, (B x).nmb 0 = true)
    (h : ∀ x K, pre x → (∀ r b', post x r b' → K r b') → awp P G Γ 1 code (FinV P rs K) (entry (args x) (mkM [(0, B x)]) 1)) : ACok P f (locG args B pre post) := by
  subst hrs
  refine ⟨⟨fn, hf, by rw [hb]; rfl, hname⟩, fun c mem n as vs K hI hn hr hC => ?_⟩
  obtain ⟨x, i, rfl, hi, hp, hK⟩ := hC
  refine (calls_of_body hΓ hG hm hf hb hN (hI.one hi (hcb x)) (Names.one hn) (repL_oneG hr (hca x)) (by rw [hl x]; exact Nat.le_of_ble_eq_true hle) (K := fun r mem _ => (res mem r).nmb 0 = true ∧ 0 ∉ owns r ∧ ∃ b', mem 0 = some b' ∧ b'.nmb 0 = true ∧ post x (res mem r) b') (h x (fun r b' => post x r b') hp (fun _ _ h => h))).mono ?_
  rintro e w' ⟨v', r, c1, m1, k1, rfl, rfl, ⟨hr0, hno, b', hb1, hb2, hpost⟩, st, hrep⟩
  obtain ⟨c2, e1, e2, st2⟩ := Step.frz (owns r) st.inv st.free
  have hrep2 : Rep (res m1 r) c2 v' := rep_res st2.inv (frz_fits m1 (owns r)) (Rep.mono _ st2.le hrep)
  have h0 : frz m1 (owns r) 0 = some b' := by rw [frz_not hno]; exact hb1
  obtain ⟨s1, s2⟩ := Step.liftV hI hn hi (hcb x) (st.trans st2) h0 hb2 hr0 hrep2
  exact ⟨v', _, ⟨c2.w, c2.fz, c.ρ⟩, _, _, rfl, e1, hK _ _ hpost, s1, s2⟩
end
def rowP (e : TypeId) (s : Nat) : OwnP where
  R d w v S := ∃ b t u vs es, d = [.seq es] ∧ v = .pointer (some ⟨b, 0, none⟩) ∧ Blk w b t #[u] ∧ w.ownsRow 0 e s u es.length vs ∧ RepL es.flatten ⟨w, fun _ => False, fun _ => none⟩ vs ∧ cellsOk es s ∧ es.all (·.all plainU) = true ∧ u.ownBlock ≠ some b ∧ u.oneCell' = true ∧ S = fun k => k = b ∨ u.ownBlock = some k
  mono := by
    rintro d w w' v S ⟨b, t, u, vs, es, h1, h2, h3, h4, h5, h6, h7, h8, h9, rfl⟩ hb
    refine ⟨b, t, u, vs, es, h1, h2, (hb b (.inl rfl)).trans h3, ownsRow_block h4 (fun k hk => hb k (.inr hk)), repL_plain ?_ h5, h6, h7, h8, h9, rfl⟩
    rw [List.all_eq_true] at h7 ⊢
    intro u hu
    obtain ⟨l, hl, hul⟩ := List.mem_flatten.1 hu
    exact List.all_eq_true.1 (h7 l hl) u hul
  lt := by
    rintro d w v S k ⟨b, t, u, vs, es, h1, h2, h3, h4, h5, h6, h7, h8, h9, rfl⟩ hk
    rcases hk with rfl | hk
    · exact h3.lt
    · exact ownBlock_lt h4 hk
  det := by
    rintro d w v S S' ⟨b, t, u, vs, es, h1, h2, h3, h4, h5, h6, h7, h8, h9, rfl⟩ ⟨b', t', u', vs', es', h1', h2', h3', h4', h5', h6', h7', h8', h9', rfl⟩
    rw [h2] at h2'
    injection h2' with e; injection e with e; injection e with e
    subst e
    have e3 : w.heap[b]? = _ := h3
    have e3' : w.heap[b]? = _ := h3'
    rw [e3] at e3'
    simp only [Option.some.injEq, Obj.cells.injEq] at e3'
    have : u = u' := by have := e3'.1; simpa using this
    rw [this]
theorem all_flat {es : List (List PV)} (h : es.all (·.all plainU) = true) : es.flatten.all plainU = true := by
  rw [List.all_eq_true] at h ⊢
  intro u hu
  obtain ⟨l, hl, hul⟩ := List.mem_flatten.1 hu
  exact List.all_eq_true.1 (h l hl) u hul
/-- A step that changes no world: other names, other groups. -/
theorem Step.re {c : Cx} {ρ' : Nat → Option Value} {mem mem' : Mem} {n n' : Nat} (hn : Names c n) (hI' : InvM ⟨c.w, c.fz, ρ'⟩ mem') (hρ : ∀ j, j < n → ρ' j = c.ρ j) (hn' : Names ⟨c.w, c.fz, ρ'⟩ n') (hle : n ≤ n')
    (hm : ∀ b, Mine ⟨c.w, c.fz, ρ'⟩ mem' b → Mine c mem b) : Step c mem n ⟨c.w, c.fz, ρ'⟩ mem' n' :=
  ⟨hI', ⟨fun _ h => h, fun _ _ _ => rfl, fun i v hi => by
    have hlt : i < n := Nat.lt_of_not_le fun hh => by rw [hn.1 i hh] at hi; cases hi
    show ρ' i = some v
    rw [hρ i hlt]; exact hi⟩, rfl, rfl, rfl, Nat.le_refl _, fun _ _ _ => rfl, fun b hb => .inl (hm b hb), fun b hb => .inl hb, hle, fun i hi => hρ i hi, hn'⟩
/-- The block is seen as a variable and its row. -/
theorem Step.openR {c : Cx} {mem : Mem} {n i : Nat} {e : TypeId} {s : Nat} {es : List (List PV)} (hI : InvM c mem) (hn : Names c n) (hi : mem i = some (.gen (rowP e s) [.seq es])) :
    ∃ ρ', Step c mem n ⟨c.w, c.fz, ρ'⟩ (upd (upd mem i (some (.box [.own n]))) n (some (.row e s es))) (n + 1) := by
  have hin := name_lt hI hn hi
  obtain ⟨hf, S, h1, h2, h3⟩ := id hI
  obtain ⟨v, hv, b, t, u, vs, es', g1, g2, g3, g4, g5, g6, g7, g8, g9, gS⟩ := h1 i _ hi
  simp only [List.cons.injEq, PV.seq.injEq, and_true] at g1
  subst g1
  let ρ' := upd c.ρ n (some u)
  have hρ : ∀ j, j < n → ρ' j = c.ρ j := fun j hj => upd_other _ _ (by omega)
  have hnn : ρ' n = some u := upd_same _ _ _
  have hle : c.Le ⟨c.w, c.fz, ρ'⟩ := ⟨fun _ h => h, fun _ _ _ => rfl, fun j v hj => by
    have hlt : j < n := Nat.lt_of_not_le fun hh => by rw [hn.1 j hh] at hj; cases hj
    show ρ' j = some v
    rw [hρ j hlt]; exact hj⟩
  let S' : Nat → Nat → Prop := fun j => if j = n then (fun k => u.ownBlock = some k) else if j = i then (· = b) else S j
  have hSi : ∀ k, S i k ↔ k = b ∨ u.ownBlock = some k := fun k => by rw [gS]
  have hmi : mem i ≠ none := by simp [hi]
  have hrep : ∀ j mb, upd (upd mem i (some (.box [.own n]))) n (some (.row e s es)) j = some mb → MRep ⟨c.w, c.fz, ρ'⟩ j (S' j) mb := by
    intro j mb hj
    simp only [upd] at hj
    by_cases ej : j = n
    · rw [if_pos ej] at hj; cases hj
      simp only [S', if_pos ej]
      exact ⟨u, vs, by rw [ej]; exact hnn, g4, repL_plain (all_flat g7) g5, g6, rfl⟩
    · rw [if_neg ej] at hj
      simp only [S', if_neg ej]
      by_cases ei : j = i
      · rw [if_pos ei] at hj; cases hj
        rw [if_pos ei]
        refine ⟨b, t, #[u], by show ρ' j = _; rw [ei, hρ i hin, hv, g2], g3, ?_, rfl⟩
        rw [RepL.cons_iff]
        exact ⟨u, [], rfl, by unfold Rep; exact hnn, RepL.nil_iff.2 rfl⟩
      · rw [if_neg ei] at hj ⊢
        exact MRep.mono hle (fun _ _ => rfl) (h1 j mb hj)
  have hkeep : ∀ j, j ≠ n → j ≠ i → upd (upd mem i (some (.box [.own n]))) n (some (.row e s es)) j ≠ none → mem j ≠ none := by
    intro j e1 e2 h
    rwa [upd_other _ _ e1, upd_other _ _ e2] at h
  have hub : ∀ k, u.ownBlock = some k → k ≠ b := fun k hk e => g8 (by rw [hk, e])
  refine ⟨ρ', Step.re hn ⟨hf.mono hle hf.lt, S', hrep, ?_, ?_⟩ hρ ⟨fun j hj => by show upd _ _ _ _ = _; rw [upd_other _ _ (by omega)]; exact hn.1 j (by omega), fun j v hj => ?_⟩ (by omega) ?_⟩
  · intro j l k hj hl hne hjk hlk
    simp only [S'] at hjk hlk
    by_cases e1 : j = n
    · rw [if_pos e1] at hjk
      by_cases e2 : l = n
      · exact hne (e1.trans e2.symm)
      rw [if_neg e2] at hlk
      by_cases e3 : l = i
      · rw [if_pos e3] at hlk; exact hub k hjk hlk
      · rw [if_neg e3] at hlk
        exact h2 l i k (hkeep l e2 e3 hl) hmi e3 hlk ((hSi k).2 (.inr hjk))
    · rw [if_neg e1] at hjk
      by_cases e2 : j = i
      · rw [if_pos e2] at hjk
        by_cases e3 : l = n
        · rw [if_pos e3] at hlk; exact hub k hlk hjk
        rw [if_neg e3] at hlk
        by_cases e4 : l = i
        · exact hne (e2.trans e4.symm)
        · rw [if_neg e4] at hlk
          exact h2 l i k (hkeep l e3 e4 hl) hmi e4 hlk ((hSi k).2 (.inl hjk))
      · rw [if_neg e2] at hjk
        have hmj := hkeep j e1 e2 hj
        by_cases e3 : l = n
        · rw [if_pos e3] at hlk
          exact h2 j i k hmj hmi e2 hjk ((hSi k).2 (.inr hlk))
        rw [if_neg e3] at hlk
        by_cases e4 : l = i
        · rw [if_pos e4] at hlk
          exact h2 j i k hmj hmi e2 hjk ((hSi k).2 (.inl hlk))
        · rw [if_neg e4] at hlk
          exact h2 j l k hmj (hkeep l e3 e4 hl) hne hjk hlk
  · intro j k hj hjk
    simp only [S'] at hjk
    by_cases e1 : j = n
    · rw [if_pos e1] at hjk; exact h3 i k hmi ((hSi k).2 (.inr hjk))
    rw [if_neg e1] at hjk
    by_cases e2 : j = i
    · rw [if_pos e2] at hjk; exact h3 i k hmi ((hSi k).2 (.inl hjk))
    · rw [if_neg e2] at hjk; exact h3 j k (hkeep j e1 e2 hj) hjk
  · have hj' : upd c.ρ n (some u) j = some v := hj
    simp only [upd] at hj'
    split at hj'
    · cases hj'; exact g9
    · exact hn.2 j v hj'
  · rintro k ⟨j, U, mb, hj, hR, hU⟩
    have := MRep.det hR (hrep j mb hj)
    subst this
    simp only [S'] at hU
    by_cases e1 : j = n
    · rw [if_pos e1] at hU; exact ⟨i, S i, _, hi, h1 i _ hi, (hSi k).2 (.inr hU)⟩
    rw [if_neg e1] at hU
    by_cases e2 : j = i
    · rw [if_pos e2] at hU; exact ⟨i, S i, _, hi, h1 i _ hi, (hSi k).2 (.inl hU)⟩
    · rw [if_neg e2] at hU
      rw [upd_other _ _ e1, upd_other _ _ e2] at hj
      exact ⟨j, S j, mb, hj, h1 j mb hj, hU⟩
/-- .. and the other way. -/
theorem Step.closeR {c : Cx} {mem : Mem} {n i j : Nat} {e : TypeId} {s : Nat} {es : List (List PV)} (hI : InvM c mem) (hn : Names c n) (hi : mem i = some (.box [.own j])) (hj : mem j = some (.row e s es)) (hp : es.all (·.all plainU) = true) :
    Step c mem n ⟨c.w, c.fz, c.ρ⟩ (upd (upd mem j none) i (some (.gen (rowP e s) [.seq es]))) n := by
  obtain ⟨hf, S, h1, h2, h3⟩ := id hI
  have hmi : mem i ≠ none := by simp [hi]
  have hmj : mem j ≠ none := by simp [hj]
  have hij : i ≠ j := fun h => by rw [h, hj] at hi; cases hi
  obtain ⟨b, t, us, a1, a2, a3, a4⟩ := h1 i _ hi
  obtain ⟨u, vs, b1, b2, b3, b4, b5⟩ := h1 j _ hj
  obtain ⟨x, xs, ex, hx, hxs⟩ := RepL.cons_iff.1 a3
  rw [RepL.nil_iff] at hxs
  subst hxs
  unfold Rep at hx
  rw [b1] at hx
  cases hx
  have eus : us = #[u] := by cases us; simp at ex; simp [ex]
  subst eus
  let S' : Nat → Nat → Prop := fun l => if l = i then (fun k => k = b ∨ u.ownBlock = some k) else S l
  have hne : u.ownBlock ≠ some b := fun h => h2 i j b hmi hmj hij (by rw [a4]) (by rw [b5]; exact h)
  have hrep : ∀ l mb, upd (upd mem j none) i (some (.gen (rowP e s) [.seq es])) l = some mb → MRep ⟨c.w, c.fz, c.ρ⟩ l (S' l) mb := by
    intro l mb hl
    simp only [upd] at hl
    by_cases e1 : l = i
    · rw [if_pos e1] at hl; cases hl
      simp only [S', if_pos e1]
      exact ⟨_, by show c.ρ l = _; rw [e1]; exact a1, b, t, u, vs, es, rfl, rfl, a2, b2, repL_plain (all_flat hp) b3, b4, hp, hne, hn.2 j u b1, rfl⟩
    · rw [if_neg e1] at hl
      by_cases e2 : l = j
      · rw [if_pos e2] at hl; cases hl
      · rw [if_neg e2] at hl
        simp only [S', if_neg e1]
        exact h1 l mb hl
  have hkeep : ∀ l, l ≠ i → upd (upd mem j none) i (some (.gen (rowP e s) [.seq es])) l ≠ none → l ≠ j ∧ mem l ≠ none := by
    intro l e1 hl
    rw [upd_other _ _ e1] at hl
    by_cases e2 : l = j
    · rw [e2, upd_same] at hl; exact absurd rfl hl
    · rw [upd_other _ _ e2] at hl; exact ⟨e2, hl⟩
  have hcase : ∀ l k, l ≠ i → l ≠ j → mem l ≠ none → S l k → ¬ (k = b ∨ u.ownBlock = some k) := by
    rintro l k e1 e2 hl hk (h | h)
    · exact h2 l i k hl hmi e1 hk (by rw [a4]; exact h)
    · exact h2 l j k hl hmj e2 hk (by rw [b5]; exact h)
  refine Step.re hn ⟨⟨hf.lt, hf.glob⟩, S', hrep, ?_, ?_⟩ (fun _ _ => rfl) hn (Nat.le_refl _) ?_
  · intro l l' k hl hl' hne' hk hk'
    simp only [S'] at hk hk'
    by_cases e1 : l = i
    · rw [if_pos e1] at hk
      have e2 : l' ≠ i := fun h => hne' (e1.trans h.symm)
      rw [if_neg e2] at hk'
      obtain ⟨f1, f2⟩ := hkeep l' e2 hl'
      exact hcase l' k e2 f1 f2 hk' hk
    · rw [if_neg e1] at hk
      obtain ⟨f1, f2⟩ := hkeep l e1 hl
      by_cases e2 : l' = i
      · rw [if_pos e2] at hk'; exact hcase l k e1 f1 f2 hk hk'
      · rw [if_neg e2] at hk'
        obtain ⟨f3, f4⟩ := hkeep l' e2 hl'
        exact h2 l l' k f2 f4 hne' hk hk'
  · intro l k hl hk
    simp only [S'] at hk
    by_cases e1 : l = i
    · rw [if_pos e1] at hk
      rcases hk with h | h
      · exact h3 i k hmi (by rw [a4]; exact h)
      · exact h3 j k hmj (by rw [b5]; exact h)
    · rw [if_neg e1] at hk
      exact h3 l k (hkeep l e1 hl).2 hk
  · rintro k ⟨l, U, mb, hl, hR, hU⟩
    have := MRep.det hR (hrep l mb hl)
    subst this
    simp only [S'] at hU
    by_cases e1 : l = i
    · rw [if_pos e1] at hU
      rcases hU with h | h
      · exact ⟨i, S i, _, hi, h1 i _ hi, by rw [a4]; exact h⟩
      · exact ⟨j, S j, _, hj, h1 j _ hj, by rw [b5]; exact h⟩
    · rw [if_neg e1] at hU
      rw [upd_other _ _ e1] at hl
      by_cases e2 : l = j
      · rw [e2, upd_same] at hl; cases hl
      · rw [upd_other _ _ e2] at hl
        exact ⟨l, S l, mb, hl, h1 l mb hl, hU⟩
section
variable {P : Program} {Γ : Ctr} {G : PCtr} {α : Type} {args : α → List PV} {B : α → List (List PV)} {pre : α → Prop}
/-- At the end: the variable holds a row, and the result is plain. -/
def FinB (P : Program) (rs : List ResultVar) (K : PV → List (List PV) → Prop) (e : TypeId) (s : Nat) : AX → AS → Prop := Fin P rs fun r mem _ => plainV r = true ∧ ∃ k es, mem 0 = some (.box [.own k]) ∧ mem k = some (.row e s es) ∧ es.all (·.all plainU) = true ∧ K r es
theorem fin_B {rs : List ResultVar} {σ : AS} {K : PV → List (List PV) → Prop} {e : TypeId} {s : Nat} (h : aRes P σ rs fun us => plainV (packR us) = true ∧ ∃ k es, σ.mem 0 = some (.box [.own k]) ∧ σ.mem k = some (.row e s es) ∧ es.all (·.all plainU) = true ∧ K (packR us) es) : FinB P rs K e s .ret σ := h
theorem fin_Be {rs : List ResultVar} {σ : AS} {K : PV → List (List PV) → Prop} {e : TypeId} {s : Nat} (h : aRes P σ rs fun us => plainV (packR us) = true ∧ ∃ k es, σ.mem 0 = some (.box [.own k]) ∧ σ.mem k = some (.row e s es) ∧ es.all (·.all plainU) = true ∧ K (packR us) es) : FinB P rs K e s .normal σ := h
theorem plain_nmb {r : PV} (h : plainV r = true) : r.nmb 0 = true ∧ owns r = [] ∧ ∀ m : Mem, res m r = r := by
  have hu : ∀ u : PV, plainU u = true → u.nmb 0 = true ∧ ownsC u = [] ∧ owns1 u = [] ∧ (∀ m : Mem, resC m u = u) ∧ ∀ m : Mem, res1 m u = u := by
    intro u h
    cases u <;> simp [plainU] at h <;> exact ⟨rfl, rfl, rfl, fun _ => rfl, fun _ => rfl⟩
  have hl : ∀ us : List PV, us.all plainU = true → nmbL 0 us = true ∧ us.flatMap ownsC = [] ∧ us.flatMap owns1 = [] ∧ (∀ m : Mem, us.map (resC m) = us) ∧ ∀ m : Mem, us.map (res1 m) = us := by
    intro us
    induction us with
    | nil => intro _; exact ⟨rfl, rfl, rfl, fun _ => rfl, fun _ => rfl⟩
    | cons u us ih =>
      intro h
      simp only [List.all_cons, Bool.and_eq_true] at h
      obtain ⟨a1, a2, a3, a4, a5⟩ := hu u h.1
      obtain ⟨b1, b2, b3, b4, b5⟩ := ih h.2
      exact ⟨by simp [nmbL, a1, b1], by simp [a2, b2], by simp [a3, b3], fun m => by simp [a4 m, b4 m], fun m => by simp [a5 m, b5 m]⟩
  cases r with
  | agg cs =>
    obtain ⟨b1, b2, b3, b4, b5⟩ := hl cs h
    exact ⟨by simpa [PV.nmb] using b1, by simpa [owns, owns1] using b2, fun m => by simp [res, res1, b4 m]⟩
  | tup cs =>
    obtain ⟨b1, b2, b3, b4, b5⟩ := hl cs h
    exact ⟨by simpa [PV.nmb] using b1, by simpa [owns] using b3, fun m => by simp [res, b5 m]⟩
  | int => exact ⟨rfl, rfl, fun _ => rfl⟩
  | bool => exact ⟨rfl, rfl, fun _ => rfl⟩
  | str => exact ⟨rfl, rfl, fun _ => rfl⟩
  | _ => simp [plainV, plainU] at h
/-- A function over a variable that holds a row. -/
theorem locB_ok {e : TypeId} {s : Nat} {post : α → PV → List (List PV) → Prop} (m : Nat) (hΓ : ∀ f C, Γ f = some C → ACok P f C) (hG : ∀ f R, G f = some R → PureOk P f R) (hm : P.follows .mixedOrders = true) {f : FuncId} {fn : Func} {code : Code} (rs : List ResultVar) (hf : P.funcs[f]? = some fn) (hb : fn.body = some code) (hrs : fn.results.toList = rs) (hN : codeN fn.ntmps code = true)
    (hname : (fn.name == "runtime.NumGoroutine") = false) (hl : ∀ x, (args x).length = m) (hle : Nat.ble m fn.ntmps = true) (hca : ∀ x, nmbL 1 (args x) = true)
    (h : ∀ x K, pre x → (∀ r es, post x r es → K r es) → awp P G Γ 2 code (FinB P rs K e s) (entry (args x) (mkM [(1, .row e s (B x)), (0, .box [.own 1])]) 2)) :
    ACok P f (locG args (fun x => .gen (rowP e s) [.seq (B x)]) pre (fun x r b' => ∃ es, b' = .gen (rowP e s) [.seq es] ∧ post x r es)) := by
  subst hrs
  refine ⟨⟨fn, hf, by rw [hb]; rfl, hname⟩, fun c mem n as vs K hI hn hr hC => ?_⟩
  obtain ⟨x, i, rfl, hi, hp, hK⟩ := hC
  have hI1 := hI.one hi rfl
  have hn1 : Names (c.one i) 1 := Names.one hn
  obtain ⟨ρ', st1⟩ := Step.openR (i := 0) (e := e) (s := s) (es := B x) hI1 hn1 (upd_same _ _ _)
  have hmem : upd (upd (mkM [(0, .gen (rowP e s) [.seq (B x)])]) 0 (some (.box [.own 1]))) 1 (some (.row e s (B x))) = mkM [(1, .row e s (B x)), (0, .box [.own 1])] := by
    funext j
    simp only [mkM, upd]
    by_cases e1 : j = 1
    · simp [e1]
    · by_cases e2 : j = 0 <;> simp [e1, e2]
  rw [hmem] at st1
  have hr1 : RepL (args x) ⟨(c.one i).w, (c.one i).fz, ρ'⟩ vs := RepL.mono _ st1.le (repL_oneG hr (hca x))
  refine (calls_of_body hΓ hG hm hf hb hN st1.inv st1.free hr1 (by rw [hl x]; exact Nat.le_of_ble_eq_true hle) (K := fun r mem _ => plainV r = true ∧ ∃ k es, mem 0 = some (.box [.own k]) ∧ mem k = some (.row e s es) ∧ es.all (·.all plainU) = true ∧ post x r es) (h x (fun r es => post x r es) hp (fun _ _ h => h))).mono ?_
  rintro e' w' ⟨v', r, c1, m1, k1, rfl, rfl, ⟨hpl, k, es, hb0, hbk, hall, hpost⟩, st, hrep⟩
  obtain ⟨p1, p2, p3⟩ := plain_nmb hpl
  have st3 := Step.closeR st.inv st.free hb0 hbk hall
  have stA := (st1.trans st).trans st3
  obtain ⟨s1, s2⟩ := Step.liftV hI hn hi rfl stA (upd_same _ _ _) rfl p1 (Rep.mono _ st3.le hrep)
  exact ⟨v', r, ⟨c1.w, c1.fz, c.ρ⟩, _, _, rfl, rfl, hK r _ ⟨es, rfl, hpost⟩, s1, s2⟩
end
/-- A function over such a block, called where the variable and its row are seen. -/
def seenR (e : TypeId) (s : Nat) (C : AC) : AC := fun as mem n K =>
  ∃ i j es, mem i = some (.box [.own j]) ∧ mem j = some (.row e s es) ∧ es.all (·.all plainU) = true ∧
    C as (upd (upd mem j none) i (some (.gen (rowP e s) [.seq es]))) n fun r m1 n1 => ∃ es', m1 i = some (.gen (rowP e s) [.seq es']) ∧ K r (upd (upd m1 i (some (.box [.own n1]))) n1 (some (.row e s es'))) (n1 + 1)
theorem seenR_ok {P : Program} {f : FuncId} {e : TypeId} {s : Nat} {C : AC} (h : ACok P f C) : ACok P f (seenR e s C) := by
  refine ⟨h.fn, fun c mem n as vs K hI hn hr hC => ?_⟩
  obtain ⟨i, j, es, hi, hj, hp, hC⟩ := hC
  have st1 := Step.closeR hI hn hi hj hp
  refine (h.run _ _ n as vs _ st1.inv st1.free (RepL.mono _ st1.le hr) hC).mono ?_
  rintro e' w' ⟨v', r, c1, m1, k1, rfl, rfl, ⟨es', hi', hK⟩, st, hrep⟩
  obtain ⟨ρ', st2⟩ := Step.openR st.inv st.free hi'
  exact ⟨v', r, ⟨c1.w, c1.fz, ρ'⟩, _, _, rfl, rfl, hK, (st1.trans st).trans st2, Rep.mono _ st2.le hrep⟩
end Go.Proofs.YtoocbpendccngaaGreat

/- A box of plain data is frozen; closures that lent blocks stand in: contracts in other words. No program. -/
namespace Go.Proofs.YtoocbpendccngaaGreat
set_option maxRecDepth 100000
set_option linter.unusedVariables false
set_option linter.unusedSimpArgs false
open Go.RowKit
theorem ACok.via {P : Program} {f : FuncId} {C C' : AC} (h : ACok P f C) (hc : ∀ args mem n K, C' args mem n K → C args mem n K) : ACok P f C' :=
  ⟨h.fn, fun c mem n args vs K hI hn hr hC => h.run c mem n args vs K hI hn hr (hc args mem n K hC)⟩
/-- Never called. -/
theorem locG_never {P : Program} {f : FuncId} {α : Type} {args : α → List PV} {B : α → MB} {pre : α → Prop} {post : α → PV → MB → Prop} (hf : ∃ fn, P.funcs[f]? = some fn ∧ fn.body.isNone = false ∧ (fn.name == "runtime.NumGoroutine") = false) (h : ∀ x, ¬ pre x) : ACok P f (locG args B pre post) :=
  ⟨hf, fun c mem n as vs K hI hn hr hC => by
    obtain ⟨x, i, _, _, hp, _⟩ := hC
    exact absurd hp (h x)⟩
end Go.Proofs.YtoocbpendccngaaGreat
