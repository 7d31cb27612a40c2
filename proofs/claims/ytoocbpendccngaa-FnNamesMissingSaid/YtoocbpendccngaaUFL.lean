/- Functions that work on one block of their caller's: proved over that block alone. No program. -/
import Derived.Test.YtoocbpendccngaaUF12

namespace Go.Proofs.Ytoocbpendccngaa
set_option maxRecDepth 100000
set_option linter.unusedVariables false
set_option linter.unusedSimpArgs false
open Go.RowKit
/-- The context of a call: the name 0 stands for what i stands for. -/
def Cx.one (c : Cx) (i : Nat) : Cx := ⟨c.w, c.fz, fun j => if j < 1 then c.ρ i else none⟩
theorem Names.one {c : Cx} {n i : Nat} (hn : Names c n) : Names (c.one i) 1 :=
  ⟨fun j hj => by simp only [Cx.one]; rw [if_neg (by omega)], fun j v hj => by
    simp only [Cx.one] at hj
    split at hj
    · exact hn.2 _ v hj
    · cases hj⟩
/-- Closed values stand for the same in any context of that world. -/
theorem Rep.any {u : PV} {c c' : Cx} {v : Value} (h : Rep u c v) (hc : u.nmb 0 = true) (hw : c'.w = c.w) (hf : c'.fz = c.fz) : Rep u c' v := by
  have h1 := h.to_data hc
  have : c'.data = c.data := by simp only [Cx.data, hw, hf]
  rw [← this] at h1
  exact Rep.mono _ c'.data_le h1
theorem RepL.any {us : List PV} {c c' : Cx} {vs : List Value} (h : RepL us c vs) (hc : nmbL 0 us = true) (hw : c'.w = c.w) (hf : c'.fz = c.fz) : RepL us c' vs := by
  have h1 := h.to_data hc
  have : c'.data = c.data := by simp only [Cx.data, hw, hf]
  rw [← this] at h1
  exact RepL.mono _ c'.data_le h1
theorem MRep.move {c c' : Cx} {a l : Nat} {S : Nat → Prop} : ∀ {mb : MB}, MRep c a S mb → mb.nmb 0 = true → c'.w = c.w → c'.fz = c.fz → c'.ρ l = c.ρ a → MRep c' l S mb
  | .box cs, ⟨b, t, vs, h1, h2, h3, h4⟩, hc, hw, hf, hρ => ⟨b, t, vs, by rw [hρ]; exact h1, by rw [hw]; exact h2, h3.any (by simpa [MB.nmb] using hc) hw hf, h4⟩
  | .row e s es, ⟨v, vs, h1, h2, h3, h4, h5⟩, hc, hw, hf, hρ => ⟨v, vs, by rw [hρ]; exact h1, by rw [hw]; exact h2, by
      have : c'.data = c.data := by simp only [Cx.data, hw, hf]
      rw [this]; exact h3, h4, h5⟩
  | .fro es, ⟨v, h1, h2, h3⟩, hc, hw, hf, hρ => ⟨v, by rw [hρ]; exact h1, h2.any rfl hw hf, h3⟩
  | .gen p d, ⟨v, h1, h2⟩, hc, hw, hf, hρ => ⟨v, by rw [hρ]; exact h1, by rw [hw]; exact h2⟩
theorem InvM.one {c : Cx} {mem : Mem} {i : Nat} {b : MB} (h : InvM c mem) (hi : mem i = some b) (hb : b.nmb 0 = true) : InvM (c.one i) (mkM [(0, b)]) := by
  obtain ⟨hf, S, h1, h2, h3⟩ := h
  have hm : ∀ j mb, mkM [(0, b)] j = some mb → j = 0 ∧ mb = b := by
    intro j mb hj
    simp only [mkM, upd] at hj
    split at hj
    · rename_i e; cases hj; exact ⟨e, rfl⟩
    · cases hj
  have hne : ∀ j, mkM [(0, b)] j ≠ none → j = 0 := fun j hj => by
    obtain ⟨mb, hmb⟩ := Option.ne_none_iff_exists'.1 hj
    exact (hm j mb hmb).1
  refine ⟨⟨hf.lt, hf.glob⟩, fun _ => S i, ?_, ?_, ?_⟩
  · intro j mb hj
    obtain ⟨rfl, rfl⟩ := hm j mb hj
    exact MRep.move (h1 i _ hi) hb rfl rfl (by simp [Cx.one])
  · intro j k b' hj hk hjk
    exact absurd ((hne j hj).trans (hne k hk).symm) hjk
  · intro j b' _ hs
    exact h3 i b' (by rw [hi]; simp) hs
/-- What a call over one block does to all memory: T tells which local name a global one now is. -/
theorem Step.lift {c c1 : Cx} {mem m1 mem' : Mem} {n n' k1 i : Nat} {b0 : MB} {ρ' : Nat → Option Value} (hI : InvM c mem) (hn : Names c n) (hi : mem i = some b0) (hb0 : b0.nmb 0 = true) (st : Step (c.one i) (mkM [(0, b0)]) 1 c1 m1 k1)
    (T : Nat → Option Nat) (hT : ∀ l a, T l = some a → l = i ∧ a = 0 ∨ l = n) (hinj : ∀ l l' a, T l = some a → T l' = some a → l = l')
    (hm : ∀ l mb, mem' l = some mb → (∃ a, T l = some a ∧ m1 a = some mb ∧ mb.nmb 0 = true) ∨ T l = none ∧ l ≠ i ∧ l ≠ n ∧ mem l = some mb)
    (hρ : ∀ l, l < n → ρ' l = c.ρ l) (hρn : ∀ l, n' ≤ l → ρ' l = none) (hρT : ∀ a, T n = some a → ρ' n = c1.ρ a) (hρ1 : ∀ v, ρ' n = some v → v.oneCell' = true) (hnn : n' = n ∨ n' = n + 1) :
    Step c mem n ⟨c1.w, c1.fz, ρ'⟩ mem' n' := by
  classical
  have hin : i < n := Nat.lt_of_not_le fun hle => by
    obtain ⟨_, S, h1, _, _⟩ := hI
    obtain ⟨v, hv⟩ := (h1 i b0 hi).ρ
    rw [hn.1 i hle] at hv; cases hv
  obtain ⟨hf, S, h1, h2, h3⟩ := id hI
  obtain ⟨hf1, S1, g1, g2, g3⟩ := st.inv
  have hmine : ∀ b, Mine (c.one i) (mkM [(0, b0)]) b ↔ S i b := by
    intro b
    have hr : MRep (c.one i) 0 (S i) b0 := MRep.move (h1 i _ hi) hb0 rfl rfl (by simp [Cx.one])
    constructor
    · rintro ⟨j, U, mb, hj, hR, hU⟩
      simp only [mkM, upd] at hj
      split at hj
      · rename_i e; subst e; cases hj
        have := MRep.det hR hr
        subst this
        exact hU
      · cases hj
    · intro hb
      exact ⟨0, S i, b0, by simp [mkM, upd], hr, hb⟩
  have hle : c.Le ⟨c1.w, c1.fz, ρ'⟩ := ⟨st.le.fz, fun b hb o => st.le.cell b hb o, fun l v hl => by
    have : l < n := Nat.lt_of_not_le fun hle => by rw [hn.1 l hle] at hl; cases hl
    show ρ' l = some v
    rw [hρ l this]; exact hl⟩
  have hlt : ∀ l b, mem l ≠ none → S l b → b < c.w.heap.size := by
    intro l b hl hb
    obtain ⟨mb, hmb⟩ := Option.ne_none_iff_exists'.1 hl
    exact (h1 l mb hmb).lt hb
  have hS1 : ∀ a b, m1 a ≠ none → S1 a b → S i b ∨ c.w.heap.size ≤ b := by
    intro a b ha hb
    obtain ⟨mb, hmb⟩ := Option.ne_none_iff_exists'.1 ha
    exact (st.mine b ⟨a, S1 a, mb, hmb, g1 a mb hmb, hb⟩).imp (hmine b).1 id
  -- what a global name has
  have hcase : ∀ l, mem' l ≠ none → (∃ a mb, T l = some a ∧ m1 a = some mb ∧ mem' l = some mb ∧ mb.nmb 0 = true) ∨ (T l = none ∧ l ≠ i ∧ l ≠ n ∧ mem l ≠ none ∧ mem' l = mem l) := by
    intro l hl
    obtain ⟨mb, hmb⟩ := Option.ne_none_iff_exists'.1 hl
    rcases hm l mb hmb with ⟨a, h, h', h''⟩ | ⟨h, h', h'', h'''⟩
    · exact .inl ⟨a, mb, h, h', hmb, h''⟩
    · exact .inr ⟨h, h', h'', by rw [h''']; simp, by rw [hmb, h''']⟩
  have hblk : ∀ l b, mem l ≠ none → l ≠ i → S l b → c1.w.heap[b]? = c.w.heap[b]? := by
    intro l b hl hli hb
    refine st.block b (hlt l b hl hb) (fun hm' => ?_)
    exact h2 l i b hl (by rw [hi]; simp) hli hb ((hmine b).1 hm')
  have hrep : ∀ l mb, mem' l = some mb → MRep ⟨c1.w, c1.fz, ρ'⟩ l (match T l with | some a => S1 a | none => S l) mb := by
    intro l mb hl
    rcases hm l mb hl with ⟨a, hTl, ha, hc⟩ | ⟨hTl, hli, hln, hl'⟩
    · rw [hTl]
      refine MRep.move (g1 a mb ha) hc rfl rfl ?_
      show ρ' l = c1.ρ a
      rcases hT l a hTl with ⟨rfl, rfl⟩ | rfl
      · rw [hρ l hin, st.ρ 0 (by omega)]; simp [Cx.one]
      · exact hρT a hTl
    · rw [hTl]
      exact MRep.mono hle (fun b hb => hblk l b (by rw [hl']; simp) hli hb) (h1 l mb hl')
  refine ⟨⟨⟨hf1.lt, hf1.glob⟩, _, hrep, ?_, ?_⟩, hle, st.os, st.tape, st.output, st.size, fun b hb hm' => st.block b hb (fun h => hm' ⟨i, S i, b0, hi, h1 i b0 hi, (hmine b).1 h⟩), ?_,
    fun b hb => (st.fzNew b hb).imp id (fun h => h.imp (fun h => ⟨i, S i, b0, hi, h1 i b0 hi, (hmine b).1 h⟩) id), by omega, hρ, ⟨hρn, fun l v hl => ?_⟩⟩
  · intro l l' b hl hl' hne hb hb'
    rcases hcase l hl with ⟨a, mb, e1, e2, _⟩ | ⟨e1, e2, e3, e4, _⟩ <;> rcases hcase l' hl' with ⟨a', mb', e1', e2', _⟩ | ⟨e1', e2', e3', e4', _⟩ <;> rw [e1] at hb <;> rw [e1'] at hb'
    · have : a ≠ a' := fun e => hne (hinj l l' a e1 (e ▸ e1'))
      exact g2 a a' b (by rw [e2]; simp) (by rw [e2']; simp) this hb hb'
    · rcases hS1 a b (by rw [e2]; simp) hb with h | h
      · exact h2 l' i b e4' (by rw [hi]; simp) e2' hb' h
      · have := hlt l' b e4' hb'; omega
    · rcases hS1 a' b (by rw [e2']; simp) hb' with h | h
      · exact h2 l i b e4 (by rw [hi]; simp) e2 hb h
      · have := hlt l b e4 hb; omega
    · exact h2 l l' b e4 e4' hne hb hb'
  · intro l b hl hb
    rcases hcase l hl with ⟨a, mb, e1, e2, _⟩ | ⟨e1, e2, e3, e4, _⟩ <;> rw [e1] at hb
    · exact g3 a b (by rw [e2]; simp) hb
    · intro hfz
      rcases st.fzNew b hfz with h | h | h
      · exact h3 l b e4 hb h
      · exact h2 l i b e4 (by rw [hi]; simp) e2 hb ((hmine b).1 h)
      · have h9 := hlt l b e4 hb
        have h8 : c.w.heap.size ≤ b := h
        omega
  · rintro b ⟨l, U, mb, hl, hR, hb⟩
    have e := MRep.det hR (hrep l mb hl)
    subst e
    rcases hcase l (by rw [hl]; simp) with ⟨a, mb', e1, e2, _⟩ | ⟨e1, e2, e3, e4, e5⟩ <;> rw [e1] at hb
    · exact (hS1 a b (by rw [e2]; simp) hb).imp (fun h => ⟨i, S i, b0, hi, h1 i b0 hi, h⟩) id
    · rw [hl] at e5
      exact .inl ⟨l, S l, mb, e5.symm, h1 l mb e5.symm, hb⟩
  · have hl3 : ρ' l = some v := hl
    have hl' : l < n' := Nat.lt_of_not_le fun hle => by have := hρn l hle; rw [hl3] at this; cases this
    by_cases e : l = n
    · subst e; exact hρ1 v hl
    · have hl2 : ρ' l = some v := hl
      rw [hρ l (by omega)] at hl2
      exact hn.2 l v hl2
theorem frz_not : ∀ {is : List Nat} {m : Mem} {j : Nat}, j ∉ is → frz m is j = m j
  | [], _, _, _ => rfl
  | i :: is, m, j, h => by
    show frz (frz1 m i) is j = m j
    rw [frz_not (fun h' => h (by simp [h'])), frz1_other (fun e => h (by simp [e]))]
/-- At the end: the block 0 is as b' says, and the result is plain. -/
def FinV (P : Program) (rs : List ResultVar) (K : PV → MB → Prop) : AX → AS → Prop := Fin P rs fun r mem _ => (res mem r).nmb 0 = true ∧ 0 ∉ owns r ∧ ∃ b', mem 0 = some b' ∧ b'.nmb 0 = true ∧ K (res mem r) b'
/-- At the end: the block 0 is as b' says, and the result is a row of one's own. -/
def FinO (P : Program) (rs : List ResultVar) (K : List (List PV) → MB → Prop) (e : TypeId) (s : Nat) : AX → AS → Prop := Fin P rs fun r mem _ => ∃ j es b', r = .own j ∧ j ≠ 0 ∧ mem j = some (.row e s es) ∧ mem 0 = some b' ∧ b'.nmb 0 = true ∧ K es b'
/-- At the end: the result is a row of one's own; the block 0 is gone. -/
def FinX (P : Program) (rs : List ResultVar) (K : List (List PV) → Prop) (e : TypeId) (s : Nat) : AX → AS → Prop := Fin P rs fun r mem _ => ∃ j es, r = .own j ∧ mem j = some (.row e s es) ∧ K es
theorem repL_one {c : Cx} {i n : Nat} (hn : Names c n) (hi : i < n) {us : List PV} {v : Value} {vs : List Value} {off : Nat} (h : RepL (.ref i off :: us) c (v :: vs)) (hc : nmbL 0 us = true) : RepL (.ref 0 off :: us) (c.one i) (v :: vs) := by
  rw [RepL.cons_iff] at h ⊢
  obtain ⟨x, xs, e, h1, h2⟩ := h
  refine ⟨x, xs, e, ?_, h2.any hc rfl rfl⟩
  unfold Rep at *
  obtain ⟨u, b, a1, a2, a3⟩ := h1
  exact ⟨u, b, by simp [Cx.one, a1], a2, a3⟩
theorem repL_oneO {c : Cx} {i n : Nat} (hn : Names c n) (hi : i < n) {us : List PV} {v : Value} {vs : List Value} (h : RepL (.own i :: us) c (v :: vs)) (hc : nmbL 0 us = true) : RepL (.own 0 :: us) (c.one i) (v :: vs) := by
  rw [RepL.cons_iff] at h ⊢
  obtain ⟨x, xs, e, h1, h2⟩ := h
  refine ⟨x, xs, e, ?_, h2.any hc rfl rfl⟩
  unfold Rep at *
  simp [Cx.one, h1]
/-- A function over one block that hands back plain data. -/
def locV {α : Type} (args : α → List PV) (B : α → MB) (pre : α → Prop) (post : α → PV → MB → Prop) : AC := fun as mem n K =>
  ∃ x i, as = .ref i 0 :: args x ∧ pre x ∧ mem i = some (B x) ∧ ∀ r b', post x r b' → K r (upd mem i (some b')) n
/-- .. a row of one's own. -/
def locO {α : Type} (e : TypeId) (s : Nat) (args : α → List PV) (B : α → MB) (pre : α → Prop) (post : α → List (List PV) → MB → Prop) : AC := fun as mem n K =>
  ∃ x i, as = .ref i 0 :: args x ∧ pre x ∧ mem i = some (B x) ∧ ∀ es b', post x es b' → K (.own n) (upd (upd mem i (some b')) n (some (.row e s es))) (n + 1)
/-- A function that takes a row and hands back one. -/
def locX {α : Type} (e : TypeId) (s : Nat) (args : α → List PV) (B : α → MB) (pre : α → Prop) (post : α → List (List PV) → Prop) : AC := fun as mem n K =>
  ∃ x i, as = .own i :: args x ∧ pre x ∧ mem i = some (B x) ∧ ∀ es, post x es → K (.own n) (upd (upd mem i none) n (some (.row e s es))) (n + 1)
section
variable {P : Program} {Γ : Ctr} {G : PCtr} {α : Type} {args : α → List PV} {B : α → MB} {pre : α → Prop}
theorem name_lt {c : Cx} {mem : Mem} {n i : Nat} {b : MB} (hI : InvM c mem) (hn : Names c n) (hi : mem i = some b) : i < n := Nat.lt_of_not_le fun hle => by
  obtain ⟨_, S, h1, _, _⟩ := hI
  obtain ⟨v, hv⟩ := (h1 i b hi).ρ
  rw [hn.1 i hle] at hv; cases hv
theorem locV_ok {post : α → PV → MB → Prop} (m : Nat) (hΓ : ∀ f C, Γ f = some C → ACok P f C) (hG : ∀ f R, G f = some R → PureOk P f R) (hm : P.follows .mixedOrders = true) {f : FuncId} {fn : Func} {code : Code} (rs : List ResultVar) (hf : P.funcs[f]? = some fn) (hb : fn.body = some code) (hrs : fn.results.toList = rs) (hN : codeN fn.ntmps code = true)
    (hname : (fn.name == "runtime.NumGoroutine") = false) (hl : ∀ x, (args x).length + 1 = m) (hle : Nat.ble m fn.ntmps = true) (hca : ∀ x, nmbL 0 (args x) = true) (hcb : ∀ x, (B x).nmb 0 = true)
    (h : ∀ x K, pre x → (∀ r b', post x r b' → K r b') → awp P G Γ 1 code (FinV P rs K) (entry (.ref 0 0 :: args x) (mkM [(0, B x)]) 1)) : ACok P f (locV args B pre post) := by
  subst hrs
  refine ⟨⟨fn, hf, by rw [hb]; rfl, hname⟩, fun c mem n as vs K hI hn hr hC => ?_⟩
  obtain ⟨x, i, rfl, hp, hi, hK⟩ := hC
  have hin := name_lt hI hn hi
  obtain ⟨v, vs', rfl⟩ : ∃ v vs', vs = v :: vs' := by
    cases vs with
    | nil => rw [RepL.cons_iff] at hr; obtain ⟨_, _, e, _⟩ := hr; cases e
    | cons v vs' => exact ⟨v, vs', rfl⟩
  have hr1 := repL_one hn hin hr (hca x)
  refine (calls_of_body hΓ hG hm hf hb hN (hI.one hi (hcb x)) (Names.one hn) hr1 (by have := hl x; rw [List.length_cons, this]; exact Nat.le_of_ble_eq_true hle) (K := fun r mem _ => (res mem r).nmb 0 = true ∧ 0 ∉ owns r ∧ ∃ b', mem 0 = some b' ∧ b'.nmb 0 = true ∧ post x (res mem r) b') (h x (fun r b' => post x r b') hp (fun _ _ h => h))).mono ?_
  rintro e w' ⟨v', r, c1, m1, k1, rfl, rfl, ⟨hr0, hno, b', hb1, hb2, hpost⟩, st, hrep⟩
  obtain ⟨c2, e1, e2, st2⟩ := Step.frz (owns r) st.inv st.free
  have hrep2 : Rep (res m1 r) c2 v' := rep_res st2.inv (frz_fits m1 (owns r)) (Rep.mono _ st2.le hrep)
  have h0 : frz m1 (owns r) 0 = some b' := by rw [frz_not hno]; exact hb1
  have stA := st.trans st2
  refine ⟨v', _, ⟨c2.w, c2.fz, c.ρ⟩, _, _, rfl, e1, hK _ _ hpost, ?_, hrep2.any hr0 rfl rfl⟩
  refine Step.lift hI hn hi (hcb x) stA (fun l => if l = i then some 0 else none) ?_ ?_ ?_ (fun _ _ => rfl) (fun l hl => hn.1 l hl) ?_ ?_ (.inl rfl)
  · intro l a hl
    by_cases e : l = i
    · rw [if_pos e] at hl; cases hl; exact .inl ⟨e, rfl⟩
    · rw [if_neg e] at hl; cases hl
  · intro l l' a hl hl'
    by_cases e : l = i
    · by_cases e' : l' = i
      · rw [e, e']
      · rw [if_neg e'] at hl'; cases hl'
    · rw [if_neg e] at hl; cases hl
  · intro l mb hl
    by_cases e : l = i
    · subst e; rw [upd_same] at hl; cases hl; exact .inl ⟨0, if_pos rfl, h0, hb2⟩
    · rw [upd_other _ _ e] at hl
      refine .inr ⟨if_neg e, e, ?_, hl⟩
      rintro rfl
      exact absurd (name_lt hI hn hl) (Nat.lt_irrefl _)
  · intro a ha
    rw [if_neg (by omega)] at ha; cases ha
  · intro v hv; rw [hn.1 n (Nat.le_refl _)] at hv; cases hv
theorem locO_ok {e : TypeId} {s : Nat} {post : α → List (List PV) → MB → Prop} (m : Nat) (hΓ : ∀ f C, Γ f = some C → ACok P f C) (hG : ∀ f R, G f = some R → PureOk P f R) (hm : P.follows .mixedOrders = true) {f : FuncId} {fn : Func} {code : Code} (rs : List ResultVar) (hf : P.funcs[f]? = some fn) (hb : fn.body = some code) (hrs : fn.results.toList = rs) (hN : codeN fn.ntmps code = true)
    (hname : (fn.name == "runtime.NumGoroutine") = false) (hl : ∀ x, (args x).length + 1 = m) (hle : Nat.ble m fn.ntmps = true) (hca : ∀ x, nmbL 0 (args x) = true) (hcb : ∀ x, (B x).nmb 0 = true)
    (h : ∀ x K, pre x → (∀ es b', post x es b' → K es b') → awp P G Γ 1 code (FinO P rs K e s) (entry (.ref 0 0 :: args x) (mkM [(0, B x)]) 1)) : ACok P f (locO e s args B pre post) := by
  subst hrs
  refine ⟨⟨fn, hf, by rw [hb]; rfl, hname⟩, fun c mem n as vs K hI hn hr hC => ?_⟩
  obtain ⟨x, i, rfl, hp, hi, hK⟩ := hC
  have hin := name_lt hI hn hi
  obtain ⟨v, vs', rfl⟩ : ∃ v vs', vs = v :: vs' := by
    cases vs with
    | nil => rw [RepL.cons_iff] at hr; obtain ⟨_, _, e, _⟩ := hr; cases e
    | cons v vs' => exact ⟨v, vs', rfl⟩
  have hr1 := repL_one hn hin hr (hca x)
  refine (calls_of_body hΓ hG hm hf hb hN (hI.one hi (hcb x)) (Names.one hn) hr1 (by have := hl x; rw [List.length_cons, this]; exact Nat.le_of_ble_eq_true hle) (K := fun r mem _ => ∃ j es b', r = .own j ∧ j ≠ 0 ∧ mem j = some (.row e s es) ∧ mem 0 = some b' ∧ b'.nmb 0 = true ∧ post x es b') (h x (fun es b' => post x es b') hp (fun _ _ h => h))).mono ?_
  rintro e w' ⟨v', r, c1, m1, k1, rfl, rfl, ⟨j, es, b', rfl, hj0, hj, hb1, hb2, hpost⟩, st, hrep⟩
  have hrj : c1.ρ j = some v' := by unfold Rep at hrep; exact hrep
  have hnm : mem n = none := free_mem hI hn
  refine ⟨v', _, ⟨c1.w, c1.fz, upd c.ρ n (some v')⟩, _, _, rfl, rfl, hK _ _ hpost, ?_, by unfold Rep; exact upd_same _ _ _⟩
  refine Step.lift hI hn hi (hcb x) st (fun l => if l = i then some 0 else if l = n then some j else none) ?_ ?_ ?_ (fun l hl => upd_other _ _ (by omega)) (fun l hl => by rw [upd_other _ _ (by omega)]; exact hn.1 l (by omega)) ?_ ?_ (.inr rfl)
  · intro l a hl
    by_cases e : l = i
    · rw [if_pos e] at hl; cases hl; exact .inl ⟨e, rfl⟩
    · rw [if_neg e] at hl
      by_cases e' : l = n
      · exact .inr e'
      · rw [if_neg e'] at hl; cases hl
  · intro l l' a hl hl'
    by_cases e : l = i
    · rw [if_pos e] at hl; cases hl
      by_cases e' : l' = i
      · rw [e, e']
      · rw [if_neg e'] at hl'
        by_cases e2 : l' = n
        · rw [if_pos e2] at hl'; cases hl'; exact absurd rfl hj0
        · rw [if_neg e2] at hl'; cases hl'
    · rw [if_neg e] at hl
      by_cases e1 : l = n
      · rw [if_pos e1] at hl; cases hl
        by_cases e' : l' = i
        · rw [if_pos e'] at hl'; cases hl'; exact absurd rfl hj0
        · rw [if_neg e'] at hl'
          by_cases e2 : l' = n
          · rw [e1, e2]
          · rw [if_neg e2] at hl'; cases hl'
      · rw [if_neg e1] at hl; cases hl
  · intro l mb hl
    by_cases e : l = n
    · subst e; rw [upd_same] at hl; cases hl
      exact .inl ⟨j, by rw [if_neg (by omega), if_pos rfl], hj, rfl⟩
    · rw [upd_other _ _ e] at hl
      by_cases e' : l = i
      · subst e'; rw [upd_same] at hl; cases hl; exact .inl ⟨0, if_pos rfl, hb1, hb2⟩
      · rw [upd_other _ _ e'] at hl
        exact .inr ⟨by rw [if_neg e', if_neg e], e', e, hl⟩
  · intro a ha
    rw [if_neg (by omega), if_pos rfl] at ha; cases ha
    rw [upd_same]; exact hrj.symm
  · intro v hv; rw [upd_same] at hv; cases hv; exact st.free.2 _ _ hrj
theorem locX_ok {e : TypeId} {s : Nat} {post : α → List (List PV) → Prop} (m : Nat) (hΓ : ∀ f C, Γ f = some C → ACok P f C) (hG : ∀ f R, G f = some R → PureOk P f R) (hm : P.follows .mixedOrders = true) {f : FuncId} {fn : Func} {code : Code} (rs : List ResultVar) (hf : P.funcs[f]? = some fn) (hb : fn.body = some code) (hrs : fn.results.toList = rs) (hN : codeN fn.ntmps code = true)
    (hname : (fn.name == "runtime.NumGoroutine") = false) (hl : ∀ x, (args x).length + 1 = m) (hle : Nat.ble m fn.ntmps = true) (hca : ∀ x, nmbL 0 (args x) = true) (hcb : ∀ x, (B x).nmb 0 = true)
    (h : ∀ x K, pre x → (∀ es, post x es → K es) → awp P G Γ 1 code (FinX P rs K e s) (entry (.own 0 :: args x) (mkM [(0, B x)]) 1)) : ACok P f (locX e s args B pre post) := by
  subst hrs
  refine ⟨⟨fn, hf, by rw [hb]; rfl, hname⟩, fun c mem n as vs K hI hn hr hC => ?_⟩
  obtain ⟨x, i, rfl, hp, hi, hK⟩ := hC
  have hin := name_lt hI hn hi
  obtain ⟨v, vs', rfl⟩ : ∃ v vs', vs = v :: vs' := by
    cases vs with
    | nil => rw [RepL.cons_iff] at hr; obtain ⟨_, _, e, _⟩ := hr; cases e
    | cons v vs' => exact ⟨v, vs', rfl⟩
  have hr1 := repL_oneO hn hin hr (hca x)
  refine (calls_of_body hΓ hG hm hf hb hN (hI.one hi (hcb x)) (Names.one hn) hr1 (by have := hl x; rw [List.length_cons, this]; exact Nat.le_of_ble_eq_true hle) (K := fun r mem _ => ∃ j es, r = .own j ∧ mem j = some (.row e s es) ∧ post x es) (h x (fun es => post x es) hp (fun _ h => h))).mono ?_
  rintro e w' ⟨v', r, c1, m1, k1, rfl, rfl, ⟨j, es, rfl, hj, hpost⟩, st, hrep⟩
  have hrj : c1.ρ j = some v' := by unfold Rep at hrep; exact hrep
  have hnm : mem n = none := free_mem hI hn
  refine ⟨v', _, ⟨c1.w, c1.fz, upd c.ρ n (some v')⟩, _, _, rfl, rfl, hK _ hpost, ?_, by unfold Rep; exact upd_same _ _ _⟩
  refine Step.lift hI hn hi (hcb x) st (fun l => if l = n then some j else none) ?_ ?_ ?_ (fun l hl => upd_other _ _ (by omega)) (fun l hl => by rw [upd_other _ _ (by omega)]; exact hn.1 l (by omega)) ?_ ?_ (.inr rfl)
  · intro l a hl
    by_cases e' : l = n
    · exact .inr e'
    · rw [if_neg e'] at hl; cases hl
  · intro l l' a hl hl'
    by_cases e1 : l = n
    · by_cases e2 : l' = n
      · rw [e1, e2]
      · rw [if_neg e2] at hl'; cases hl'
    · rw [if_neg e1] at hl; cases hl
  · intro l mb hl
    by_cases e : l = n
    · subst e; rw [upd_same] at hl; cases hl
      exact .inl ⟨j, if_pos rfl, hj, rfl⟩
    · rw [upd_other _ _ e] at hl
      by_cases e' : l = i
      · subst e'; rw [upd_same] at hl; cases hl
      · rw [upd_other _ _ e'] at hl
        exact .inr ⟨if_neg e, e', e, hl⟩
  · intro a ha
    rw [if_pos rfl] at ha; cases ha
    rw [upd_same]; exact hrj.symm
  · intro v hv; rw [upd_same] at hv; cases hv; exact st.free.2 _ _ hrj
end
section
variable {P : Program} {rs : List ResultVar} {σ : AS}
theorem fin_V {K : PV → MB → Prop} (h : aRes P σ rs fun us => (res σ.mem (packR us)).nmb 0 = true ∧ 0 ∉ owns (packR us) ∧ ∃ b', σ.mem 0 = some b' ∧ b'.nmb 0 = true ∧ K (res σ.mem (packR us)) b') : FinV P rs K .ret σ := h
theorem fin_Ve {K : PV → MB → Prop} (h : aRes P σ rs fun us => (res σ.mem (packR us)).nmb 0 = true ∧ 0 ∉ owns (packR us) ∧ ∃ b', σ.mem 0 = some b' ∧ b'.nmb 0 = true ∧ K (res σ.mem (packR us)) b') : FinV P rs K .normal σ := h
theorem fin_O {K : List (List PV) → MB → Prop} {e : TypeId} {s : Nat} (h : aRes P σ rs fun us => ∃ j es b', packR us = .own j ∧ j ≠ 0 ∧ σ.mem j = some (.row e s es) ∧ σ.mem 0 = some b' ∧ b'.nmb 0 = true ∧ K es b') : FinO P rs K e s .ret σ := h
theorem fin_Oe {K : List (List PV) → MB → Prop} {e : TypeId} {s : Nat} (h : aRes P σ rs fun us => ∃ j es b', packR us = .own j ∧ j ≠ 0 ∧ σ.mem j = some (.row e s es) ∧ σ.mem 0 = some b' ∧ b'.nmb 0 = true ∧ K es b') : FinO P rs K e s .normal σ := h
theorem fin_X {K : List (List PV) → Prop} {e : TypeId} {s : Nat} (h : aRes P σ rs fun us => ∃ j es, packR us = .own j ∧ σ.mem j = some (.row e s es) ∧ K es) : FinX P rs K e s .ret σ := h
theorem fin_Xe {K : List (List PV) → Prop} {e : TypeId} {s : Nat} (h : aRes P σ rs fun us => ∃ j es, packR us = .own j ∧ σ.mem j = some (.row e s es) ∧ K es) : FinX P rs K e s .normal σ := h
end
end Go.Proofs.Ytoocbpendccngaa

/- Results that are new rows; arguments that are lent. No program. -/
namespace Go.Proofs.Ytoocbpendccngaa
set_option maxRecDepth 100000
set_option linter.unusedVariables false
set_option linter.unusedSimpArgs false
open Go.RowKit
/-- A value without memory. -/
def plainU : PV → Bool
  | .int .. | .bool _ | .str _ => true
  | _ => false
def plainV : PV → Bool
  | .agg cs => cs.all plainU
  | .tup cs => cs.all plainU
  | u => plainU u
section
variable {P : Program}
variable {Γ : Ctr} {G : PCtr} {α : Type} {args : α → List PV} {pre : α → Prop}
end
end Go.Proofs.Ytoocbpendccngaa

/- Functions over one lent block, whatever their arguments; a variable that holds a row, as one block. No program. -/
namespace Go.Proofs.Ytoocbpendccngaa
set_option maxRecDepth 100000
set_option linter.unusedVariables false
set_option linter.unusedSimpArgs false
open Go.RowKit
theorem repL_oneG {c : Cx} {i : Nat} {us : List PV} {vs : List Value} (h : RepL (renL (fun _ => i) us) c vs) (hc : nmbL 1 us = true) : RepL us (c.one i) vs := RepL.nam us hc h
section
variable {P : Program} {Γ : Ctr} {G : PCtr} {α : Type} {args : α → List PV} {B : α → MB} {pre : α → Prop}
end
section
variable {P : Program} {Γ : Ctr} {G : PCtr} {α : Type} {args : α → List PV} {B : α → List (List PV)} {pre : α → Prop}
/-- At the end: the variable holds a row, and the result is plain. -/
def FinB (P : Program) (rs : List ResultVar) (K : PV → List (List PV) → Prop) (e : TypeId) (s : Nat) : AX → AS → Prop := Fin P rs fun r mem _ => plainV r = true ∧ ∃ k es, mem 0 = some (.box [.own k]) ∧ mem k = some (.row e s es) ∧ es.all (·.all plainU) = true ∧ K r es
theorem fin_B {rs : List ResultVar} {σ : AS} {K : PV → List (List PV) → Prop} {e : TypeId} {s : Nat} (h : aRes P σ rs fun us => plainV (packR us) = true ∧ ∃ k es, σ.mem 0 = some (.box [.own k]) ∧ σ.mem k = some (.row e s es) ∧ es.all (·.all plainU) = true ∧ K (packR us) es) : FinB P rs K e s .ret σ := h
theorem fin_Be {rs : List ResultVar} {σ : AS} {K : PV → List (List PV) → Prop} {e : TypeId} {s : Nat} (h : aRes P σ rs fun us => plainV (packR us) = true ∧ ∃ k es, σ.mem 0 = some (.box [.own k]) ∧ σ.mem k = some (.row e s es) ∧ es.all (·.all plainU) = true ∧ K (packR us) es) : FinB P rs K e s .normal σ := h
end
end Go.Proofs.Ytoocbpendccngaa

/- A box of plain data is frozen; closures that lent blocks stand in: contracts in other words. No program. -/
namespace Go.Proofs.Ytoocbpendccngaa
set_option maxRecDepth 100000
set_option linter.unusedVariables false
set_option linter.unusedSimpArgs false
open Go.RowKit
theorem ACok.via {P : Program} {f : FuncId} {C C' : AC} (h : ACok P f C) (hc : ∀ args mem n K, C' args mem n K → C args mem n K) : ACok P f C' :=
  ⟨h.fn, fun c mem n args vs K hI hn hr hC => h.run c mem n args vs K hI hn hr (hc args mem n K hC)⟩
end Go.Proofs.Ytoocbpendccngaa

/- Functions that take a row of one's own, anywhere among their arguments, and hand back one; nil as such a row. No program. -/
namespace Go.Proofs.Ytoocbpendccngaa
set_option maxRecDepth 100000
set_option linter.unusedVariables false
set_option linter.unusedSimpArgs false
open Go.RowKit
/-- As locX, the row wherever it stands among the arguments (there as .own 0). -/
def locY {α : Type} (e : TypeId) (s : Nat) (args : α → List PV) (B : α → MB) (pre : α → Prop) (post : α → List (List PV) → Prop) : AC := fun as mem n K =>
  ∃ x i, as = renL (fun _ => i) (args x) ∧ pre x ∧ mem i = some (B x) ∧ ∀ es, post x es → K (.own n) (upd (upd mem i none) n (some (.row e s es))) (n + 1)
section
variable {P : Program} {Γ : Ctr} {G : PCtr} {α : Type} {args : α → List PV} {B : α → MB} {pre : α → Prop}
theorem locY_ok {e : TypeId} {s : Nat} {post : α → List (List PV) → Prop} (m : Nat) (hΓ : ∀ f C, Γ f = some C → ACok P f C) (hG : ∀ f R, G f = some R → PureOk P f R) (hm : P.follows .mixedOrders = true) {f : FuncId} {fn : Func} {code : Code} (rs : List ResultVar) (hf : P.funcs[f]? = some fn) (hb : fn.body = some code) (hrs : fn.results.toList = rs) (hN : codeN fn.ntmps code = true)
    (hname : (fn.name == "runtime.NumGoroutine") = false) (hl : ∀ x, (args x).length = m) (hle : Nat.ble m fn.ntmps = true) (hca : ∀ x, nmbL 1 (args x) = true) (hcb : ∀ x, (B x).nmb 0 = true)
    (h : ∀ x K, pre x → (∀ es, post x es → K es) → awp P G Γ 1 code (FinX P rs K e s) (entry (args x) (mkM [(0, B x)]) 1)) : ACok P f (locY e s args B pre post) := by
  subst hrs
  refine ⟨⟨fn, hf, by rw [hb]; rfl, hname⟩, fun c mem n as vs K hI hn hr hC => ?_⟩
  obtain ⟨x, i, rfl, hp, hi, hK⟩ := hC
  have hin := name_lt hI hn hi
  have hr1 := repL_oneG hr (hca x)
  refine (calls_of_body hΓ hG hm hf hb hN (hI.one hi (hcb x)) (Names.one hn) hr1 (by rw [hl x]; exact Nat.le_of_ble_eq_true hle) (K := fun r mem _ => ∃ j es, r = .own j ∧ mem j = some (.row e s es) ∧ post x es) (h x (fun es => post x es) hp (fun _ h => h))).mono ?_
  rintro e w' ⟨v', r, c1, m1, k1, rfl, rfl, ⟨j, es, rfl, hj, hpost⟩, st, hrep⟩
  have hrj : c1.ρ j = some v' := by unfold Rep at hrep; exact hrep
  have hnm : mem n = none := free_mem hI hn
  refine ⟨v', _, ⟨c1.w, c1.fz, upd c.ρ n (some v')⟩, _, _, rfl, rfl, hK _ hpost, ?_, by unfold Rep; exact upd_same _ _ _⟩
  refine Step.lift hI hn hi (hcb x) st (fun l => if l = n then some j else none) ?_ ?_ ?_ (fun l hl => upd_other _ _ (by omega)) (fun l hl => by rw [upd_other _ _ (by omega)]; exact hn.1 l (by omega)) ?_ ?_ (.inr rfl)
  · intro l a hl
    by_cases e' : l = n
    · exact .inr e'
    · rw [if_neg e'] at hl; cases hl
  · intro l l' a hl hl'
    by_cases e1 : l = n
    · by_cases e2 : l' = n
      · rw [e1, e2]
      · rw [if_neg e2] at hl'; cases hl'
    · rw [if_neg e1] at hl; cases hl
  · intro l mb hl
    by_cases e : l = n
    · subst e; rw [upd_same] at hl; cases hl
      exact .inl ⟨j, if_pos rfl, hj, rfl⟩
    · rw [upd_other _ _ e] at hl
      by_cases e' : l = i
      · subst e'; rw [upd_same] at hl; cases hl
      · rw [upd_other _ _ e'] at hl
        exact .inr ⟨if_neg e, e', e, hl⟩
  · intro a ha
    rw [if_pos rfl] at ha; cases ha
    rw [upd_same]; exact hrj.symm
  · intro v hv; rw [upd_same] at hv; cases hv; exact st.free.2 _ _ hrj
end
theorem locY_never {P : Program} {f : FuncId} {α : Type} {e : TypeId} {s : Nat} {args : α → List PV} {B : α → MB} {pre : α → Prop} {post : α → List (List PV) → Prop} (hf : ∃ fn, P.funcs[f]? = some fn ∧ fn.body.isNone = false ∧ (fn.name == "runtime.NumGoroutine") = false) (h : ∀ x, ¬ pre x) : ACok P f (locY e s args B pre post) :=
  ⟨hf, fun c mem n as vs K hI hn hr hC => by
    obtain ⟨x, i, _, hp, _⟩ := hC
    exact absurd hp (h x)⟩
/-- nil is an empty row of one's own. -/
theorem Step.nilRow {c : Cx} {mem : Mem} {n : Nat} (e : TypeId) (s : Nat) (hI : InvM c mem) (hn : Names c n) :
    ∃ c', c'.w = c.w ∧ Step c mem n c' (upd mem n (some (.row e s []))) (n + 1) ∧ Rep (.own n) c' (.slice none 0 0) := by
  obtain ⟨c', hw, st, hrep, _⟩ := new_row (es := []) (vs := []) (e := e) (s := s) hI hn none (w' := c.w) (v := .slice none 0 0) rfl rfl rfl (Nat.le_refl _) (fun j hj => by cases hj) (fun _ _ _ => rfl) ⟨by simp, .inl ⟨rfl, rfl⟩⟩ (by rw [List.flatten_nil, RepL.nil_iff]) ⟨by simp, by simp⟩ (fun b hb => by cases hb)
  exact ⟨c', hw, st, hrep⟩
end Go.Proofs.Ytoocbpendccngaa
