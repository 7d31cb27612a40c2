/- Functions that work on one block of their caller's: proved over that block alone. No program. -/
import Derived.Test.YtdedddmnacomfaaWF11

namespace Go.Proofs.Ytdedddmnacomfaa
set_option maxRecDepth 100000
set_option linter.unusedVariables false
set_option linter.unusedSimpArgs false
open Go.RowKit
/-- The context of a call: the name 0 stands for what i stands for. -/
def Cx.one (c : Cx) (i : Nat) : Cx := ⟨c.w, c.fz, fun j => if j < 1 then c.ρ i else none⟩
theorem Names.one {c : Cx} {n i : Nat} (hn : Names c n) : Names (c.one i) 1 :=
  ⟨fun j hj => by simp only [Cx.one]; rw [if_neg (by omega)], fun j v hj => by
    simp only [Cx.one] at hj
    split at hj
    · exact hn.2 _ v hj
    · cases hj⟩
/-- Closed values stand for the same in any context of that world. -/
theorem Rep.any {u : PV} {c c' : Cx} {v : Value} (h : Rep u c v) (hc : u.nmb 0 = true) (hw : c'.w = c.w) (hf : c'.fz = c.fz) : Rep u c' v := by
  have h1 := h.to_data hc
  have : c'.data = c.data := by simp only [Cx.data, hw, hf]
  rw [← this] at h1
  exact Rep.mono _ c'.data_le h1
theorem RepL.any {us : List PV} {c c' : Cx} {vs : List Value} (h : RepL us c vs) (hc : nmbL 0 us = true) (hw : c'.w = c.w) (hf : c'.fz = c.fz) : RepL us c' vs := by
  have h1 := h.to_data hc
  have : c'.data = c.data := by simp only [Cx.data, hw, hf]
  rw [← this] at h1
  exact RepL.mono _ c'.data_le h1
theorem MRep.move {c c' : Cx} {a l : Nat} {S : Nat → Prop} : ∀ {mb : MB}, MRep c a S mb → mb.nmb 0 = true → c'.w = c.w → c'.fz = c.fz → c'.ρ l = c.ρ a → MRep c' l S mb
  | .box cs, ⟨b, t, vs, h1, h2, h3, h4⟩, hc, hw, hf, hρ => ⟨b, t, vs, by rw [hρ]; exact h1, by rw [hw]; exact h2, h3.any (by simpa [MB.nmb] using hc) hw hf, h4⟩
  | .row e s es, ⟨v, vs, h1, h2, h3, h4, h5⟩, hc, hw, hf, hρ => ⟨v, vs, by rw [hρ]; exact h1, by rw [hw]; exact h2, by
      have : c'.data = c.data := by simp only [Cx.data, hw, hf]
      rw [this]; exact h3, h4, h5⟩
  | .fro es, ⟨v, h1, h2, h3⟩, hc, hw, hf, hρ => ⟨v, by rw [hρ]; exact h1, h2.any rfl hw hf, h3⟩
  | .gen p d, ⟨v, h1, h2⟩, hc, hw, hf, hρ => ⟨v, by rw [hρ]; exact h1, by rw [hw]; exact h2⟩
theorem InvM.one {c : Cx} {mem : Mem} {i : Nat} {b : MB} (h : InvM c mem) (hi : mem i = some b) (hb : b.nmb 0 = true) : InvM (c.one i) (mkM [(0, b)]) := by
  obtain ⟨hf, S, h1, h2, h3⟩ := h
  have hm : ∀ j mb, mkM [(0, b)] j = some mb → j = 0 ∧ mb = b := by
    intro j mb hj
    simp only [mkM, upd] at hj
    split at hj
    · rename_i e; cases hj; exact ⟨e, rfl⟩
    · cases hj
  have hne : ∀ j, mkM [(0, b)] j ≠ none → j = 0 := fun j hj => by
    obtain ⟨mb, hmb⟩ := Option.ne_none_iff_exists'.1 hj
    exact (hm j mb hmb).1
  refine ⟨⟨hf.lt, hf.glob⟩, fun _ => S i, ?_, ?_, ?_⟩
  · intro j mb hj
    obtain ⟨rfl, rfl⟩ := hm j mb hj
    exact MRep.move (h1 i _ hi) hb rfl rfl (by simp [Cx.one])
  · intro j k b' hj hk hjk
    exact absurd ((hne j hj).trans (hne k hk).symm) hjk
  · intro j b' _ hs
    exact h3 i b' (by rw [hi]; simp) hs
/-- What a call over one block does to all memory: T tells which local name a global one now is. -/
theorem Step.lift {c c1 : Cx} {mem m1 mem' : Mem} {n n' k1 i : Nat} {b0 : MB} {ρ' : Nat → Option Value} (hI : InvM c mem) (hn : Names c n) (hi : mem i = some b0) (hb0 : b0.nmb 0 = true) (st : Step (c.one i) (mkM [(0, b0)]) 1 c1 m1 k1)
    (T : Nat → Option Nat) (hT : ∀ l a, T l = some a → l = i ∧ a = 0 ∨ l = n) (hinj : ∀ l l' a, T l = some a → T l' = some a → l = l')
    (hm : ∀ l mb, mem' l = some mb → (∃ a, T l = some a ∧ m1 a = some mb ∧ mb.nmb 0 = true) ∨ T l = none ∧ l ≠ i ∧ l ≠ n ∧ mem l = some mb)
    (hρ : ∀ l, l < n → ρ' l = c.ρ l) (hρn : ∀ l, n' ≤ l → ρ' l = none) (hρT : ∀ a, T n = some a → ρ' n = c1.ρ a) (hρ1 : ∀ v, ρ' n = some v → v.oneCell' = true) (hnn : n' = n ∨ n' = n + 1) :
    Step c mem n ⟨c1.w, c1.fz, ρ'⟩ mem' n' := by
  classical
  have hin : i < n := Nat.lt_of_not_le fun hle => by
    obtain ⟨_, S, h1, _, _⟩ := hI
    obtain ⟨v, hv⟩ := (h1 i b0 hi).ρ
    rw [hn.1 i hle] at hv; cases hv
  obtain ⟨hf, S, h1, h2, h3⟩ := id hI
  obtain ⟨hf1, S1, g1, g2, g3⟩ := st.inv
  have hmine : ∀ b, Mine (c.one i) (mkM [(0, b0)]) b ↔ S i b := by
    intro b
    have hr : MRep (c.one i) 0 (S i) b0 := MRep.move (h1 i _ hi) hb0 rfl rfl (by simp [Cx.one])
    constructor
    · rintro ⟨j, U, mb, hj, hR, hU⟩
      simp only [mkM, upd] at hj
      split at hj
      · rename_i e; subst e; cases hj
        have := MRep.det hR hr
        subst this
        exact hU
      · cases hj
    · intro hb
      exact ⟨0, S i, b0, by simp [mkM, upd], hr, hb⟩
  have hle : c.Le ⟨c1.w, c1.fz, ρ'⟩ := ⟨st.le.fz, fun b hb o => st.le.cell b hb o, fun l v hl => by
    have : l < n := Nat.lt_of_not_le fun hle => by rw [hn.1 l hle] at hl; cases hl
    show ρ' l = some v
    rw [hρ l this]; exact hl⟩
  have hlt : ∀ l b, mem l ≠ none → S l b → b < c.w.heap.size := by
    intro l b hl hb
    obtain ⟨mb, hmb⟩ := Option.ne_none_iff_exists'.1 hl
    exact (h1 l mb hmb).lt hb
  have hS1 : ∀ a b, m1 a ≠ none → S1 a b → S i b ∨ c.w.heap.size ≤ b := by
    intro a b ha hb
    obtain ⟨mb, hmb⟩ := Option.ne_none_iff_exists'.1 ha
    exact (st.mine b ⟨a, S1 a, mb, hmb, g1 a mb hmb, hb⟩).imp (hmine b).1 id
  -- what a global name has
  have hcase : ∀ l, mem' l ≠ none → (∃ a mb, T l = some a ∧ m1 a = some mb ∧ mem' l = some mb ∧ mb.nmb 0 = true) ∨ (T l = none ∧ l ≠ i ∧ l ≠ n ∧ mem l ≠ none ∧ mem' l = mem l) := by
    intro l hl
    obtain ⟨mb, hmb⟩ := Option.ne_none_iff_exists'.1 hl
    rcases hm l mb hmb with ⟨a, h, h', h''⟩ | ⟨h, h', h'', h'''⟩
    · exact .inl ⟨a, mb, h, h', hmb, h''⟩
    · exact .inr ⟨h, h', h'', by rw [h''']; simp, by rw [hmb, h''']⟩
  have hblk : ∀ l b, mem l ≠ none → l ≠ i → S l b → c1.w.heap[b]? = c.w.heap[b]? := by
    intro l b hl hli hb
    refine st.block b (hlt l b hl hb) (fun hm' => ?_)
    exact h2 l i b hl (by rw [hi]; simp) hli hb ((hmine b).1 hm')
  have hrep : ∀ l mb, mem' l = some mb → MRep ⟨c1.w, c1.fz, ρ'⟩ l (match T l with | some a => S1 a | none => S l) mb := by
    intro l mb hl
    rcases hm l mb hl with ⟨a, hTl, ha, hc⟩ | ⟨hTl, hli, hln, hl'⟩
    · rw [hTl]
      refine MRep.move (g1 a mb ha) hc rfl rfl ?_
      show ρ' l = c1.ρ a
      rcases hT l a hTl with ⟨rfl, rfl⟩ | rfl
      · rw [hρ l hin, st.ρ 0 (by omega)]; simp [Cx.one]
      · exact hρT a hTl
    · rw [hTl]
      exact MRep.mono hle (fun b hb => hblk l b (by rw [hl']; simp) hli hb) (h1 l mb hl')
  refine ⟨⟨⟨hf1.lt, hf1.glob⟩, _, hrep, ?_, ?_⟩, hle, st.os, st.tape, st.output, st.size, fun b hb hm' => st.block b hb (fun h => hm' ⟨i, S i, b0, hi, h1 i b0 hi, (hmine b).1 h⟩), ?_,
    fun b hb => (st.fzNew b hb).imp id (fun h => h.imp (fun h => ⟨i, S i, b0, hi, h1 i b0 hi, (hmine b).1 h⟩) id), by omega, hρ, ⟨hρn, fun l v hl => ?_⟩⟩
  · intro l l' b hl hl' hne hb hb'
    rcases hcase l hl with ⟨a, mb, e1, e2, _⟩ | ⟨e1, e2, e3, e4, _⟩ <;> rcases hcase l' hl' with ⟨a', mb', e1', e2', _⟩ | ⟨e1', e2', e3', e4', _⟩ <;> rw [e1] at hb <;> rw [e1'] at hb'
    · have : a ≠ a' := fun e => hne (hinj l l' a e1 (e ▸ e1'))
      exact g2 a a' b (by rw [e2]; simp) (by rw [e2']; simp) this hb hb'
    · rcases hS1 a b (by rw [e2]; simp) hb with h | h
      · exact h2 l' i b e4' (by rw [hi]; simp) e2' hb' h
      · have := hlt l' b e4' hb'; omega
    · rcases hS1 a' b (by rw [e2']; simp) hb' with h | h
      · exact h2 l i b e4 (by rw [hi]; simp) e2 hb h
      · have := hlt l b e4 hb; omega
    · exact h2 l l' b e4 e4' hne hb hb'
  · intro l b hl hb
    rcases hcase l hl with ⟨a, mb, e1, e2, _⟩ | ⟨e1, e2, e3, e4, _⟩ <;> rw [e1] at hb
    · exact g3 a b (by rw [e2]; simp) hb
    · intro hfz
      rcases st.fzNew b hfz with h | h | h
      · exact h3 l b e4 hb h
      · exact h2 l i b e4 (by rw [hi]; simp) e2 hb ((hmine b).1 h)
      · have h9 := hlt l b e4 hb
        have h8 : c.w.heap.size ≤ b := h
        omega
  · rintro b ⟨l, U, mb, hl, hR, hb⟩
    have e := MRep.det hR (hrep l mb hl)
    subst e
    rcases hcase l (by rw [hl]; simp) with ⟨a, mb', e1, e2, _⟩ | ⟨e1, e2, e3, e4, e5⟩ <;> rw [e1] at hb
    · exact (hS1 a b (by rw [e2]; simp) hb).imp (fun h => ⟨i, S i, b0, hi, h1 i b0 hi, h⟩) id
    · rw [hl] at e5
      exact .inl ⟨l, S l, mb, e5.symm, h1 l mb e5.symm, hb⟩
  · have hl3 : ρ' l = some v := hl
    have hl' : l < n' := Nat.lt_of_not_le fun hle => by have := hρn l hle; rw [hl3] at this; cases this
    by_cases e : l = n
    · subst e; exact hρ1 v hl
    · have hl2 : ρ' l = some v := hl
      rw [hρ l (by omega)] at hl2
      exact hn.2 l v hl2
section
variable {P : Program} {Γ : Ctr} {G : PCtr} {α : Type} {args : α → List PV} {B : α → MB} {pre : α → Prop}
theorem name_lt {c : Cx} {mem : Mem} {n i : Nat} {b : MB} (hI : InvM c mem) (hn : Names c n) (hi : mem i = some b) : i < n := Nat.lt_of_not_le fun hle => by
  obtain ⟨_, S, h1, _, _⟩ := hI
  obtain ⟨v, hv⟩ := (h1 i b hi).ρ
  rw [hn.1 i hle] at hv; cases hv
end
section
variable {P : Program} {rs : List ResultVar} {σ : AS}
end
end Go.Proofs.Ytdedddmnacomfaa

/- Results that are new rows; arguments that are lent. No program. -/
namespace Go.Proofs.Ytdedddmnacomfaa
set_option maxRecDepth 100000
set_option linter.unusedVariables false
set_option linter.unusedSimpArgs false
open Go.RowKit
/-- A value without memory. -/
def plainU : PV → Bool
  | .int .. | .bool _ | .str _ => true
  | _ => false
def plainV : PV → Bool
  | .agg cs => cs.all plainU
  | .tup cs => cs.all plainU
  | u => plainU u
theorem rep_plainU {u : PV} {c c' : Cx} {v : Value} (h : plainU u = true) (hr : Rep u c v) : Rep u c' v := by
  cases u <;> simp [plainU] at h <;> (unfold Rep at *; exact hr)
theorem repL_plain {c c' : Cx} : ∀ {us : List PV} {vs : List Value}, us.all plainU = true → RepL us c vs → RepL us c' vs
  | [], vs, _, h => by rw [RepL.nil_iff] at *; exact h
  | u :: us, vs, h, hr => by
    simp only [List.all_cons, Bool.and_eq_true] at h
    rw [RepL.cons_iff] at *
    obtain ⟨x, xs, rfl, h1, h2⟩ := hr
    exact ⟨x, xs, rfl, rep_plainU h.1 h1, repL_plain h.2 h2⟩
theorem rep_plainV {u : PV} {c c' : Cx} {v : Value} (h : plainV u = true) (hr : Rep u c v) : Rep u c' v := by
  cases u with
  | agg cs => unfold Rep at *; obtain ⟨vs, e, h1⟩ := hr; exact ⟨vs, e, repL_plain h h1⟩
  | tup cs => unfold Rep at *; obtain ⟨vs, e, h1⟩ := hr; exact ⟨vs, e, repL_plain h h1⟩
  | _ => exact rep_plainU h hr
section
variable {P : Program}
variable {Γ : Ctr} {G : PCtr} {α : Type} {args : α → List PV} {pre : α → Prop}
end
end Go.Proofs.Ytdedddmnacomfaa

/- Functions over one lent block, whatever their arguments; a variable that holds a row, as one block. No program. -/
namespace Go.Proofs.Ytdedddmnacomfaa
set_option maxRecDepth 100000
set_option linter.unusedVariables false
set_option linter.unusedSimpArgs false
open Go.RowKit
section
variable {P : Program} {Γ : Ctr} {G : PCtr} {α : Type} {args : α → List PV} {B : α → MB} {pre : α → Prop}
/-- What a call over one block leaves behind. -/
theorem Step.liftV {c : Cx} {mem : Mem} {n i : Nat} {b0 b' : MB} {c2 : Cx} {m2 : Mem} {k2 : Nat} {r : PV} {v' : Value} (hI : InvM c mem) (hn : Names c n) (hi : mem i = some b0) (hb0 : b0.nmb 0 = true)
    (stA : Step (c.one i) (mkM [(0, b0)]) 1 c2 m2 k2) (h0 : m2 0 = some b') (hb2 : b'.nmb 0 = true) (hr0 : r.nmb 0 = true) (hrep2 : Rep r c2 v') :
    Step c mem n ⟨c2.w, c2.fz, c.ρ⟩ (upd mem i (some b')) n ∧ Rep r ⟨c2.w, c2.fz, c.ρ⟩ v' := by
  refine ⟨Step.lift hI hn hi hb0 stA (fun l => if l = i then some 0 else none) ?_ ?_ ?_ (fun _ _ => rfl) (fun l hl => hn.1 l hl) ?_ ?_ (.inl rfl), hrep2.any hr0 rfl rfl⟩
  · intro l a hl
    by_cases e : l = i
    · rw [if_pos e] at hl; cases hl; exact .inl ⟨e, rfl⟩
    · rw [if_neg e] at hl; cases hl
  · intro l l' a hl hl'
    by_cases e : l = i
    · by_cases e' : l' = i
      · rw [e, e']
      · rw [if_neg e'] at hl'; cases hl'
    · rw [if_neg e] at hl; cases hl
  · intro l mb hl
    by_cases e : l = i
    · subst e; rw [upd_same] at hl; cases hl; exact .inl ⟨0, if_pos rfl, h0, hb2⟩
    · rw [upd_other _ _ e] at hl
      refine .inr ⟨if_neg e, e, ?_, hl⟩
      rintro rfl
      exact absurd (name_lt hI hn hl) (Nat.lt_irrefl _)
  · have hin := name_lt hI hn hi
    intro a ha
    rw [if_neg (by omega)] at ha; cases ha
  · intro v hv; rw [hn.1 n (Nat.le_refl _)] at hv; cases hv
end
/-- A step that changes no world: other names, other groups. -/
theorem Step.re {c : Cx} {ρ' : Nat → Option Value} {mem mem' : Mem} {n n' : Nat} (hn : Names c n) (hI' : InvM ⟨c.w, c.fz, ρ'⟩ mem') (hρ : ∀ j, j < n → ρ' j = c.ρ j) (hn' : Names ⟨c.w, c.fz, ρ'⟩ n') (hle : n ≤ n')
    (hm : ∀ b, Mine ⟨c.w, c.fz, ρ'⟩ mem' b → Mine c mem b) : Step c mem n ⟨c.w, c.fz, ρ'⟩ mem' n' :=
  ⟨hI', ⟨fun _ h => h, fun _ _ _ => rfl, fun i v hi => by
    have hlt : i < n := Nat.lt_of_not_le fun hh => by rw [hn.1 i hh] at hi; cases hi
    show ρ' i = some v
    rw [hρ i hlt]; exact hi⟩, rfl, rfl, rfl, Nat.le_refl _, fun _ _ _ => rfl, fun b hb => .inl (hm b hb), fun b hb => .inl hb, hle, fun i hi => hρ i hi, hn'⟩
section
variable {P : Program} {Γ : Ctr} {G : PCtr} {α : Type} {args : α → List PV} {B : α → List (List PV)} {pre : α → Prop}
end
end Go.Proofs.Ytdedddmnacomfaa

/- Trees of rows: memory of one's own in many rows, each told by its value; trees are lent, made, and written over. No program. -/
namespace Go.Proofs.Ytdedddmnacomfaa
set_option maxRecDepth 100000
set_option linter.unusedVariables false
set_option linter.unusedSimpArgs false
open Go.RowKit
/-- A cell without names: plain, or a value told itself. -/
def plainR : PV → Bool
  | .raw _ => true
  | u => plainU u
theorem rep_plainR {u : PV} {c c' : Cx} {v : Value} (h : plainR u = true) (hr : Rep u c v) : Rep u c' v := by
  cases u with
  | raw x => unfold Rep at *; exact hr
  | _ => exact rep_plainU h hr
theorem repL_plainR {c c' : Cx} : ∀ {us : List PV} {vs : List Value}, us.all plainR = true → RepL us c vs → RepL us c' vs
  | [], vs, _, h => by rw [RepL.nil_iff] at *; exact h
  | u :: us, vs, h, hr => by
    simp only [List.all_cons, Bool.and_eq_true] at h
    rw [RepL.cons_iff] at *
    obtain ⟨x, xs, rfl, h1, h2⟩ := hr
    exact ⟨x, xs, rfl, rep_plainR h.1 h1, repL_plainR h.2 h2⟩
theorem all_flatR {es : List (List PV)} (h : es.all (·.all plainR) = true) : es.flatten.all plainR = true := by
  rw [List.all_eq_true] at h ⊢
  intro u hu
  obtain ⟨l, hl, hul⟩ := List.mem_flatten.1 hu
  exact List.all_eq_true.1 (h l hl) u hul
/-- A row, by its value. -/
structure Node where
  v : Value
  e : TypeId
  s : Nat
  es : List (List PV)
def encNd (nd : Node) : PV := .tup [.raw nd.v, .int .i64 (nd.e : Nat), .int .i64 nd.s, .seq nd.es]
def encL (N : List Node) : PV := .tup (N.map encNd)
theorem encNd_inj {a b : Node} (h : encNd a = encNd b) : a = b := by
  cases a with | mk v e s es =>
  cases b with | mk v' e' s' es' =>
  simp [encNd] at h
  obtain ⟨rfl, h2, h3, rfl⟩ := h
  obtain rfl : e = e' := Int.ofNat.inj h2
  obtain rfl : s = s' := Int.ofNat.inj h3
  rfl
theorem map_inj' {α β : Type} {f : α → β} (hf : ∀ a b, f a = f b → a = b) : ∀ {l m : List α}, l.map f = m.map f → l = m
  | [], [], _ => rfl
  | [], _ :: _, h => by cases h
  | _ :: _, [], h => by cases h
  | a :: l, b :: m, h => by
    rw [List.map_cons, List.map_cons, List.cons.injEq] at h
    rw [hf a b h.1, map_inj' hf h.2]
theorem encL_iff {a b : List Node} : encL a = encL b ↔ a = b := by
  constructor
  · intro h
    unfold encL at h
    rw [PV.tup.injEq] at h
    exact map_inj' (fun a b => encNd_inj) h
  · rintro rfl; rfl
def NodeOk (w : World) (nd : Node) : Prop := ∃ vs, w.ownsRow 0 nd.e nd.s nd.v nd.es.length vs ∧ RepL nd.es.flatten ⟨w, fun _ => False, fun _ => none⟩ vs ∧ cellsOk nd.es nd.s ∧ nd.es.all (·.all plainR) = true
theorem NodeOk.mono {w w' : World} {nd : Node} (h : NodeOk w nd) (hb : ∀ b, nd.v.ownBlock = some b → w'.heap[b]? = w.heap[b]?) : NodeOk w' nd := by
  obtain ⟨vs, h1, h2, h3, h4⟩ := h
  exact ⟨vs, ownsRow_block h1 hb, repL_plainR (all_flatR h4) h2, h3, h4⟩
theorem NodeOk.one {w : World} {nd : Node} (h : NodeOk w nd) : nd.v.oneCell' = true := by
  obtain ⟨vs, h1, h2, h3, h4⟩ := h
  rcases h1.2 with ⟨e, _⟩ | ⟨g, cap, cur, e, _⟩ <;> rw [e] <;> rfl
def apart (a b : Node) : Prop := ∀ k, a.v.ownBlock = some k → b.v.ownBlock ≠ some k
theorem apart_symm {a b : Node} (h : apart a b) : apart b a := fun k hb ha => h k ha hb
def HeapR (N : List Node) (w : World) (S : Nat → Prop) : Prop := (∀ nd ∈ N, NodeOk w nd) ∧ N.Pairwise apart ∧ S = fun k => ∃ nd ∈ N, nd.v.ownBlock = some k
theorem HeapR.mono {N : List Node} {w w' : World} {S : Nat → Prop} (h : HeapR N w S) (hb : ∀ b, S b → w'.heap[b]? = w.heap[b]?) : HeapR N w' S := by
  obtain ⟨h1, h2, rfl⟩ := h
  exact ⟨fun nd hnd => (h1 nd hnd).mono fun b hb' => hb b ⟨nd, hnd, hb'⟩, h2, rfl⟩
theorem HeapR.lt {N : List Node} {w : World} {S : Nat → Prop} (h : HeapR N w S) {b : Nat} (hb : S b) : b < w.heap.size := by
  obtain ⟨h1, h2, rfl⟩ := h
  obtain ⟨nd, hnd, hb⟩ := hb
  obtain ⟨vs, h3, _⟩ := h1 nd hnd
  exact ownBlock_lt h3 hb
/-- Rows of one's own, unnamed. -/
def heapP : OwnP where
  R d w v S := ∃ N, d = [encL N] ∧ HeapR N w S
  mono := by
    rintro d w w' v S ⟨N, h1, h2⟩ hb
    exact ⟨N, h1, h2.mono hb⟩
  lt := by
    rintro d w v S b ⟨N, h1, h2⟩ hb
    exact h2.lt hb
  det := by
    rintro d w v S S' ⟨N, h1, h2⟩ ⟨N', h1', h2'⟩
    rw [h1, List.cons.injEq, encL_iff] at h1'
    obtain ⟨rfl, _⟩ := h1'
    rw [h2.2.2, h2'.2.2]
/-- A tree of such rows: as data es, its value, its rows. -/
def treeP (Q : List (List PV) → Value → List Node → Prop) : OwnP where
  R d w v S := ∃ es N, d = [.seq es, encL N] ∧ Q es v N ∧ v.oneCell' = true ∧ HeapR N w S ∧ Rep (.seq es) ⟨w, S, fun _ => none⟩ v
  mono := by
    rintro d w w' v S ⟨es, N, h1, h2, h3, h4, h5⟩ hb
    exact ⟨es, N, h1, h2, h3, h4.mono hb, Rep.mono _ (c := ⟨w, S, fun _ => none⟩) (c' := ⟨w', S, fun _ => none⟩) ⟨fun _ h => h, fun b hb' o => cell_of_block (hb b hb') o, fun _ _ h => by cases h⟩ h5⟩
  lt := by
    rintro d w v S b ⟨es, N, h1, h2, h3, h4, h5⟩ hb
    exact h4.lt hb
  det := by
    rintro d w v S S' ⟨es, N, h1, h2, h3, h4, h5⟩ ⟨es', N', h1', h2', h3', h4', h5'⟩
    rw [h1, List.cons.injEq, List.cons.injEq, encL_iff] at h1'
    obtain ⟨_, rfl, _⟩ := h1'
    rw [h4.2.2, h4'.2.2]
/-- A row joins those of name 0. -/
theorem Step.joinH {c : Cx} {mem : Mem} {n j : Nat} {e : TypeId} {s : Nat} {es : List (List PV)} {N : List Node} (hI : InvM c mem) (hn : Names c n) (h0 : mem 0 = some (.gen heapP [encL N])) (hj : mem j = some (.row e s es)) (hp : es.all (·.all plainR) = true) :
    ∃ v, c.ρ j = some v ∧ v.oneCell' = true ∧ ∀ N', N'.Perm (⟨v, e, s, es⟩ :: N) → Step c mem n ⟨c.w, c.fz, c.ρ⟩ (upd (upd mem j none) 0 (some (.gen heapP [encL N']))) n := by
  obtain ⟨hf, S, h1, h2, h3⟩ := id hI
  have hm0 : mem 0 ≠ none := by simp [h0]
  have hmj : mem j ≠ none := by simp [hj]
  have h0j : 0 ≠ j := fun h => by rw [← h, h0] at hj; cases hj
  obtain ⟨v0, a1, N0, a2, a3⟩ := h1 0 _ h0
  rw [List.cons.injEq, encL_iff] at a2
  obtain ⟨rfl, _⟩ := a2
  obtain ⟨v, vs, b1, b2, b3, b4, b5⟩ := h1 j _ hj
  refine ⟨v, b1, hn.2 j v b1, fun N' hN' => ?_⟩
  let S0 : Nat → Prop := fun k => S 0 k ∨ v.ownBlock = some k
  have hheap : HeapR N' c.w S0 := by
    refine ⟨fun nd hnd => ?_, (List.Perm.pairwise_iff (fun h => apart_symm h) hN').2 (List.pairwise_cons.2 ⟨fun b hb k hk hk' => ?_, a3.2.1⟩), ?_⟩
    · rcases List.mem_cons.1 (hN'.mem_iff.1 hnd) with rfl | h
      · exact ⟨vs, b2, repL_plainR (all_flatR hp) b3, b4, hp⟩
      · exact a3.1 nd h
    · exact h2 0 j k hm0 hmj h0j (by rw [a3.2.2]; exact ⟨b, hb, hk'⟩) (by rw [b5]; exact hk)
    · funext k
      apply propext
      show (S 0 k ∨ v.ownBlock = some k) ↔ _
      rw [a3.2.2]
      constructor
      · rintro (⟨nd, h, h'⟩ | h)
        · exact ⟨nd, hN'.mem_iff.2 (List.mem_cons_of_mem _ h), h'⟩
        · exact ⟨⟨v, e, s, es⟩, hN'.mem_iff.2 List.mem_cons_self, h⟩
      · rintro ⟨nd, h, h'⟩
        rcases List.mem_cons.1 (hN'.mem_iff.1 h) with rfl | h
        · exact .inr h'
        · exact .inl ⟨nd, h, h'⟩
  let S' : Nat → Nat → Prop := fun l => if l = 0 then S0 else S l
  have hrep : ∀ l mb, upd (upd mem j none) 0 (some (.gen heapP [encL N'])) l = some mb → MRep ⟨c.w, c.fz, c.ρ⟩ l (S' l) mb := by
    intro l mb hl
    simp only [upd] at hl
    by_cases e1 : l = 0
    · rw [if_pos e1] at hl; cases hl
      simp only [S', if_pos e1]
      exact ⟨v0, by show c.ρ l = _; rw [e1]; exact a1, N', rfl, hheap⟩
    · rw [if_neg e1] at hl
      by_cases e2 : l = j
      · rw [if_pos e2] at hl; cases hl
      · rw [if_neg e2] at hl
        simp only [S', if_neg e1]
        exact h1 l mb hl
  have hkeep : ∀ l, l ≠ 0 → upd (upd mem j none) 0 (some (.gen heapP [encL N'])) l ≠ none → l ≠ j ∧ mem l ≠ none := by
    intro l e1 hl
    rw [upd_other _ _ e1] at hl
    by_cases e2 : l = j
    · rw [e2, upd_same] at hl; exact absurd rfl hl
    · rw [upd_other _ _ e2] at hl; exact ⟨e2, hl⟩
  have hcase : ∀ l k, l ≠ 0 → l ≠ j → mem l ≠ none → S l k → ¬ S0 k := by
    rintro l k e1 e2 hl hk (h | h)
    · exact h2 l 0 k hl hm0 e1 hk h
    · exact h2 l j k hl hmj e2 hk (by rw [b5]; exact h)
  refine Step.re hn ⟨⟨hf.lt, hf.glob⟩, S', hrep, ?_, ?_⟩ (fun _ _ => rfl) hn (Nat.le_refl _) ?_
  · intro l l' k hl hl' hne' hk hk'
    simp only [S'] at hk hk'
    by_cases e1 : l = 0
    · rw [if_pos e1] at hk
      have e2 : l' ≠ 0 := fun h => hne' (e1.trans h.symm)
      rw [if_neg e2] at hk'
      obtain ⟨f1, f2⟩ := hkeep l' e2 hl'
      exact hcase l' k e2 f1 f2 hk' hk
    · rw [if_neg e1] at hk
      obtain ⟨f1, f2⟩ := hkeep l e1 hl
      by_cases e2 : l' = 0
      · rw [if_pos e2] at hk'; exact hcase l k e1 f1 f2 hk hk'
      · rw [if_neg e2] at hk'
        obtain ⟨f3, f4⟩ := hkeep l' e2 hl'
        exact h2 l l' k f2 f4 hne' hk hk'
  · intro l k hl hk
    simp only [S'] at hk
    by_cases e1 : l = 0
    · rw [if_pos e1] at hk
      rcases hk with h | h
      · exact h3 0 k hm0 h
      · exact h3 j k hmj (by rw [b5]; exact h)
    · rw [if_neg e1] at hk
      exact h3 l k (hkeep l e1 hl).2 hk
  · rintro k ⟨l, U, mb, hl, hR, hU⟩
    have := MRep.det hR (hrep l mb hl)
    subst this
    simp only [S'] at hU
    by_cases e1 : l = 0
    · rw [if_pos e1] at hU
      rcases hU with h | h
      · exact ⟨0, S 0, _, h0, h1 0 _ h0, h⟩
      · exact ⟨j, S j, _, hj, h1 j _ hj, by rw [b5]; exact h⟩
    · rw [if_neg e1] at hU
      rw [upd_other _ _ e1] at hl
      by_cases e2 : l = j
      · rw [e2, upd_same] at hl; cases hl
      · rw [upd_other _ _ e2] at hl
        exact ⟨l, S l, mb, hl, h1 l mb hl, hU⟩
/-- One of the rows of name 0 gets a name. -/
theorem Step.splitH {c : Cx} {mem : Mem} {n : Nat} {nd : Node} {N : List Node} (hI : InvM c mem) (hn : Names c n) (h0 : mem 0 = some (.gen heapP [encL (nd :: N)])) :
    Step c mem n ⟨c.w, c.fz, upd c.ρ n (some nd.v)⟩ (upd (upd mem 0 (some (.gen heapP [encL N]))) n (some (.row nd.e nd.s nd.es))) (n + 1) := by
  have h0n := name_lt hI hn h0
  obtain ⟨hf, S, h1, h2, h3⟩ := id hI
  have hm0 : mem 0 ≠ none := by simp [h0]
  obtain ⟨v0, a1, N0, a2, a3⟩ := h1 0 _ h0
  rw [List.cons.injEq, encL_iff] at a2
  obtain ⟨rfl, _⟩ := a2
  obtain ⟨vs, b2, b3, b4, b5⟩ := a3.1 nd List.mem_cons_self
  have hone := (a3.1 nd List.mem_cons_self).one
  have hpw := List.pairwise_cons.1 a3.2.1
  let ρ' := upd c.ρ n (some nd.v)
  have hρ : ∀ j, j < n → ρ' j = c.ρ j := fun j hj => upd_other _ _ (by omega)
  have hnn : ρ' n = some nd.v := upd_same _ _ _
  have hle : c.Le ⟨c.w, c.fz, ρ'⟩ := ⟨fun _ h => h, fun _ _ _ => rfl, fun j v hj => by
    have hlt : j < n := Nat.lt_of_not_le fun hh => by rw [hn.1 j hh] at hj; cases hj
    show ρ' j = some v
    rw [hρ j hlt]; exact hj⟩
  let S0 : Nat → Prop := fun k => ∃ x ∈ N, x.v.ownBlock = some k
  let S' : Nat → Nat → Prop := fun j => if j = n then (fun k => nd.v.ownBlock = some k) else if j = 0 then S0 else S j
  have hS0 : ∀ k, S 0 k ↔ nd.v.ownBlock = some k ∨ S0 k := fun k => by
    rw [a3.2.2]
    constructor
    · rintro ⟨x, hx, h⟩
      rcases List.mem_cons.1 hx with rfl | hx
      · exact .inl h
      · exact .inr ⟨x, hx, h⟩
    · rintro (h | ⟨x, hx, h⟩)
      · exact ⟨nd, List.mem_cons_self, h⟩
      · exact ⟨x, List.mem_cons_of_mem _ hx, h⟩
  have hap : ∀ k, nd.v.ownBlock = some k → ¬ S0 k := by
    rintro k hk ⟨x, hx, h⟩
    exact hpw.1 x hx k hk h
  have hrep : ∀ j mb, upd (upd mem 0 (some (.gen heapP [encL N]))) n (some (.row nd.e nd.s nd.es)) j = some mb → MRep ⟨c.w, c.fz, ρ'⟩ j (S' j) mb := by
    intro j mb hj
    simp only [upd] at hj
    by_cases ej : j = n
    · rw [if_pos ej] at hj; cases hj
      simp only [S', if_pos ej]
      exact ⟨nd.v, vs, by rw [ej]; exact hnn, b2, repL_plainR (all_flatR b5) b3, b4, rfl⟩
    · rw [if_neg ej] at hj
      simp only [S', if_neg ej]
      by_cases ei : j = 0
      · rw [if_pos ei] at hj; cases hj
        rw [if_pos ei]
        exact ⟨v0, by show ρ' j = _; rw [ei, hρ 0 h0n, a1], N, rfl, fun x hx => a3.1 x (List.mem_cons_of_mem _ hx), hpw.2, rfl⟩
      · rw [if_neg ei] at hj ⊢
        exact MRep.mono hle (fun _ _ => rfl) (h1 j mb hj)
  have hkeep : ∀ j, j ≠ n → j ≠ 0 → upd (upd mem 0 (some (.gen heapP [encL N]))) n (some (.row nd.e nd.s nd.es)) j ≠ none → mem j ≠ none := by
    intro j e1 e2 h
    rwa [upd_other _ _ e1, upd_other _ _ e2] at h
  refine Step.re hn ⟨hf.mono hle hf.lt, S', hrep, ?_, ?_⟩ hρ ⟨fun j hj => by show upd _ _ _ _ = _; rw [upd_other _ _ (by omega)]; exact hn.1 j (by omega), fun j v hj => ?_⟩ (by omega) ?_
  · intro j l k hj hl hne hjk hlk
    simp only [S'] at hjk hlk
    by_cases e1 : j = n
    · rw [if_pos e1] at hjk
      by_cases e2 : l = n
      · exact hne (e1.trans e2.symm)
      rw [if_neg e2] at hlk
      by_cases e3 : l = 0
      · rw [if_pos e3] at hlk; exact hap k hjk hlk
      · rw [if_neg e3] at hlk
        exact h2 l 0 k (hkeep l e2 e3 hl) hm0 e3 hlk ((hS0 k).2 (.inl hjk))
    · rw [if_neg e1] at hjk
      by_cases e2 : j = 0
      · rw [if_pos e2] at hjk
        by_cases e3 : l = n
        · rw [if_pos e3] at hlk; exact hap k hlk hjk
        rw [if_neg e3] at hlk
        by_cases e4 : l = 0
        · exact hne (e2.trans e4.symm)
        · rw [if_neg e4] at hlk
          exact h2 l 0 k (hkeep l e3 e4 hl) hm0 e4 hlk ((hS0 k).2 (.inr hjk))
      · rw [if_neg e2] at hjk
        have hmj := hkeep j e1 e2 hj
        by_cases e3 : l = n
        · rw [if_pos e3] at hlk
          exact h2 j 0 k hmj hm0 e2 hjk ((hS0 k).2 (.inl hlk))
        rw [if_neg e3] at hlk
        by_cases e4 : l = 0
        · rw [if_pos e4] at hlk
          exact h2 j 0 k hmj hm0 e2 hjk ((hS0 k).2 (.inr hlk))
        · rw [if_neg e4] at hlk
          exact h2 j l k hmj (hkeep l e3 e4 hl) hne hjk hlk
  · intro j k hj hjk
    simp only [S'] at hjk
    by_cases e1 : j = n
    · rw [if_pos e1] at hjk; exact h3 0 k hm0 ((hS0 k).2 (.inl hjk))
    rw [if_neg e1] at hjk
    by_cases e2 : j = 0
    · rw [if_pos e2] at hjk; exact h3 0 k hm0 ((hS0 k).2 (.inr hjk))
    · rw [if_neg e2] at hjk; exact h3 j k (hkeep j e1 e2 hj) hjk
  · have hj' : upd c.ρ n (some nd.v) j = some v := hj
    simp only [upd] at hj'
    split at hj'
    · cases hj'; exact hone
    · exact hn.2 j v hj'
  · rintro k ⟨j, U, mb, hj, hR, hU⟩
    have := MRep.det hR (hrep j mb hj)
    subst this
    simp only [S'] at hU
    by_cases e1 : j = n
    · rw [if_pos e1] at hU; exact ⟨0, S 0, _, h0, h1 0 _ h0, (hS0 k).2 (.inl hU)⟩
    rw [if_neg e1] at hU
    by_cases e2 : j = 0
    · rw [if_pos e2] at hU; exact ⟨0, S 0, _, h0, h1 0 _ h0, (hS0 k).2 (.inr hU)⟩
    · rw [if_neg e2] at hU
      rw [upd_other _ _ e1, upd_other _ _ e2] at hj
      exact ⟨j, S j, mb, hj, h1 j mb hj, hU⟩
section
variable {P : Program} {Γ : Ctr} {G : PCtr} {α : Type} {args : α → List PV} {pre : α → Prop}
/-- A function that makes rows (name 0 has them) and hands back values. -/
def hpC (args : α → List PV) (pre : α → Prop) (post : α → PV → List Node → Prop) : AC := fun as mem n K =>
  ∃ x A, as = args x ∧ mem 0 = some (.gen heapP [encL A]) ∧ pre x ∧ ∀ r N, post x r N → K r (upd mem 0 (some (.gen heapP [encL (A ++ N)]))) n
def FinH (P : Program) (rs : List ResultVar) (A : List Node) (K : PV → List Node → Prop) : AX → AS → Prop := Fin P rs fun r mem _ => r.nmb 0 = true ∧ ∃ N, mem 0 = some (.gen heapP [encL (A ++ N)]) ∧ K r N
theorem fin_H {rs : List ResultVar} {σ : AS} {A : List Node} {K : PV → List Node → Prop} (h : aRes P σ rs fun us => (packR us).nmb 0 = true ∧ ∃ N, σ.mem 0 = some (.gen heapP [encL (A ++ N)]) ∧ K (packR us) N) : FinH P rs A K .ret σ := h
theorem fin_He {rs : List ResultVar} {σ : AS} {A : List Node} {K : PV → List Node → Prop} (h : aRes P σ rs fun us => (packR us).nmb 0 = true ∧ ∃ N, σ.mem 0 = some (.gen heapP [encL (A ++ N)]) ∧ K (packR us) N) : FinH P rs A K .normal σ := h
theorem hpC_ok {post : α → PV → List Node → Prop} (m : Nat) (hΓ : ∀ f C, Γ f = some C → ACok P f C) (hG : ∀ f R, G f = some R → PureOk P f R) (hm : P.follows .mixedOrders = true) {f : FuncId} {fn : Func} {code : Code} (rs : List ResultVar) (hf : P.funcs[f]? = some fn) (hb : fn.body = some code) (hrs : fn.results.toList = rs) (hN : codeN fn.ntmps code = true)
    (hname : (fn.name == "runtime.NumGoroutine") = false) (hl : ∀ x, (args x).length = m) (hle : Nat.ble m fn.ntmps = true) (hca : ∀ x, nmbL 0 (args x) = true)
    (h : ∀ x A K, pre x → (∀ r N, post x r N → K r N) → awp P G Γ 1 code (FinH P rs A K) (entry (args x) (mkM [(0, .gen heapP [encL A])]) 1)) : ACok P f (hpC args pre post) := by
  subst hrs
  refine ⟨⟨fn, hf, by rw [hb]; rfl, hname⟩, fun c mem n as vs K hI hn hr hC => ?_⟩
  obtain ⟨x, A, rfl, h0, hp, hK⟩ := hC
  have hr1 : RepL (args x) (c.one 0) vs := hr.any (hca x) rfl rfl
  refine (calls_of_body hΓ hG hm hf hb hN (hI.one h0 rfl) (Names.one hn) hr1 (by rw [hl x]; exact Nat.le_of_ble_eq_true hle) (K := fun r mem _ => r.nmb 0 = true ∧ ∃ N, mem 0 = some (.gen heapP [encL (A ++ N)]) ∧ post x r N) (h x A (fun r N => post x r N) hp (fun _ _ h => h))).mono ?_
  rintro e w' ⟨v', r, c1, m1, k1, rfl, rfl, ⟨hr0, N, hm0, hpost⟩, st, hrep⟩
  obtain ⟨s1, s2⟩ := Step.liftV hI hn h0 rfl st hm0 rfl hr0 hrep
  exact ⟨v', r, ⟨c1.w, c1.fz, c.ρ⟩, _, _, rfl, rfl, hK r N hpost, s1, s2⟩
/-- .. a row of its own, which joins them. -/
def jinC (e : TypeId) (s : Nat) (args : α → List PV) (pre : α → Prop) (post : α → List (List PV) → List Node → Prop) : AC := fun as mem n K =>
  ∃ x A, as = args x ∧ mem 0 = some (.gen heapP [encL A]) ∧ pre x ∧ ∀ v es N, v.oneCell' = true → post x es N → K (.raw v) (upd mem 0 (some (.gen heapP [encL (A ++ ⟨v, e, s, es⟩ :: N)]))) n
def FinJ (P : Program) (rs : List ResultVar) (A : List Node) (K : List (List PV) → List Node → Prop) (e : TypeId) (s : Nat) : AX → AS → Prop := Fin P rs fun r mem _ => ∃ j es N, r = .own j ∧ mem j = some (.row e s es) ∧ mem 0 = some (.gen heapP [encL (A ++ N)]) ∧ es.all (·.all plainR) = true ∧ K es N
theorem fin_J {rs : List ResultVar} {σ : AS} {A : List Node} {K : List (List PV) → List Node → Prop} {e : TypeId} {s : Nat} (h : aRes P σ rs fun us => ∃ j es N, packR us = .own j ∧ σ.mem j = some (.row e s es) ∧ σ.mem 0 = some (.gen heapP [encL (A ++ N)]) ∧ es.all (·.all plainR) = true ∧ K es N) : FinJ P rs A K e s .ret σ := h
theorem fin_Je {rs : List ResultVar} {σ : AS} {A : List Node} {K : List (List PV) → List Node → Prop} {e : TypeId} {s : Nat} (h : aRes P σ rs fun us => ∃ j es N, packR us = .own j ∧ σ.mem j = some (.row e s es) ∧ σ.mem 0 = some (.gen heapP [encL (A ++ N)]) ∧ es.all (·.all plainR) = true ∧ K es N) : FinJ P rs A K e s .normal σ := h
theorem jinC_ok {e : TypeId} {s : Nat} {post : α → List (List PV) → List Node → Prop} (m : Nat) (hΓ : ∀ f C, Γ f = some C → ACok P f C) (hG : ∀ f R, G f = some R → PureOk P f R) (hm : P.follows .mixedOrders = true) {f : FuncId} {fn : Func} {code : Code} (rs : List ResultVar) (hf : P.funcs[f]? = some fn) (hb : fn.body = some code) (hrs : fn.results.toList = rs) (hN : codeN fn.ntmps code = true)
    (hname : (fn.name == "runtime.NumGoroutine") = false) (hl : ∀ x, (args x).length = m) (hle : Nat.ble m fn.ntmps = true) (hca : ∀ x, nmbL 0 (args x) = true)
    (h : ∀ x A K, pre x → (∀ es N, post x es N → K es N) → awp P G Γ 1 code (FinJ P rs A K e s) (entry (args x) (mkM [(0, .gen heapP [encL A])]) 1)) : ACok P f (jinC e s args pre post) := by
  subst hrs
  refine ⟨⟨fn, hf, by rw [hb]; rfl, hname⟩, fun c mem n as vs K hI hn hr hC => ?_⟩
  obtain ⟨x, A, rfl, h0, hp, hK⟩ := hC
  have hr1 : RepL (args x) (c.one 0) vs := hr.any (hca x) rfl rfl
  refine (calls_of_body hΓ hG hm hf hb hN (hI.one h0 rfl) (Names.one hn) hr1 (by rw [hl x]; exact Nat.le_of_ble_eq_true hle) (K := fun r mem _ => ∃ j es N, r = .own j ∧ mem j = some (.row e s es) ∧ mem 0 = some (.gen heapP [encL (A ++ N)]) ∧ es.all (·.all plainR) = true ∧ post x es N) (h x A (fun es N => post x es N) hp (fun _ _ h => h))).mono ?_
  rintro e' w' ⟨v', r, c1, m1, k1, rfl, rfl, ⟨j, es, N, rfl, hj, hm0, hall, hpost⟩, st, hrep⟩
  obtain ⟨v, hv, hone, hjoin⟩ := Step.joinH st.inv st.free hm0 hj hall
  unfold Rep at hrep
  obtain rfl : v = v' := by rw [hv] at hrep; exact Option.some.inj hrep
  have stA := st.trans (hjoin (A ++ ⟨v, e, s, es⟩ :: N) List.perm_middle)
  obtain ⟨s1, s2⟩ := Step.liftV (r := .raw v) (v' := v) hI hn h0 rfl stA (upd_same _ _ _) rfl rfl (by unfold Rep; rfl)
  exact ⟨v, .raw v, ⟨c1.w, c1.fz, c.ρ⟩, _, _, rfl, rfl, hK v es N hone hpost, s1, s2⟩
open Classical in
noncomputable def lendG (p : OwnP) (d : List PV) : PV := if ∃ Q, p = treeP Q then d.headD .undef else .undef
@[go_sem] theorem lendG_tree (Q : List (List PV) → Value → List Node → Prop) (u : PV) (r : List PV) : lendG (treeP Q) (u :: r) = u := by
  unfold lendG
  rw [if_pos ⟨Q, rfl⟩]; rfl
noncomputable def lendM : Option MB → PV
  | some (.row _ _ es) => .seq es
  | some (.fro es) => .seq es
  | some (.gen p d) => lendG p d
  | _ => .undef
noncomputable def resT (mem : Mem) : PV → PV
  | .own i => lendM (mem i)
  | .nil => .seq []
  | u => u
/-- All that is one's own is lent. -/
def Cx.lent (c : Cx) (mem : Mem) : Cx := ⟨c.w, fun b => c.fz b ∨ Mine c mem b, c.ρ⟩
theorem lent_le (c : Cx) (mem : Mem) : c.Le (c.lent mem) := ⟨fun _ h => .inl h, fun _ _ _ => rfl, fun _ _ h => h⟩
theorem lent_fz {c : Cx} {mem : Mem} (hI : InvM c mem) : FzOk (c.lent mem) := hI.1.mono (lent_le c mem) fun b hb => by
  rcases hb with h | h
  · exact hI.1.lt b h
  · exact InvM.mine_lt (c := c) (mem := mem) h
theorem rep_lent {c : Cx} {mem : Mem} {u : PV} {v : Value} (hI : InvM c mem) (hr : Rep u c v) : Rep (resT mem u) (c.lent mem) v := by
  cases u with
  | own i =>
    show Rep (lendM (mem i)) _ _
    cases hm : mem i with
    | none => unfold lendM Rep; trivial
    | some mb =>
      cases mb with
      | box cs => unfold lendM Rep; trivial
      | row e s es =>
        obtain ⟨v', hv, _, _, hseq, hmine, _⟩ := hI.freeze hm
        unfold Rep at hr
        obtain rfl : v' = v := by rw [hv] at hr; exact Option.some.inj hr
        have hl : Cx.Le ⟨c.w, fun b => c.fz b ∨ v'.ownBlock = some b, c.ρ⟩ (c.lent mem) := ⟨fun b hb => hb.elim .inl fun h => .inr (hmine b h), fun _ _ _ => rfl, fun _ _ h => h⟩
        exact Rep.mono _ hl hseq
      | fro es => exact Rep.mono _ (lent_le c mem) (rep_fro hI hm hr)
      | gen p d =>
        show Rep (lendG p d) _ _
        unfold lendG
        split
        · rename_i hq
          obtain ⟨Q, rfl⟩ := hq
          obtain ⟨_, S, h1, _, _⟩ := id hI
          obtain ⟨v', hv, es, N, rfl, _, _, hh, hseq⟩ := h1 i _ hm
          unfold Rep at hr
          obtain rfl : v' = v := by rw [hv] at hr; exact Option.some.inj hr
          have hl : Cx.Le ⟨c.w, S i, fun _ => none⟩ (c.lent mem) := ⟨fun b hb => .inr ⟨i, S i, _, hm, h1 i _ hm, hb⟩, fun _ _ _ => rfl, fun _ _ h => by cases h⟩
          exact Rep.mono (.seq es) hl hseq
        · unfold Rep; trivial
  | nil => exact Rep.mono _ (lent_le c mem) (rep_nil hr)
  | _ => exact Rep.mono _ (lent_le c mem) hr
theorem repL_mapC {c c' : Cx} (f : PV → PV) : ∀ {us : List PV} {vs : List Value}, (∀ u ∈ us, ∀ v, Rep u c v → Rep (f u) c' v) → RepL us c vs → RepL (us.map f) c' vs
  | [], vs, _, h => by rw [RepL.nil_iff] at h; subst h; simp [RepL.nil_iff]
  | u :: us, vs, hf, h => by
    rw [RepL.cons_iff] at h
    obtain ⟨x, xs, rfl, h1, h2⟩ := h
    rw [List.map_cons, RepL.cons_iff]
    exact ⟨x, xs, rfl, hf u (by simp) x h1, repL_mapC f (fun t ht => hf t (by simp [ht])) h2⟩
/-- A function that only computes, its arguments lent, trees too. -/
def borT (R : PC) : AC := fun args mem n K => nmbL 0 (args.map (resT mem)) = true ∧ R (args.map (resT mem)) fun r => plainV r = true ∧ K r mem n
theorem borT_ok {f : FuncId} {R : PC} (h : PureOk P f R) : ACok P f (borT R) := by
  refine ⟨h.fn, fun c mem n args vs K hI hn hr hC => ?_⟩
  obtain ⟨hsc, hR⟩ := hC
  have hr1 : RepL (args.map (resT mem)) (c.lent mem) vs := repL_mapC _ (fun u hu v hv => rep_lent hI hv) hr
  refine (h.run (c.lent mem) _ vs _ (lent_fz hI) (hr1.to_data hsc) hR).mono ?_
  rintro e w' ⟨v, r, rfl, ⟨hp, hK⟩, hb, hrep⟩
  have hb1 : Below c.w.heap.size c.w w' := hb
  let c2 : Cx := ⟨w', c.fz, c.ρ⟩
  have st2 : Step c mem n c2 mem n := Step.later hI hn rfl (fun _ h => h) hb1 (fun b hb => .inl hb)
  exact ⟨v, r, c2, mem, n, rfl, rfl, hK, st2, rep_plainV hp hrep⟩
/-- What joins, seen from outside: a new tree. -/
def newT (Q : List (List PV) → Value → List Node → Prop) (args : α → List PV) (pre : α → Prop) (es : α → List (List PV)) : AC := fun as mem n K =>
  ∃ x, as.map (resT mem) = args x ∧ pre x ∧ ∀ N, K (.own n) (upd mem n (some (.gen (treeP Q) [.seq (es x), encL N]))) (n + 1)
theorem newT_ok {Q : List (List PV) → Value → List Node → Prop} {e : TypeId} {s : Nat} {post : α → List (List PV) → List Node → Prop} {ess : α → List (List PV)} {f : FuncId} (h : ACok P f (jinC e s args pre post)) (hca : ∀ x, nmbL 0 (args x) = true)
    (hQ : ∀ x v es N, post x es N → Q (ess x) v (⟨v, e, s, es⟩ :: N))
    (hL : ∀ x v es N w S, post x es N → HeapR (⟨v, e, s, es⟩ :: N) w S → Rep (.seq (ess x)) ⟨w, S, fun _ => none⟩ v) : ACok P f (newT Q args pre ess) := by
  refine ⟨h.fn, fun c mem n as vs K hI hn hr hC => ?_⟩
  obtain ⟨x, hx, hp, hK⟩ := hC
  have hr1 : RepL (as.map (resT mem)) (c.lent mem) vs := repL_mapC _ (fun u hu v hv => rep_lent hI hv) hr
  rw [hx] at hr1
  have hfz := lent_fz hI
  let c1 : Cx := ⟨c.w, (c.lent mem).fz, fun l => if l = 0 then some (.int .i64 0) else none⟩
  have hI1 : InvM c1 (mkM [(0, .gen heapP [encL []])]) := by
    refine ⟨⟨hfz.lt, hfz.glob⟩, fun _ _ => False, ?_, fun _ _ _ _ _ _ h => h.elim, fun _ _ _ h => h.elim⟩
    intro i mb hi
    simp only [mkM, upd] at hi
    split at hi
    · rename_i e0
      cases hi
      refine ⟨.int .i64 0, by show (if i = 0 then _ else _) = _; rw [if_pos e0], [], rfl, ?_⟩
      refine ⟨fun nd hnd => by simp at hnd, List.Pairwise.nil, ?_⟩
      funext k
      simp
    · cases hi
  have hn1 : Names c1 1 := ⟨fun i hi => if_neg (by omega), fun i v hi => by
    have hi' : (if i = 0 then some (Value.int .i64 0) else none) = some v := hi
    split at hi'
    · cases hi'; rfl
    · cases hi'⟩
  have hr2 : RepL (args x) c1 vs := RepL.of_data (c := c1) (show RepL (args x) (c.lent mem).data vs from hr1.to_data (hca x))
  refine (h.run c1 _ 1 (args x) vs (fun r m _ => ∃ v es N, r = .raw v ∧ v.oneCell' = true ∧ post x es N ∧ m 0 = some (.gen heapP [encL (⟨v, e, s, es⟩ :: N)])) hI1 hn1 hr2 ⟨x, [], rfl, upd_same _ _ _, hp, fun v es N hv hpost => ⟨v, es, N, rfl, hv, hpost, upd_same _ _ _⟩⟩).mono ?_
  rintro e' w' ⟨v', r, c2, m2, k2, rfl, rfl, ⟨v, es, N, rfl, hone, hpost, hm2⟩, st2, hrep⟩
  unfold Rep at hrep
  obtain rfl : v = v' := hrep.symm
  have hno : ∀ b, ¬ Mine c1 (mkM [(0, .gen heapP [encL []])]) b := by
    rintro b ⟨i, S, mb, hi, hR, hb⟩
    simp only [mkM, upd] at hi
    split at hi
    · cases hi
      obtain ⟨_, _, N0, hN0, hh⟩ := hR
      rw [List.cons.injEq, encL_iff] at hN0
      obtain ⟨rfl, _⟩ := hN0
      rw [hh.2.2] at hb
      obtain ⟨nd, hnd, _⟩ := hb
      cases hnd
    · cases hi
  obtain ⟨_, S2, g1, _, _⟩ := id st2.inv
  obtain ⟨u, hu, N0, hN0, hh⟩ := g1 0 _ hm2
  rw [List.cons.injEq, encL_iff] at hN0
  obtain ⟨rfl, _⟩ := hN0
  have hmn := free_mem hI hn
  have hos : c2.w.os = c.w.os := st2.os
  have htp : c2.w.tape = c.w.tape := st2.tape
  have hou : c2.w.output = c.w.output := st2.output
  have hsz : c.w.heap.size ≤ c2.w.heap.size := st2.size
  have hw : ∀ b, b < c.w.heap.size → c2.w.heap[b]? = c.w.heap[b]? := fun b hb => st2.block b hb (hno b)
  let c' : Cx := ⟨c2.w, c.fz, upd c.ρ n (some v)⟩
  obtain ⟨h1, h2, h3⟩ := InvM.put (c := c) (c' := c') (mem := mem) (mem' := upd mem n (some (.gen (treeP Q) [.seq (ess x), encL (⟨v, e, s, es⟩ :: N)]))) (j := n) (S' := S2 0) hI none rfl (fun k hk => upd_other _ _ hk) (.inl (hn.1 n (Nat.le_refl _)))
    (upd_same _ _ _) (fun k hk => .inl (upd_other _ _ hk)) (fun i hi => by cases hi) (.inr hmn) hsz (fun b hb _ => hw b hb)
    (fun hle => ⟨v, upd_same _ _ _, ess x, ⟨v, e, s, es⟩ :: N, rfl, hQ x v es N hpost, hone, hh, hL x v es N _ _ hpost hh⟩)
    (fun b hb => by
      rcases st2.mine b ⟨0, S2 0, _, hm2, g1 0 _ hm2, hb⟩ with h | h
      · exact absurd h (hno b)
      · exact .inr h)
  have st : Step c mem n c' (upd mem n (some (.gen (treeP Q) [.seq (ess x), encL (⟨v, e, s, es⟩ :: N)]))) (n + 1) :=
    ⟨h1, h2, hos, htp, hou, hsz, fun b hb _ => hw b hb, h3, fun _ h => .inl h, by omega, fun i hi => upd_other _ _ (by omega), hn.upd rfl hone⟩
  exact ⟨v, .own n, c', _, _, rfl, rfl, hK _, st, by unfold Rep; exact upd_same _ _ _⟩
end
end Go.Proofs.Ytdedddmnacomfaa

/- Parts of templates: as data, their abstract cells, their weight. No program. -/
namespace Go.Proofs.Ytdedddmnacomfaa
set_option maxRecDepth 100000
set_option linter.unusedVariables false
set_option linter.unusedSimpArgs false
open Go.RowKit
inductive PartD where
  | mk (kind : Int) (text name : List UInt8) (parts other : List PartD)
mutual
def encP : PartD → List PV
  | .mk k t n ps os => [.int .i64 k, .str t, .str n, .seq (encPs ps), .seq (encPs os)]
def encPs : List PartD → List (List PV)
  | [] => []
  | p :: ps => encP p :: encPs ps
end
mutual
def wtP : PartD → Nat
  | .mk _ t n ps os => t.length + n.length + wtL ps + wtL os
def wtL : List PartD → Nat
  | [] => 0
  | x :: xs => 1 + wtP x + wtL xs
end
mutual
/-- Lengths are lengths. -/
def okP : PartD → Prop
  | .mk _ t n ps os => t.length ≤ 9223372036854775807 ∧ n.length ≤ 9223372036854775807 ∧ ps.length ≤ 9223372036854775807 ∧ os.length ≤ 9223372036854775807 ∧ okL ps ∧ okL os
def okL : List PartD → Prop
  | [] => True
  | x :: xs => okP x ∧ okL xs
end
@[go_sem] theorem encPs_length : ∀ xs : List PartD, (encPs xs).length = xs.length
  | [] => by simp [encPs]
  | x :: xs => by simp [encPs, encPs_length xs]
theorem encPs_get : ∀ (xs : List PartD) (k : Nat), (encPs xs)[k]? = (xs[k]?).map encP
  | [], k => by simp [encPs]
  | x :: xs, 0 => by simp [encPs]
  | x :: xs, k + 1 => by simp [encPs, encPs_get xs k]
theorem encPs_append : ∀ xs ys : List PartD, encPs (xs ++ ys) = encPs xs ++ encPs ys
  | [], ys => by simp [encPs]
  | x :: xs, ys => by simp [encPs, encPs_append xs ys]
theorem encPs_nil : encPs [] = [] := by simp [encPs]
theorem encPs_one (x : PartD) : encPs [x] = [encP x] := by simp [encPs]
theorem encPs_map : ∀ xs : List PartD, encPs xs = xs.map encP
  | [] => by simp [encPs]
  | x :: xs => by simp [encPs, encPs_map xs]
theorem encP_mk (k : Int) (t n : List UInt8) (ps os : List PartD) : encP (.mk k t n ps os) = [.int .i64 k, .str t, .str n, .seq (encPs ps), .seq (encPs os)] := by simp [encP]
@[go_sem] theorem encP_length (x : PartD) : (encP x).length = 5 := by cases x; simp [encP]
@[go_sem] theorem encP_take (x : PartD) : List.take 5 (encP x) = encP x := by rw [List.take_of_length_le (by rw [encP_length]; exact Nat.le_refl _)]
@[go_sem] theorem encP_nmb (n : Nat) (x : PartD) : nmbL n (encP x) = true := by cases x; simp [encP, nmbL, PV.nmb]
@[go_sem] theorem encP_res (m : Nat → Option MB) (x : PartD) : (encP x).map (resC m) = encP x := by cases x; simp [encP, resC, res1]
@[go_sem] theorem encP_owns (x : PartD) : (encP x).flatMap ownsC = [] := by cases x; simp [encP, ownsC, owns1]
@[go_sem] theorem encP_isCell (x : PartD) : (encP x).all PV.isCell = true := by cases x; simp [encP, PV.isCell]
/-- Whether two are the same. -/
noncomputable def eqB {α : Type} (a b : α) : Bool := @decide (a = b) (Classical.propDecidable _)
theorem eqB_t {α : Type} {a b : α} : eqB a b = true ↔ a = b := by unfold eqB; simp
theorem eqB_f {α : Type} {a b : α} : eqB a b = false ↔ a ≠ b := by unfold eqB; simp
theorem encPs_all (xs : List PartD) : ∀ e ∈ encPs xs, e.length = 5 := by
  rw [encPs_map]
  intro e he
  obtain ⟨x, _, rfl⟩ := List.mem_map.1 he
  exact encP_length x
mutual
theorem encP_inj : ∀ x y : PartD, encP x = encP y → x = y
  | .mk k t n ps os, .mk k' t' n' ps' os', h => by
    simp only [encP, List.cons.injEq, PV.int.injEq, PV.str.injEq, PV.seq.injEq, and_true, true_and] at h
    obtain ⟨rfl, rfl, rfl, h1, h2⟩ := h
    rw [encPs_inj _ _ h1, encPs_inj _ _ h2]
theorem encPs_inj : ∀ xs ys : List PartD, encPs xs = encPs ys → xs = ys
  | [], [], _ => rfl
  | [], y :: ys, h => by simp [encPs] at h
  | x :: xs, [], h => by simp [encPs] at h
  | x :: xs, y :: ys, h => by
    simp only [encPs, List.cons.injEq] at h
    rw [encP_inj _ _ h.1, encPs_inj _ _ h.2]
end
@[go_sem] theorem encPs_iff {xs ys : List PartD} : encPs xs = encPs ys ↔ xs = ys := ⟨encPs_inj xs ys, fun h => by rw [h]⟩
@[go_sem] theorem encP_iff {xs ys : PartD} : encP xs = encP ys ↔ xs = ys := ⟨encP_inj xs ys, fun h => by rw [h]⟩
theorem wtL_append : ∀ xs ys : List PartD, wtL (xs ++ ys) = wtL xs + wtL ys
  | [], ys => by simp [wtL]
  | x :: r, ys => by simp only [List.cons_append, wtL, wtL_append r ys]; omega
theorem len_le_wtL : ∀ xs : List PartD, xs.length ≤ wtL xs
  | [] => by simp
  | x :: r => by have := len_le_wtL r; simp only [wtL, List.length_cons]; omega
theorem wtL_nil : wtL [] = 0 := by simp [wtL]
theorem wtL_one (x : PartD) : wtL [x] = 1 + wtP x := by simp [wtL]
theorem wtP_mk (k : Int) (t n : List UInt8) (ps os : List PartD) : wtP (.mk k t n ps os) = t.length + n.length + wtL ps + wtL os := by simp [wtP]
theorem okP_mk (k : Int) (t n : List UInt8) (ps os : List PartD) : okP (.mk k t n ps os) ↔ t.length ≤ 9223372036854775807 ∧ n.length ≤ 9223372036854775807 ∧ ps.length ≤ 9223372036854775807 ∧ os.length ≤ 9223372036854775807 ∧ okL ps ∧ okL os := by simp [okP]
theorem okL_get : ∀ {xs : List PartD} {k : Nat} {x : PartD}, okL xs → xs[k]? = some x → okP x
  | [], k, x, _, hk => by simp at hk
  | y :: ys, 0, x, h, hk => by
    obtain rfl : y = x := by simpa using hk
    unfold okL at h
    exact h.1
  | y :: ys, k + 1, x, h, hk => by
    unfold okL at h
    exact okL_get h.2 (by simpa using hk)
theorem take_snoc' {α : Type} {xs : List α} {k : Nat} {x : α} (h : xs[k]? = some x) : xs.take (k + 1) = xs.take k ++ [x] := by
  obtain ⟨h1, rfl⟩ := List.getElem?_eq_some_iff.1 h
  exact List.take_succ_eq_append_getElem h1
theorem get_some {α : Type} {xs : List α} {k : Nat} (h : k < xs.length) : ∃ x, xs[k]? = some x := ⟨xs[k], List.getElem?_eq_getElem h⟩
theorem wtL_split {xs : List PartD} {k : Nat} {x : PartD} (h : xs[k]? = some x) : wtL (xs.take k) + (1 + wtP x) + wtL (xs.drop (k + 1)) = wtL xs := by
  have h1 := take_snoc' h
  have h2 := wtL_append (xs.take (k + 1)) (xs.drop (k + 1))
  rw [List.take_append_drop, h1, wtL_append, wtL_one] at h2
  omega
end Go.Proofs.Ytdedddmnacomfaa
