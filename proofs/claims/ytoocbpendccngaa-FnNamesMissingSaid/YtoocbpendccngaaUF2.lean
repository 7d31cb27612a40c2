/- Abstract memory: named blocks; what it is for a world to hold them; how they are kept. No program. -/
import Derived.Test.YtoocbpendccngaaUM2

namespace Go.Proofs.Ytoocbpendccngaa
set_option maxRecDepth 100000
set_option linter.unusedVariables false
set_option linter.unusedSimpArgs false
open Go.RowKit
/-- Memory of one's own, of whatever make: what it is for a world to hold it at a value, with which blocks. -/
structure OwnP where
  R : List PV → World → Value → (Nat → Prop) → Prop
  mono : ∀ {d : List PV} {w w' : World} {v : Value} {S : Nat → Prop}, R d w v S → (∀ b, S b → w'.heap[b]? = w.heap[b]?) → R d w' v S
  lt : ∀ {d : List PV} {w : World} {v : Value} {S : Nat → Prop} {b : Nat}, R d w v S → S b → b < w.heap.size
  det : ∀ {d : List PV} {w : World} {v : Value} {S S' : Nat → Prop}, R d w v S → R d w v S' → S = S'
inductive MB where
  | box (cs : List PV)
  | row (e : TypeId) (s : Nat) (es : List (List PV))
  | fro (es : List (List PV))
  | gen (p : OwnP) (d : List PV)
def MB.nmb (n : Nat) : MB → Bool
  | .box cs => nmbL n cs
  | _ => true
/-- The cells of a row. -/
def cellsOk (es : List (List PV)) (s : Nat) : Prop := (∀ e ∈ es, e.length = s) ∧ ∀ u ∈ es.flatten, u.isCell = true
/-- The block with this name holds mb; S: the blocks that are its own. -/
def MRep (c : Cx) (i : Nat) (S : Nat → Prop) : MB → Prop
  | .box cs => ∃ b t vs, c.ρ i = some (.pointer (some ⟨b, 0, none⟩)) ∧ Blk c.w b t vs ∧ RepL cs c vs.toList ∧ S = (· = b)
  | .row e s es => ∃ v vs, c.ρ i = some v ∧ c.w.ownsRow 0 e s v es.length vs ∧ RepL es.flatten c.data vs ∧ cellsOk es s ∧ S = fun b => v.ownBlock = some b
  | .fro es => ∃ v, c.ρ i = some v ∧ Rep (.seq es) c v ∧ S = fun _ => False
  | .gen p d => ∃ v, c.ρ i = some v ∧ p.R d c.w v S
theorem ownsRow_block {w w' : World} {e : TypeId} {s n : Nat} {v : Value} {xs : List Value} (h : w.ownsRow 0 e s v n xs)
    (hb : ∀ b, v.ownBlock = some b → w'.heap[b]? = w.heap[b]?) : w'.ownsRow 0 e s v n xs := by
  obtain ⟨h1, h2⟩ := h
  refine ⟨h1, ?_⟩
  rcases h2 with h2 | ⟨g, cap, cur, hv, hg, hh, r⟩
  · exact .inl h2
  · refine .inr ⟨g, cap, cur, hv, hg, ?_, r⟩
    rw [hb g (by subst hv; rfl)]; exact hh
theorem MRep.mono {c c' : Cx} {i : Nat} {S : Nat → Prop} : ∀ {mb : MB}, c.Le c' → (∀ b, S b → c'.w.heap[b]? = c.w.heap[b]?) → MRep c i S mb → MRep c' i S mb
  | .box cs, hl, hb, h => by
    obtain ⟨b, t, vs, h1, h2, h3, rfl⟩ := h
    exact ⟨b, t, vs, hl.ρ _ _ h1, (hb b rfl).trans h2, RepL.mono cs hl h3, rfl⟩
  | .row e s es, hl, hb, h => by
    obtain ⟨v, vs, h1, h2, h3, h4, rfl⟩ := h
    exact ⟨v, vs, hl.ρ _ _ h1, ownsRow_block h2 hb, RepL.mono _ hl.data h3, h4, rfl⟩
  | .fro es, hl, hb, h => by
    obtain ⟨v, h1, h2, rfl⟩ := h
    exact ⟨v, hl.ρ _ _ h1, Rep.mono _ hl h2, rfl⟩
  | .gen p _, hl, hb, h => by
    obtain ⟨v, h1, h2⟩ := h
    exact ⟨v, hl.ρ _ _ h1, p.mono h2 hb⟩
theorem MRep.cut {c : Cx} {i n : Nat} {S : Nat → Prop} (hi : i < n) : ∀ {mb : MB}, mb.nmb n = true → MRep c i S mb → MRep (c.cut n) i S mb
  | .box cs, hs, h => by
    obtain ⟨b, t, vs, h1, h2, h3, rfl⟩ := h
    exact ⟨b, t, vs, by simp only [Cx.cut, hi, if_true]; exact h1, h2, RepL.cut cs (by simpa [MB.nmb] using hs) h3, rfl⟩
  | .row e s es, hs, h => by
    obtain ⟨v, vs, h1, h2, h3, h4, rfl⟩ := h
    exact ⟨v, vs, by simp only [Cx.cut, hi, if_true]; exact h1, h2, h3, h4, rfl⟩
  | .fro es, hs, h => by
    obtain ⟨v, h1, h2, rfl⟩ := h
    exact ⟨v, by simp only [Cx.cut, hi, if_true]; exact h1, Rep.cut _ rfl h2, rfl⟩
  | .gen p _, hs, h => by
    obtain ⟨v, h1, h2⟩ := h
    exact ⟨v, by simp only [Cx.cut, hi, if_true]; exact h1, h2⟩
theorem MRep.ρ {c : Cx} {i : Nat} {S : Nat → Prop} : ∀ {mb : MB}, MRep c i S mb → ∃ v, c.ρ i = some v
  | .box _, ⟨b, _, _, h, _⟩ => ⟨_, h⟩
  | .row .., ⟨v, _, h, _⟩ => ⟨v, h⟩
  | .fro _, ⟨v, h, _⟩ => ⟨v, h⟩
  | .gen _ _, ⟨v, h, _⟩ => ⟨v, h⟩
theorem ownBlock_lt {w : World} {e : TypeId} {s n : Nat} {v : Value} {xs : List Value} {b : Nat} (h : w.ownsRow 0 e s v n xs) (hb : v.ownBlock = some b) : b < w.heap.size := (h.lt b hb).2
theorem MRep.lt {c : Cx} {i : Nat} {S : Nat → Prop} {b : Nat} (hb : S b) : ∀ {mb : MB}, MRep c i S mb → b < c.w.heap.size
  | .box _, ⟨b', t, vs, h1, h2, h3, e⟩ => by subst e; obtain rfl : b = b' := hb; exact h2.lt
  | .row .., ⟨v, vs, h1, h2, h3, h4, e⟩ => by subst e; exact ownBlock_lt h2 hb
  | .fro _, ⟨v, h1, h2, e⟩ => by subst e; exact hb.elim
  | .gen p _, ⟨v, h1, h2⟩ => p.lt h2 hb
abbrev Mem := Nat → Option MB
def upd {α : Type} (f : Nat → α) (i : Nat) (v : α) : Nat → α := fun j => if j = i then v else f j
theorem upd_same {α : Type} (f : Nat → α) (i : Nat) (v : α) : upd f i v i = v := by simp [upd]
theorem upd_other {α : Type} (f : Nat → α) {i j : Nat} (v : α) (h : j ≠ i) : upd f i v j = f j := by simp [upd, h]
/-- Package-level variables of the library that are read: each holds a number, whatever. -/
def globs : List Nat := [0]
structure FzOk (c : Cx) : Prop where
  lt : ∀ b, c.fz b → b < c.w.heap.size
  glob : ∀ g ∈ globs, c.fz g ∧ ∃ m : Int, c.w.cell? ⟨g, 0, none⟩ = some (.int .i64 m)
theorem FzOk.mono {c c' : Cx} (h : FzOk c) (hle : c.Le c') (hlt : ∀ b, c'.fz b → b < c'.w.heap.size) : FzOk c' :=
  ⟨hlt, fun g hg => ⟨hle.fz g (h.glob g hg).1, by rw [hle.cell g (h.glob g hg).1]; exact (h.glob g hg).2⟩⟩
/-- The world holds the named blocks, each its own, none of them among those that never change. -/
def InvM (c : Cx) (mem : Mem) : Prop :=
  FzOk c ∧
  ∃ S : Nat → Nat → Prop, (∀ i mb, mem i = some mb → MRep c i (S i) mb) ∧ (∀ i j b, mem i ≠ none → mem j ≠ none → i ≠ j → S i b → ¬ S j b) ∧ ∀ i b, mem i ≠ none → S i b → ¬ c.fz b
/-- What the caller keeps: these blocks are as they were; the streams too; no block has gone; and names below n keep their values, frozen blocks stay. -/
structure Fr (c c' : Cx) (mine : Nat → Prop) (n : Nat) : Prop where
  os : c'.w.os = c.w.os
  tape : c'.w.tape = c.w.tape
  output : c'.w.output = c.w.output
  size : c.w.heap.size ≤ c'.w.heap.size
  block : ∀ b, b < c.w.heap.size → ¬ mine b → c'.w.heap[b]? = c.w.heap[b]?
  fz : ∀ b, c.fz b → c'.fz b
  fzNew : ∀ b, c'.fz b → c.fz b ∨ mine b ∨ c.w.heap.size ≤ b
  ρ : ∀ i, i < n → c'.ρ i = c.ρ i
theorem cell_of_block {w w' : World} {b : Nat} (h : w'.heap[b]? = w.heap[b]?) (o : Nat) : w'.cell? ⟨b, o, none⟩ = w.cell? ⟨b, o, none⟩ := by
  simp [World.cell?, h]
/-- The blocks of the live names. -/
def Mine (c : Cx) (mem : Mem) (b : Nat) : Prop := ∃ i S mb, mem i = some mb ∧ MRep c i S mb ∧ S b
theorem MRep.det {c : Cx} {i : Nat} {S S' : Nat → Prop} : ∀ {mb : MB}, MRep c i S mb → MRep c i S' mb → S = S'
  | .box _, ⟨b, t, vs, h1, h2, h3, e⟩, ⟨b', t', vs', h1', h2', h3', e'⟩ => by
    rw [h1] at h1'; injection h1' with h1'; injection h1' with h1'; injection h1' with h1'; injection h1' with h1'
    subst e e' h1'; rfl
  | .row .., ⟨v, vs, h1, h2, h3, h4, e⟩, ⟨v', vs', h1', h2', h3', h4', e'⟩ => by
    rw [h1] at h1'; injection h1' with h1'; subst e e' h1'; rfl
  | .fro _, ⟨v, h1, h2, e⟩, ⟨v', h1', h2', e'⟩ => by subst e e'; rfl
  | .gen p _, ⟨v, h1, h2⟩, ⟨v', h1', h2'⟩ => by
    rw [h1] at h1'; injection h1' with h1'; subst h1'; exact p.det h2 h2'
/-- A frame around the live names' blocks keeps what never changes. -/
theorem Fr.le {c c' : Cx} {mine : Nat → Prop} {n : Nat} (h : Fr c c' mine n) (hf : ∀ b, c.fz b → b < c.w.heap.size ∧ ¬ mine b) (hρ : ∀ i v, c.ρ i = some v → i < n) : c.Le c' :=
  ⟨h.fz, fun b hb o => cell_of_block (h.block b (hf b hb).1 (hf b hb).2) o, fun i v hi => by rw [h.ρ i (hρ i v hi)]; exact hi⟩
theorem Fr.refl (c : Cx) (mine : Nat → Prop) (n : Nat) : Fr c c mine n :=
  ⟨rfl, rfl, rfl, Nat.le_refl _, fun _ _ _ => rfl, fun _ h => h, fun _ h => .inl h, fun _ _ => rfl⟩
theorem heap_alloc_lt (w : World) (o : Obj) {b : Nat} (h : b < w.heap.size) : (w.alloc o).heap[b]? = w.heap[b]? := Below.heap_alloc w o b h
/-- One named block is new, or changed, or takes the place of an old one. -/
theorem InvM.put {c c' : Cx} {mem mem' : Mem} {j : Nat} {mb' : MB} {S' : Nat → Prop} (h : InvM c mem) (old : Option Nat)
    (hfz : c'.fz = c.fz) (hρ : ∀ k, k ≠ j → c'.ρ k = c.ρ k) (hρj : c.ρ j = none ∨ c'.ρ j = c.ρ j)
    (hmj : mem' j = some mb') (hmk : ∀ k, k ≠ j → mem' k = mem k ∨ mem' k = none) (hold : ∀ i, old = some i → mem i ≠ none ∧ (i = j ∨ mem' i = none))
    (hj : old = some j ∨ mem j = none) (hsz : c.w.heap.size ≤ c'.w.heap.size)
    (hw : ∀ b, b < c.w.heap.size → (∀ i mb S, old = some i → mem i = some mb → MRep c i S mb → ¬ S b) → c'.w.heap[b]? = c.w.heap[b]?)
    (hr : c.Le c' → MRep c' j S' mb')
    (hS : ∀ b, S' b → (∃ i mb S, old = some i ∧ mem i = some mb ∧ MRep c i S mb ∧ S b) ∨ c.w.heap.size ≤ b) :
    InvM c' mem' ∧ c.Le c' ∧ ∀ b, Mine c' mem' b → Mine c mem b ∨ c.w.heap.size ≤ b := by
  obtain ⟨hf, S, h1, h2, h3⟩ := h
  have hfree : ∀ b, (∀ i, old = some i → ¬ S i b) → ∀ i mb S, old = some i → mem i = some mb → MRep c i S mb → ¬ S b := by
    intro b hb i mb S' hi hm hr' hs
    have e := MRep.det hr' (h1 i mb hm)
    subst e
    exact hb i hi hs
  have hle : c.Le c' := by
    refine ⟨fun b hb => by rw [hfz]; exact hb, fun b hb o => cell_of_block (hw b (hf.lt b hb) (hfree b fun i hi hs => h3 i b (hold i hi).1 hs hb)) o, fun k v hk => ?_⟩
    by_cases e : k = j
    · subst e
      rcases hρj with h | h
      · rw [h] at hk; cases hk
      · rw [h]; exact hk
    · rw [hρ k e]; exact hk
  have hS' : ∀ b, S' b → (∃ i, old = some i ∧ mem i ≠ none ∧ S i b) ∨ c.w.heap.size ≤ b := by
    intro b hb
    rcases hS b hb with ⟨i, mb, T, hi, hm, ht, hb⟩ | h
    · have e := MRep.det ht (h1 i mb hm)
      subst e
      exact .inl ⟨i, hi, by simp [hm], hb⟩
    · exact .inr h
  have hcase : ∀ k, mem' k ≠ none → k ≠ j → mem k ≠ none ∧ mem' k = mem k ∧ ∀ i, old = some i → k ≠ i := by
    intro k hk hkj
    rcases hmk k hkj with h | h
    · refine ⟨by rw [← h]; exact hk, h, fun i hi e => ?_⟩
      subst e
      rcases (hold k hi).2 with e | e
      · exact hkj e
      · exact hk e
    · exact absurd h hk
  have hkeep : ∀ k mb, mem' k = some mb → k ≠ j → MRep c' k (S k) mb := by
    intro k mb hk hkj
    obtain ⟨e1, e2, e3⟩ := hcase k (by simp [hk]) hkj
    rw [e2] at hk
    exact MRep.mono hle (fun b hb => hw b ((h1 k mb hk).lt hb) (hfree b fun i hi hs => h2 k i b e1 (hold i hi).1 (e3 i hi) hb hs)) (h1 k mb hk)
  have hinv : InvM c' mem' := by
    refine ⟨hf.mono hle fun b hb => Nat.lt_of_lt_of_le (hf.lt b (by rw [hfz] at hb; exact hb)) hsz, fun k => if k = j then S' else S k, ?_, ?_, ?_⟩
    · intro k mb hk
      by_cases e : k = j
      · subst e
        rw [hmj] at hk
        obtain rfl : mb' = mb := by simpa using hk
        simp only [if_true]
        exact hr hle
      · simp only [if_neg e]
        exact hkeep k mb hk e
    · intro k l b hk hl hne hsk hsl
      by_cases ek : k = j
      · have el : l ≠ j := fun e => hne (ek.trans e.symm)
        obtain ⟨f1, f2, f3⟩ := hcase l hl el
        simp only [if_pos ek] at hsk
        simp only [if_neg el] at hsl
        rcases hS' b hsk with ⟨i, hi, hm, hb⟩ | hb
        · exact h2 l i b f1 hm (f3 i hi) hsl hb
        · obtain ⟨mb, hmb⟩ := Option.ne_none_iff_exists'.1 f1
          have := (h1 l mb hmb).lt hsl
          omega
      · obtain ⟨f1, f2, f3⟩ := hcase k hk ek
        simp only [if_neg ek] at hsk
        by_cases el : l = j
        · simp only [if_pos el] at hsl
          rcases hS' b hsl with ⟨i, hi, hm, hb⟩ | hb
          · exact h2 k i b f1 hm (f3 i hi) hsk hb
          · obtain ⟨mb, hmb⟩ := Option.ne_none_iff_exists'.1 f1
            have := (h1 k mb hmb).lt hsk
            omega
        · obtain ⟨g1, g2, g3⟩ := hcase l hl el
          simp only [if_neg el] at hsl
          exact h2 k l b f1 g1 hne hsk hsl
    · intro k b hk hs hb
      rw [hfz] at hb
      by_cases ek : k = j
      · simp only [if_pos ek] at hs
        rcases hS' b hs with ⟨i, hi, hm, hs⟩ | hs
        · exact h3 i b hm hs hb
        · have := hf.lt b hb
          omega
      · obtain ⟨f1, f2, f3⟩ := hcase k hk ek
        simp only [if_neg ek] at hs
        exact h3 k b f1 hs hb
  refine ⟨hinv, hle, ?_⟩
  rintro b ⟨k, T, mb, hk, hT, hb⟩
  by_cases ek : k = j
  · subst ek
    rw [hmj] at hk
    obtain rfl : mb' = mb := by simpa using hk
    have e := MRep.det hT (hr hle)
    subst e
    rcases hS' b hb with ⟨i, hi, hm, hs⟩ | hs
    · obtain ⟨m, hm⟩ := Option.ne_none_iff_exists'.1 hm
      exact .inl ⟨i, _, m, hm, h1 i m hm, hs⟩
    · exact .inr hs
  · have e := MRep.det hT (hkeep k mb hk ek)
    subst e
    obtain ⟨f1, f2, f3⟩ := hcase k (by simp [hk]) ek
    rw [f2] at hk
    exact .inl ⟨k, _, mb, hk, h1 k mb hk, hb⟩
/-- A step that changes no live block: new blocks, draws, and more that never changes (none of it live). -/
theorem InvM.later {c c' : Cx} {mem : Mem} (h : InvM c mem) (hle : c.Le c') (hsz : c.w.heap.size ≤ c'.w.heap.size) (hb : ∀ b, b < c.w.heap.size → c'.w.heap[b]? = c.w.heap[b]?)
    (hf : ∀ b, c'.fz b → c.fz b ∨ c.w.heap.size ≤ b ∧ b < c'.w.heap.size) : InvM c' mem ∧ ∀ b, Mine c' mem b → Mine c mem b := by
  obtain ⟨hf0, S, h1, h2, h3⟩ := h
  refine ⟨?_, ?_⟩
  rotate_left
  · rintro b ⟨k, T, mb, hk, hT, hb'⟩
    have e := MRep.det hT (MRep.mono hle (fun b hs => hb b ((h1 k mb hk).lt hs)) (h1 k mb hk))
    subst e
    exact ⟨k, _, mb, hk, h1 k mb hk, hb'⟩
  refine ⟨hf0.mono hle fun b hb' => ?_, S, fun i mb hm => MRep.mono hle (fun b hs => hb b ((h1 i mb hm).lt hs)) (h1 i mb hm), h2, fun i b hm hs hfb => ?_⟩
  · rcases hf b hb' with h | h
    · exact Nat.lt_of_lt_of_le (hf0.lt b h) hsz
    · exact h.2
  · rcases hf b hfb with h | h
    · exact h3 i b hm hs h
    · obtain ⟨mb, hmb⟩ := Option.ne_none_iff_exists'.1 hm
      have := (h1 i mb hmb).lt hs
      omega
/-- A row of its own becomes one that never changes. -/
theorem InvM.freeze {c : Cx} {mem : Mem} {i : Nat} {e : TypeId} {s : Nat} {es : List (List PV)} (h : InvM c mem) (hm : mem i = some (.row e s es)) :
    ∃ v, c.ρ i = some v ∧ InvM ⟨c.w, fun b => c.fz b ∨ v.ownBlock = some b, c.ρ⟩ (upd mem i (some (.fro es))) ∧ c.Le ⟨c.w, fun b => c.fz b ∨ v.ownBlock = some b, c.ρ⟩ ∧
      Rep (.seq es) ⟨c.w, fun b => c.fz b ∨ v.ownBlock = some b, c.ρ⟩ v ∧ (∀ b, v.ownBlock = some b → Mine c mem b) ∧
      ∀ b, Mine ⟨c.w, fun b => c.fz b ∨ v.ownBlock = some b, c.ρ⟩ (upd mem i (some (.fro es))) b → Mine c mem b := by
  obtain ⟨hf, S, h1, h2, h3⟩ := h
  obtain ⟨v, vs, hv, ho, hr, hc, hS⟩ := h1 i _ hm
  have hmi : mem i ≠ none := by simp [hm]
  have hle : c.Le ⟨c.w, fun b => c.fz b ∨ v.ownBlock = some b, c.ρ⟩ := ⟨fun _ h => .inl h, fun _ _ _ => rfl, fun _ _ h => h⟩
  have hseq : Rep (.seq es) ⟨c.w, fun b => c.fz b ∨ v.ownBlock = some b, c.ρ⟩ v := by
    unfold Rep
    obtain ⟨hl, ho⟩ := ho
    rcases ho with ⟨rfl, h0⟩ | ⟨g, cap, cur, rfl, _, hh, hn, hcap, hcs, htk⟩
    · have : es = [] := List.eq_nil_of_length_eq_zero h0
      subst this
      exact ⟨none, 0, rfl, Nat.le_refl _, by simp [maxLen], .inl rfl⟩
    · refine ⟨some ⟨g, 0, none⟩, cap, rfl, hn, hcap, ?_⟩
      by_cases he : es = []
      · exact .inl he
      · refine .inr ⟨g, 0, s, rfl, .inr rfl, ?_⟩
        rw [RepE.flat]
        refine ⟨hc.1, RepA.of_vals (c := Cx.data ⟨c.w, fun b => c.fz b ∨ _, c.ρ⟩) (RepL.mono _ hle.data hr) (fun j u hj => ?_) hc.2⟩
        show c.w.cell? ⟨g, 0 + j, none⟩ = some u
        rw [Nat.zero_add, cell_of_row c.w g j cur e (0, 0) hh]
        rw [← htk, List.getElem?_take] at hj
        split at hj
        · simpa using hj
        · cases hj
  refine ⟨v, hv, ⟨⟨?_, fun j => if j = i then (fun _ => False) else S j, ?_, ?_, ?_⟩, hle, hseq, fun b hb => ⟨i, S i, _, hm, h1 i _ hm, by rw [hS]; exact hb⟩, ?_⟩⟩
  rotate_left 4
  · rintro b ⟨k, T, mb, hk, hT, hb'⟩
    by_cases ek : k = i
    · subst ek
      rw [upd_same] at hk
      obtain rfl : MB.fro es = mb := by simpa using hk
      obtain ⟨_, _, _, e⟩ := hT
      subst e
      exact hb'.elim
    · rw [upd_other _ _ ek] at hk
      have e := MRep.det hT (MRep.mono hle (fun _ _ => rfl) (h1 k mb hk))
      subst e
      exact ⟨k, _, mb, hk, h1 k mb hk, hb'⟩
  · refine hf.mono hle ?_
    rintro b (hb | hb)
    · exact hf.lt b hb
    · exact ownBlock_lt ho hb
  · intro j mb hj
    by_cases ej : j = i
    · subst ej
      rw [upd_same] at hj
      obtain rfl : MB.fro es = mb := by simpa using hj
      simp only [if_true]
      exact ⟨v, hv, hseq, rfl⟩
    · rw [upd_other _ _ ej] at hj
      simp only [if_neg ej]
      exact MRep.mono hle (fun _ _ => rfl) (h1 j mb hj)
  · intro j k b hj hk hne hsj hsk
    by_cases ej : j = i
    · simp only [if_pos ej] at hsj
    · rw [upd_other _ _ ej] at hj
      simp only [if_neg ej] at hsj
      by_cases ek : k = i
      · simp only [if_pos ek] at hsk
      · rw [upd_other _ _ ek] at hk
        simp only [if_neg ek] at hsk
        exact h2 j k b hj hk hne hsj hsk
  · intro j b hj hs hfb
    by_cases ej : j = i
    · simp only [if_pos ej] at hs
    · rw [upd_other _ _ ej] at hj
      simp only [if_neg ej] at hs
      rcases hfb with hfb | hfb
      · exact h3 j b hj hs hfb
      · exact h2 j i b hj hmi ej hs (by rw [hS]; exact hfb)
end Go.Proofs.Ytoocbpendccngaa
