/- Trees of rows: memory of one's own in many rows, each told by its value; trees are lent, made, and written over. No program. -/
import Derived.Test.YtdedddmnacomfaaZFG

namespace Go.Proofs.Ytdedddmnacomfaa
set_option maxRecDepth 100000
set_option linter.unusedVariables false
set_option linter.unusedSimpArgs false
open Go.RowKit
/-- A cell without names: plain, or a value told itself. -/
def plainR : PV → Bool
  | .raw _ => true
  | u => plainU u
theorem rep_plainR {u : PV} {c c' : Cx} {v : Value} (h : plainR u = true) (hr : Rep u c v) : Rep u c' v := by
  cases u with
  | raw x => unfold Rep at *; exact hr
  | _ => exact rep_plainU h hr
theorem repL_plainR {c c' : Cx} : ∀ {us : List PV} {vs : List Value}, us.all plainR = true → RepL us c vs → RepL us c' vs
  | [], vs, _, h => by rw [RepL.nil_iff] at *; exact h
  | u :: us, vs, h, hr => by
    simp only [List.all_cons, Bool.and_eq_true] at h
    rw [RepL.cons_iff] at *
    obtain ⟨x, xs, rfl, h1, h2⟩ := hr
    exact ⟨x, xs, rfl, rep_plainR h.1 h1, repL_plainR h.2 h2⟩
theorem all_flatR {es : List (List PV)} (h : es.all (·.all plainR) = true) : es.flatten.all plainR = true := by
  rw [List.all_eq_true] at h ⊢
  intro u hu
  obtain ⟨l, hl, hul⟩ := List.mem_flatten.1 hu
  exact List.all_eq_true.1 (h l hl) u hul
/-- A row, by its value. -/
structure Node where
  v : Value
  e : TypeId
  s : Nat
  es : List (List PV)
def encNd (nd : Node) : PV := .tup [.raw nd.v, .int .i64 (nd.e : Nat), .int .i64 nd.s, .seq nd.es]
def encL (N : List Node) : PV := .tup (N.map encNd)
theorem encNd_inj {a b : Node} (h : encNd a = encNd b) : a = b := by
  cases a with | mk v e s es =>
  cases b with | mk v' e' s' es' =>
  simp [encNd] at h
  obtain ⟨rfl, h2, h3, rfl⟩ := h
  obtain rfl : e = e' := Int.ofNat.inj h2
  obtain rfl : s = s' := Int.ofNat.inj h3
  rfl
theorem map_inj' {α β : Type} {f : α → β} (hf : ∀ a b, f a = f b → a = b) : ∀ {l m : List α}, l.map f = m.map f → l = m
  | [], [], _ => rfl
  | [], _ :: _, h => by cases h
  | _ :: _, [], h => by cases h
  | a :: l, b :: m, h => by
    rw [List.map_cons, List.map_cons, List.cons.injEq] at h
    rw [hf a b h.1, map_inj' hf h.2]
theorem encL_iff {a b : List Node} : encL a = encL b ↔ a = b := by
  constructor
  · intro h
    unfold encL at h
    rw [PV.tup.injEq] at h
    exact map_inj' (fun a b => encNd_inj) h
  · rintro rfl; rfl
def NodeOk (w : World) (nd : Node) : Prop := ∃ vs, w.ownsRow 0 nd.e nd.s nd.v nd.es.length vs ∧ RepL nd.es.flatten ⟨w, fun _ => False, fun _ => none⟩ vs ∧ cellsOk nd.es nd.s ∧ nd.es.all (·.all plainR) = true
theorem NodeOk.mono {w w' : World} {nd : Node} (h : NodeOk w nd) (hb : ∀ b, nd.v.ownBlock = some b → w'.heap[b]? = w.heap[b]?) : NodeOk w' nd := by
  obtain ⟨vs, h1, h2, h3, h4⟩ := h
  exact ⟨vs, ownsRow_block h1 hb, repL_plainR (all_flatR h4) h2, h3, h4⟩
theorem NodeOk.one {w : World} {nd : Node} (h : NodeOk w nd) : nd.v.oneCell' = true := by
  obtain ⟨vs, h1, h2, h3, h4⟩ := h
  rcases h1.2 with ⟨e, _⟩ | ⟨g, cap, cur, e, _⟩ <;> rw [e] <;> rfl
def apart (a b : Node) : Prop := ∀ k, a.v.ownBlock = some k → b.v.ownBlock ≠ some k
theorem apart_symm {a b : Node} (h : apart a b) : apart b a := fun k hb ha => h k ha hb
def HeapR (N : List Node) (w : World) (S : Nat → Prop) : Prop := (∀ nd ∈ N, NodeOk w nd) ∧ N.Pairwise apart ∧ S = fun k => ∃ nd ∈ N, nd.v.ownBlock = some k
theorem HeapR.mono {N : List Node} {w w' : World} {S : Nat → Prop} (h : HeapR N w S) (hb : ∀ b, S b → w'.heap[b]? = w.heap[b]?) : HeapR N w' S := by
  obtain ⟨h1, h2, rfl⟩ := h
  exact ⟨fun nd hnd => (h1 nd hnd).mono fun b hb' => hb b ⟨nd, hnd, hb'⟩, h2, rfl⟩
theorem HeapR.lt {N : List Node} {w : World} {S : Nat → Prop} (h : HeapR N w S) {b : Nat} (hb : S b) : b < w.heap.size := by
  obtain ⟨h1, h2, rfl⟩ := h
  obtain ⟨nd, hnd, hb⟩ := hb
  obtain ⟨vs, h3, _⟩ := h1 nd hnd
  exact ownBlock_lt h3 hb
/-- Rows of one's own, unnamed. -/
def heapP : OwnP where
  R d w v S := ∃ N, d = [encL N] ∧ HeapR N w S
  mono := by
    rintro d w w' v S ⟨N, h1, h2⟩ hb
    exact ⟨N, h1, h2.mono hb⟩
  lt := by
    rintro d w v S b ⟨N, h1, h2⟩ hb
    exact h2.lt hb
  det := by
    rintro d w v S S' ⟨N, h1, h2⟩ ⟨N', h1', h2'⟩
    rw [h1, List.cons.injEq, encL_iff] at h1'
    obtain ⟨rfl, _⟩ := h1'
    rw [h2.2.2, h2'.2.2]
/-- A tree of such rows: as data es, its value, its rows. -/
def treeP (Q : List (List PV) → Value → List Node → Prop) : OwnP where
  R d w v S := ∃ es N, d = [.seq es, encL N] ∧ Q es v N ∧ v.oneCell' = true ∧ HeapR N w S ∧ Rep (.seq es) ⟨w, S, fun _ => none⟩ v
  mono := by
    rintro d w w' v S ⟨es, N, h1, h2, h3, h4, h5⟩ hb
    exact ⟨es, N, h1, h2, h3, h4.mono hb, Rep.mono _ (c := ⟨w, S, fun _ => none⟩) (c' := ⟨w', S, fun _ => none⟩) ⟨fun _ h => h, fun b hb' o => cell_of_block (hb b hb') o, fun _ _ h => by cases h⟩ h5⟩
  lt := by
    rintro d w v S b ⟨es, N, h1, h2, h3, h4, h5⟩ hb
    exact h4.lt hb
  det := by
    rintro d w v S S' ⟨es, N, h1, h2, h3, h4, h5⟩ ⟨es', N', h1', h2', h3', h4', h5'⟩
    rw [h1, List.cons.injEq, List.cons.injEq, encL_iff] at h1'
    obtain ⟨_, rfl, _⟩ := h1'
    rw [h4.2.2, h4'.2.2]
/-- A row joins those of name 0. -/
theorem Step.joinH {c : Cx} {mem : Mem} {n j : Nat} {e : TypeId} {s : Nat} {es : List (List PV)} {N : List Node} (hI : InvM c mem) (hn : Names c n) (h0 : mem 0 = some (.gen heapP [encL N])) (hj : mem j = some (.row e s es)) (hp : es.all (·.all plainR) = true) :
    ∃ v, c.ρ j = some v ∧ v.oneCell' = true ∧ ∀ N', N'.Perm (⟨v, e, s, es⟩ :: N) → Step c mem n ⟨c.w, c.fz, c.ρ⟩ (upd (upd mem j none) 0 (some (.gen heapP [encL N']))) n := by
  obtain ⟨hf, S, h1, h2, h3⟩ := id hI
  have hm0 : mem 0 ≠ none := by simp [h0]
  have hmj : mem j ≠ none := by simp [hj]
  have h0j : 0 ≠ j := fun h => by rw [← h, h0] at hj; cases hj
  obtain ⟨v0, a1, N0, a2, a3⟩ := h1 0 _ h0
  rw [List.cons.injEq, encL_iff] at a2
  obtain ⟨rfl, _⟩ := a2
  obtain ⟨v, vs, b1, b2, b3, b4, b5⟩ := h1 j _ hj
  refine ⟨v, b1, hn.2 j v b1, fun N' hN' => ?_⟩
  let S0 : Nat → Prop := fun k => S 0 k ∨ v.ownBlock = some k
  have hheap : HeapR N' c.w S0 := by
    refine ⟨fun nd hnd => ?_, (List.Perm.pairwise_iff (fun h => apart_symm h) hN').2 (List.pairwise_cons.2 ⟨fun b hb k hk hk' => ?_, a3.2.1⟩), ?_⟩
    · rcases List.mem_cons.1 (hN'.mem_iff.1 hnd) with rfl | h
      · exact ⟨vs, b2, repL_plainR (all_flatR hp) b3, b4, hp⟩
      · exact a3.1 nd h
    · exact h2 0 j k hm0 hmj h0j (by rw [a3.2.2]; exact ⟨b, hb, hk'⟩) (by rw [b5]; exact hk)
    · funext k
      apply propext
      show (S 0 k ∨ v.ownBlock = some k) ↔ _
      rw [a3.2.2]
      constructor
      · rintro (⟨nd, h, h'⟩ | h)
        · exact ⟨nd, hN'.mem_iff.2 (List.mem_cons_of_mem _ h), h'⟩
        · exact ⟨⟨v, e, s, es⟩, hN'.mem_iff.2 List.mem_cons_self, h⟩
      · rintro ⟨nd, h, h'⟩
        rcases List.mem_cons.1 (hN'.mem_iff.1 h) with rfl | h
        · exact .inr h'
        · exact .inl ⟨nd, h, h'⟩
  let S' : Nat → Nat → Prop := fun l => if l = 0 then S0 else S l
  have hrep : ∀ l mb, upd (upd mem j none) 0 (some (.gen heapP [encL N'])) l = some mb → MRep ⟨c.w, c.fz, c.ρ⟩ l (S' l) mb := by
    intro l mb hl
    simp only [upd] at hl
    by_cases e1 : l = 0
    · rw [if_pos e1] at hl; cases hl
      simp only [S', if_pos e1]
      exact ⟨v0, by show c.ρ l = _; rw [e1]; exact a1, N', rfl, hheap⟩
    · rw [if_neg e1] at hl
      by_cases e2 : l = j
      · rw [if_pos e2] at hl; cases hl
      · rw [if_neg e2] at hl
        simp only [S', if_neg e1]
        exact h1 l mb hl
  have hkeep : ∀ l, l ≠ 0 → upd (upd mem j none) 0 (some (.gen heapP [encL N'])) l ≠ none → l ≠ j ∧ mem l ≠ none := by
    intro l e1 hl
    rw [upd_other _ _ e1] at hl
    by_cases e2 : l = j
    · rw [e2, upd_same] at hl; exact absurd rfl hl
    · rw [upd_other _ _ e2] at hl; exact ⟨e2, hl⟩
  have hcase : ∀ l k, l ≠ 0 → l ≠ j → mem l ≠ none → S l k → ¬ S0 k := by
    rintro l k e1 e2 hl hk (h | h)
    · exact h2 l 0 k hl hm0 e1 hk h
    · exact h2 l j k hl hmj e2 hk (by rw [b5]; exact h)
  refine Step.re hn ⟨⟨hf.lt, hf.glob⟩, S', hrep, ?_, ?_⟩ (fun _ _ => rfl) hn (Nat.le_refl _) ?_
  · intro l l' k hl hl' hne' hk hk'
    simp only [S'] at hk hk'
    by_cases e1 : l = 0
    · rw [if_pos e1] at hk
      have e2 : l' ≠ 0 := fun h => hne' (e1.trans h.symm)
      rw [if_neg e2] at hk'
      obtain ⟨f1, f2⟩ := hkeep l' e2 hl'
      exact hcase l' k e2 f1 f2 hk' hk
    · rw [if_neg e1] at hk
      obtain ⟨f1, f2⟩ := hkeep l e1 hl
      by_cases e2 : l' = 0
      · rw [if_pos e2] at hk'; exact hcase l k e1 f1 f2 hk hk'
      · rw [if_neg e2] at hk'
        obtain ⟨f3, f4⟩ := hkeep l' e2 hl'
        exact h2 l l' k f2 f4 hne' hk hk'
  · intro l k hl hk
    simp only [S'] at hk
    by_cases e1 : l = 0
    · rw [if_pos e1] at hk
      rcases hk with h | h
      · exact h3 0 k hm0 h
      · exact h3 j k hmj (by rw [b5]; exact h)
    · rw [if_neg e1] at hk
      exact h3 l k (hkeep l e1 hl).2 hk
  · rintro k ⟨l, U, mb, hl, hR, hU⟩
    have := MRep.det hR (hrep l mb hl)
    subst this
    simp only [S'] at hU
    by_cases e1 : l = 0
    · rw [if_pos e1] at hU
      rcases hU with h | h
      · exact ⟨0, S 0, _, h0, h1 0 _ h0, h⟩
      · exact ⟨j, S j, _, hj, h1 j _ hj, by rw [b5]; exact h⟩
    · rw [if_neg e1] at hU
      rw [upd_other _ _ e1] at hl
      by_cases e2 : l = j
      · rw [e2, upd_same] at hl; cases hl
      · rw [upd_other _ _ e2] at hl
        exact ⟨l, S l, mb, hl, h1 l mb hl, hU⟩
/-- One of the rows of name 0 gets a name. -/
theorem Step.splitH {c : Cx} {mem : Mem} {n : Nat} {nd : Node} {N : List Node} (hI : InvM c mem) (hn : Names c n) (h0 : mem 0 = some (.gen heapP [encL (nd :: N)])) :
    Step c mem n ⟨c.w, c.fz, upd c.ρ n (some nd.v)⟩ (upd (upd mem 0 (some (.gen heapP [encL N]))) n (some (.row nd.e nd.s nd.es))) (n + 1) := by
  have h0n := name_lt hI hn h0
  obtain ⟨hf, S, h1, h2, h3⟩ := id hI
  have hm0 : mem 0 ≠ none := by simp [h0]
  obtain ⟨v0, a1, N0, a2, a3⟩ := h1 0 _ h0
  rw [List.cons.injEq, encL_iff] at a2
  obtain ⟨rfl, _⟩ := a2
  obtain ⟨vs, b2, b3, b4, b5⟩ := a3.1 nd List.mem_cons_self
  have hone := (a3.1 nd List.mem_cons_self).one
  have hpw := List.pairwise_cons.1 a3.2.1
  let ρ' := upd c.ρ n (some nd.v)
  have hρ : ∀ j, j < n → ρ' j = c.ρ j := fun j hj => upd_other _ _ (by omega)
  have hnn : ρ' n = some nd.v := upd_same _ _ _
  have hle : c.Le ⟨c.w, c.fz, ρ'⟩ := ⟨fun _ h => h, fun _ _ _ => rfl, fun j v hj => by
    have hlt : j < n := Nat.lt_of_not_le fun hh => by rw [hn.1 j hh] at hj; cases hj
    show ρ' j = some v
    rw [hρ j hlt]; exact hj⟩
  let S0 : Nat → Prop := fun k => ∃ x ∈ N, x.v.ownBlock = some k
  let S' : Nat → Nat → Prop := fun j => if j = n then (fun k => nd.v.ownBlock = some k) else if j = 0 then S0 else S j
  have hS0 : ∀ k, S 0 k ↔ nd.v.ownBlock = some k ∨ S0 k := fun k => by
    rw [a3.2.2]
    constructor
    · rintro ⟨x, hx, h⟩
      rcases List.mem_cons.1 hx with rfl | hx
      · exact .inl h
      · exact .inr ⟨x, hx, h⟩
    · rintro (h | ⟨x, hx, h⟩)
      · exact ⟨nd, List.mem_cons_self, h⟩
      · exact ⟨x, List.mem_cons_of_mem _ hx, h⟩
  have hap : ∀ k, nd.v.ownBlock = some k → ¬ S0 k := by
    rintro k hk ⟨x, hx, h⟩
    exact hpw.1 x hx k hk h
  have hrep : ∀ j mb, upd (upd mem 0 (some (.gen heapP [encL N]))) n (some (.row nd.e nd.s nd.es)) j = some mb → MRep ⟨c.w, c.fz, ρ'⟩ j (S' j) mb := by
    intro j mb hj
    simp only [upd] at hj
    by_cases ej : j = n
    · rw [if_pos ej] at hj; cases hj
      simp only [S', if_pos ej]
      exact ⟨nd.v, vs, by rw [ej]; exact hnn, b2, repL_plainR (all_flatR b5) b3, b4, rfl⟩
    · rw [if_neg ej] at hj
      simp only [S', if_neg ej]
      by_cases ei : j = 0
      · rw [if_pos ei] at hj; cases hj
        rw [if_pos ei]
        exact ⟨v0, by show ρ' j = _; rw [ei, hρ 0 h0n, a1], N, rfl, fun x hx => a3.1 x (List.mem_cons_of_mem _ hx), hpw.2, rfl⟩
      · rw [if_neg ei] at hj ⊢
        exact MRep.mono hle (fun _ _ => rfl) (h1 j mb hj)
  have hkeep : ∀ j, j ≠ n → j ≠ 0 → upd (upd mem 0 (some (.gen heapP [encL N]))) n (some (.row nd.e nd.s nd.es)) j ≠ none → mem j ≠ none := by
    intro j e1 e2 h
    rwa [upd_other _ _ e1, upd_other _ _ e2] at h
  refine Step.re hn ⟨hf.mono hle hf.lt, S', hrep, ?_, ?_⟩ hρ ⟨fun j hj => by show upd _ _ _ _ = _; rw [upd_other _ _ (by omega)]; exact hn.1 j (by omega), fun j v hj => ?_⟩ (by omega) ?_
  · intro j l k hj hl hne hjk hlk
    simp only [S'] at hjk hlk
    by_cases e1 : j = n
    · rw [if_pos e1] at hjk
      by_cases e2 : l = n
      · exact hne (e1.trans e2.symm)
      rw [if_neg e2] at hlk
      by_cases e3 : l = 0
      · rw [if_pos e3] at hlk; exact hap k hjk hlk
      · rw [if_neg e3] at hlk
        exact h2 l 0 k (hkeep l e2 e3 hl) hm0 e3 hlk ((hS0 k).2 (.inl hjk))
    · rw [if_neg e1] at hjk
      by_cases e2 : j = 0
      · rw [if_pos e2] at hjk
        by_cases e3 : l = n
        · rw [if_pos e3] at hlk; exact hap k hlk hjk
        rw [if_neg e3] at hlk
        by_cases e4 : l = 0
        · exact hne (e2.trans e4.symm)
        · rw [if_neg e4] at hlk
          exact h2 l 0 k (hkeep l e3 e4 hl) hm0 e4 hlk ((hS0 k).2 (.inr hjk))
      · rw [if_neg e2] at hjk
        have hmj := hkeep j e1 e2 hj
        by_cases e3 : l = n
        · rw [if_pos e3] at hlk
          exact h2 j 0 k hmj hm0 e2 hjk ((hS0 k).2 (.inl hlk))
        rw [if_neg e3] at hlk
        by_cases e4 : l = 0
        · rw [if_pos e4] at hlk
          exact h2 j 0 k hmj hm0 e2 hjk ((hS0 k).2 (.inr hlk))
        · rw [if_neg e4] at hlk
          exact h2 j l k hmj (hkeep l e3 e4 hl) hne hjk hlk
  · intro j k hj hjk
    simp only [S'] at hjk
    by_cases e1 : j = n
    · rw [if_pos e1] at hjk; exact h3 0 k hm0 ((hS0 k).2 (.inl hjk))
    rw [if_neg e1] at hjk
    by_cases e2 : j = 0
    · rw [if_pos e2] at hjk; exact h3 0 k hm0 ((hS0 k).2 (.inr hjk))
    · rw [if_neg e2] at hjk; exact h3 j k (hkeep j e1 e2 hj) hjk
  · have hj' : upd c.ρ n (some nd.v) j = some v := hj
    simp only [upd] at hj'
    split at hj'
    · cases hj'; exact hone
    · exact hn.2 j v hj'
  · rintro k ⟨j, U, mb, hj, hR, hU⟩
    have := MRep.det hR (hrep j mb hj)
    subst this
    simp only [S'] at hU
    by_cases e1 : j = n
    · rw [if_pos e1] at hU; exact ⟨0, S 0, _, h0, h1 0 _ h0, (hS0 k).2 (.inl hU)⟩
    rw [if_neg e1] at hU
    by_cases e2 : j = 0
    · rw [if_pos e2] at hU; exact ⟨0, S 0, _, h0, h1 0 _ h0, (hS0 k).2 (.inr hU)⟩
    · rw [if_neg e2] at hU
      rw [upd_other _ _ e1, upd_other _ _ e2] at hj
      exact ⟨j, S j, mb, hj, h1 j mb hj, hU⟩
section
variable {P : Program} {Γ : Ctr} {G : PCtr} {α : Type} {args : α → List PV} {pre : α → Prop}
/-- A function that makes rows (name 0 has them) and hands back values. -/
def hpC (args : α → List PV) (pre : α → Prop) (post : α → PV → List Node → Prop) : AC := fun as mem n K =>
  ∃ x A, as = args x ∧ mem 0 = some (.gen heapP [encL A]) ∧ pre x ∧ ∀ r N, post x r N → K r (upd mem 0 (some (.gen heapP [encL (A ++ N)]))) n
def FinH (P : Program) (rs : List ResultVar) (A : List Node) (K : PV → List Node → Prop) : AX → AS → Prop := Fin P rs fun r mem _ => r.nmb 0 = true ∧ ∃ N, mem 0 = some (.gen heapP [encL (A ++ N)]) ∧ K r N
theorem fin_H {rs : List ResultVar} {σ : AS} {A : List Node} {K : PV → List Node → Prop} (h : aRes P σ rs fun us => (packR us).nmb 0 = true ∧ ∃ N, σ.mem 0 = some (.gen heapP [encL (A ++ N)]) ∧ K (packR us) N) : FinH P rs A K .ret σ := h
theorem fin_He {rs : List ResultVar} {σ : AS} {A : List Node} {K : PV → List Node → Prop} (h : aRes P σ rs fun us => (packR us).nmb 0 = true ∧ ∃ N, σ.mem 0 = some (.gen heapP [encL (A ++ N)]) ∧ K (packR us) N) : FinH P rs A K .normal σ := h
theorem hpC_ok {post : α → PV → List Node → Prop} (m : Nat) (hΓ : ∀ f C, Γ f = some C → ACok P f C) (hG : ∀ f R, G f = some R → PureOk P f R) (hm : P.follows .mixedOrders = true) {f : FuncId} {fn : Func} {code : Code} (rs : List ResultVar) (hf : P.funcs[f]? = some fn) (hb : fn.body = some code) (hrs : fn.results.toList = rs) (hN : codeN fn.ntmps code = true)
    (hname : (fn.name == "runtime.NumGoroutine") = false) (hl : ∀ x, (args x).length = m) (hle : Nat.ble m fn.ntmps = true) (hca : ∀ x, nmbL 0 (args x) = true)
    (h : ∀ x A K, pre x → (∀ r N, post x r N → K r N) → awp P G Γ 1 code (FinH P rs A K) (entry (args x) (mkM [(0, .gen heapP [encL A])]) 1)) : ACok P f (hpC args pre post) := by
  subst hrs
  refine ⟨⟨fn, hf, by rw [hb]; rfl, hname⟩, fun c mem n as vs K hI hn hr hC => ?_⟩
  obtain ⟨x, A, rfl, h0, hp, hK⟩ := hC
  have hr1 : RepL (args x) (c.one 0) vs := hr.any (hca x) rfl rfl
  refine (calls_of_body hΓ hG hm hf hb hN (hI.one h0 rfl) (Names.one hn) hr1 (by rw [hl x]; exact Nat.le_of_ble_eq_true hle) (K := fun r mem _ => r.nmb 0 = true ∧ ∃ N, mem 0 = some (.gen heapP [encL (A ++ N)]) ∧ post x r N) (h x A (fun r N => post x r N) hp (fun _ _ h => h))).mono ?_
  rintro e w' ⟨v', r, c1, m1, k1, rfl, rfl, ⟨hr0, N, hm0, hpost⟩, st, hrep⟩
  obtain ⟨s1, s2⟩ := Step.liftV hI hn h0 rfl st hm0 rfl hr0 hrep
  exact ⟨v', r, ⟨c1.w, c1.fz, c.ρ⟩, _, _, rfl, rfl, hK r N hpost, s1, s2⟩
/-- .. a row of its own, which joins them. -/
def jinC (e : TypeId) (s : Nat) (args : α → List PV) (pre : α → Prop) (post : α → List (List PV) → List Node → Prop) : AC := fun as mem n K =>
  ∃ x A, as = args x ∧ mem 0 = some (.gen heapP [encL A]) ∧ pre x ∧ ∀ v es N, v.oneCell' = true → post x es N → K (.raw v) (upd mem 0 (some (.gen heapP [encL (A ++ ⟨v, e, s, es⟩ :: N)]))) n
def FinJ (P : Program) (rs : List ResultVar) (A : List Node) (K : List (List PV) → List Node → Prop) (e : TypeId) (s : Nat) : AX → AS → Prop := Fin P rs fun r mem _ => ∃ j es N, r = .own j ∧ mem j = some (.row e s es) ∧ mem 0 = some (.gen heapP [encL (A ++ N)]) ∧ es.all (·.all plainR) = true ∧ K es N
theorem fin_J {rs : List ResultVar} {σ : AS} {A : List Node} {K : List (List PV) → List Node → Prop} {e : TypeId} {s : Nat} (h : aRes P σ rs fun us => ∃ j es N, packR us = .own j ∧ σ.mem j = some (.row e s es) ∧ σ.mem 0 = some (.gen heapP [encL (A ++ N)]) ∧ es.all (·.all plainR) = true ∧ K es N) : FinJ P rs A K e s .ret σ := h
theorem fin_Je {rs : List ResultVar} {σ : AS} {A : List Node} {K : List (List PV) → List Node → Prop} {e : TypeId} {s : Nat} (h : aRes P σ rs fun us => ∃ j es N, packR us = .own j ∧ σ.mem j = some (.row e s es) ∧ σ.mem 0 = some (.gen heapP [encL (A ++ N)]) ∧ es.all (·.all plainR) = true ∧ K es N) : FinJ P rs A K e s .normal σ := h
theorem jinC_ok {e : TypeId} {s : Nat} {post : α → List (List PV) → List Node → Prop} (m : Nat) (hΓ : ∀ f C, Γ f = some C → ACok P f C) (hG : ∀ f R, G f = some R → PureOk P f R) (hm : P.follows .mixedOrders = true) {f : FuncId} {fn : Func} {code : Code} (rs : List ResultVar) (hf : P.funcs[f]? = some fn) (hb : fn.body = some code) (hrs : fn.results.toList = rs) (hN : codeN fn.ntmps code = true)
    (hname : (fn.name == "runtime.NumGoroutine") = false) (hl : ∀ x, (args x).length = m) (hle : Nat.ble m fn.ntmps = true) (hca : ∀ x, nmbL 0 (args x) = true)
    (h : ∀ x A K, pre x → (∀ es N, post x es N → K es N) → awp P G Γ 1 code (FinJ P rs A K e s) (entry (args x) (mkM [(0, .gen heapP [encL A])]) 1)) : ACok P f (jinC e s args pre post) := by
  subst hrs
  refine ⟨⟨fn, hf, by rw [hb]; rfl, hname⟩, fun c mem n as vs K hI hn hr hC => ?_⟩
  obtain ⟨x, A, rfl, h0, hp, hK⟩ := hC
  have hr1 : RepL (args x) (c.one 0) vs := hr.any (hca x) rfl rfl
  refine (calls_of_body hΓ hG hm hf hb hN (hI.one h0 rfl) (Names.one hn) hr1 (by rw [hl x]; exact Nat.le_of_ble_eq_true hle) (K := fun r mem _ => ∃ j es N, r = .own j ∧ mem j = some (.row e s es) ∧ mem 0 = some (.gen heapP [encL (A ++ N)]) ∧ es.all (·.all plainR) = true ∧ post x es N) (h x A (fun es N => post x es N) hp (fun _ _ h => h))).mono ?_
  rintro e' w' ⟨v', r, c1, m1, k1, rfl, rfl, ⟨j, es, N, rfl, hj, hm0, hall, hpost⟩, st, hrep⟩
  obtain ⟨v, hv, hone, hjoin⟩ := Step.joinH st.inv st.free hm0 hj hall
  unfold Rep at hrep
  obtain rfl : v = v' := by rw [hv] at hrep; exact Option.some.inj hrep
  have stA := st.trans (hjoin (A ++ ⟨v, e, s, es⟩ :: N) List.perm_middle)
  obtain ⟨s1, s2⟩ := Step.liftV (r := .raw v) (v' := v) hI hn h0 rfl stA (upd_same _ _ _) rfl rfl (by unfold Rep; rfl)
  exact ⟨v, .raw v, ⟨c1.w, c1.fz, c.ρ⟩, _, _, rfl, rfl, hK v es N hone hpost, s1, s2⟩
open Classical in
noncomputable def lendG (p : OwnP) (d : List PV) : PV := if ∃ Q, p = treeP Q then d.headD .undef else .undef
@[go_sem] theorem lendG_tree (Q : List (List PV) → Value → List Node → Prop) (u : PV) (r : List PV) : lendG (treeP Q) (u :: r) = u := by
  unfold lendG
  rw [if_pos ⟨Q, rfl⟩]; rfl
noncomputable def lendM : Option MB → PV
  | some (.row _ _ es) => .seq es
  | some (.fro es) => .seq es
  | some (.gen p d) => lendG p d
  | _ => .undef
noncomputable def resT (mem : Mem) : PV → PV
  | .own i => lendM (mem i)
  | .nil => .seq []
  | u => u
/-- All that is one's own is lent. -/
def Cx.lent (c : Cx) (mem : Mem) : Cx := ⟨c.w, fun b => c.fz b ∨ Mine c mem b, c.ρ⟩
theorem lent_le (c : Cx) (mem : Mem) : c.Le (c.lent mem) := ⟨fun _ h => .inl h, fun _ _ _ => rfl, fun _ _ h => h⟩
theorem lent_fz {c : Cx} {mem : Mem} (hI : InvM c mem) : FzOk (c.lent mem) := hI.1.mono (lent_le c mem) fun b hb => by
  rcases hb with h | h
  · exact hI.1.lt b h
  · exact InvM.mine_lt (c := c) (mem := mem) h
theorem rep_lent {c : Cx} {mem : Mem} {u : PV} {v : Value} (hI : InvM c mem) (hr : Rep u c v) : Rep (resT mem u) (c.lent mem) v := by
  cases u with
  | own i =>
    show Rep (lendM (mem i)) _ _
    cases hm : mem i with
    | none => unfold lendM Rep; trivial
    | some mb =>
      cases mb with
      | box cs => unfold lendM Rep; trivial
      | row e s es =>
        obtain ⟨v', hv, _, _, hseq, hmine, _⟩ := hI.freeze hm
        unfold Rep at hr
        obtain rfl : v' = v := by rw [hv] at hr; exact Option.some.inj hr
        have hl : Cx.Le ⟨c.w, fun b => c.fz b ∨ v'.ownBlock = some b, c.ρ⟩ (c.lent mem) := ⟨fun b hb => hb.elim .inl fun h => .inr (hmine b h), fun _ _ _ => rfl, fun _ _ h => h⟩
        exact Rep.mono _ hl hseq
      | fro es => exact Rep.mono _ (lent_le c mem) (rep_fro hI hm hr)
      | gen p d =>
        show Rep (lendG p d) _ _
        unfold lendG
        split
        · rename_i hq
          obtain ⟨Q, rfl⟩ := hq
          obtain ⟨_, S, h1, _, _⟩ := id hI
          obtain ⟨v', hv, es, N, rfl, _, _, hh, hseq⟩ := h1 i _ hm
          unfold Rep at hr
          obtain rfl : v' = v := by rw [hv] at hr; exact Option.some.inj hr
          have hl : Cx.Le ⟨c.w, S i, fun _ => none⟩ (c.lent mem) := ⟨fun b hb => .inr ⟨i, S i, _, hm, h1 i _ hm, hb⟩, fun _ _ _ => rfl, fun _ _ h => by cases h⟩
          exact Rep.mono (.seq es) hl hseq
        · unfold Rep; trivial
  | nil => exact Rep.mono _ (lent_le c mem) (rep_nil hr)
  | _ => exact Rep.mono _ (lent_le c mem) hr
theorem repL_mapC {c c' : Cx} (f : PV → PV) : ∀ {us : List PV} {vs : List Value}, (∀ u ∈ us, ∀ v, Rep u c v → Rep (f u) c' v) → RepL us c vs → RepL (us.map f) c' vs
  | [], vs, _, h => by rw [RepL.nil_iff] at h; subst h; simp [RepL.nil_iff]
  | u :: us, vs, hf, h => by
    rw [RepL.cons_iff] at h
    obtain ⟨x, xs, rfl, h1, h2⟩ := h
    rw [List.map_cons, RepL.cons_iff]
    exact ⟨x, xs, rfl, hf u (by simp) x h1, repL_mapC f (fun t ht => hf t (by simp [ht])) h2⟩
/-- A function that only computes, its arguments lent, trees too. -/
def borT (R : PC) : AC := fun args mem n K => nmbL 0 (args.map (resT mem)) = true ∧ R (args.map (resT mem)) fun r => plainV r = true ∧ K r mem n
theorem borT_ok {f : FuncId} {R : PC} (h : PureOk P f R) : ACok P f (borT R) := by
  refine ⟨h.fn, fun c mem n args vs K hI hn hr hC => ?_⟩
  obtain ⟨hsc, hR⟩ := hC
  have hr1 : RepL (args.map (resT mem)) (c.lent mem) vs := repL_mapC _ (fun u hu v hv => rep_lent hI hv) hr
  refine (h.run (c.lent mem) _ vs _ (lent_fz hI) (hr1.to_data hsc) hR).mono ?_
  rintro e w' ⟨v, r, rfl, ⟨hp, hK⟩, hb, hrep⟩
  have hb1 : Below c.w.heap.size c.w w' := hb
  let c2 : Cx := ⟨w', c.fz, c.ρ⟩
  have st2 : Step c mem n c2 mem n := Step.later hI hn rfl (fun _ h => h) hb1 (fun b hb => .inl hb)
  exact ⟨v, r, c2, mem, n, rfl, rfl, hK, st2, rep_plainV hp hrep⟩
/-- A function whose result is a new row, without memory in it; its arguments are lent, trees too. -/
def newL (e : TypeId) (s : Nat) (args : α → List PV) (pre : α → Prop) (post : α → List (List PV) → Prop) : AC := fun as mem n K =>
  ∃ x, as.map (resT mem) = args x ∧ pre x ∧ ∀ es, post x es → K (.own n) (upd mem n (some (.row e s es))) (n + 1)
/-- What joins, seen from outside: a new tree. -/
def newT (Q : List (List PV) → Value → List Node → Prop) (args : α → List PV) (pre : α → Prop) (es : α → List (List PV)) : AC := fun as mem n K =>
  ∃ x, as.map (resT mem) = args x ∧ pre x ∧ ∀ N, K (.own n) (upd mem n (some (.gen (treeP Q) [.seq (es x), encL N]))) (n + 1)
theorem newT_ok {Q : List (List PV) → Value → List Node → Prop} {e : TypeId} {s : Nat} {post : α → List (List PV) → List Node → Prop} {ess : α → List (List PV)} {f : FuncId} (h : ACok P f (jinC e s args pre post)) (hca : ∀ x, nmbL 0 (args x) = true)
    (hQ : ∀ x v es N, post x es N → Q (ess x) v (⟨v, e, s, es⟩ :: N))
    (hL : ∀ x v es N w S, post x es N → HeapR (⟨v, e, s, es⟩ :: N) w S → Rep (.seq (ess x)) ⟨w, S, fun _ => none⟩ v) : ACok P f (newT Q args pre ess) := by
  refine ⟨h.fn, fun c mem n as vs K hI hn hr hC => ?_⟩
  obtain ⟨x, hx, hp, hK⟩ := hC
  have hr1 : RepL (as.map (resT mem)) (c.lent mem) vs := repL_mapC _ (fun u hu v hv => rep_lent hI hv) hr
  rw [hx] at hr1
  have hfz := lent_fz hI
  let c1 : Cx := ⟨c.w, (c.lent mem).fz, fun l => if l = 0 then some (.int .i64 0) else none⟩
  have hI1 : InvM c1 (mkM [(0, .gen heapP [encL []])]) := by
    refine ⟨⟨hfz.lt, hfz.glob⟩, fun _ _ => False, ?_, fun _ _ _ _ _ _ h => h.elim, fun _ _ _ h => h.elim⟩
    intro i mb hi
    simp only [mkM, upd] at hi
    split at hi
    · rename_i e0
      cases hi
      refine ⟨.int .i64 0, by show (if i = 0 then _ else _) = _; rw [if_pos e0], [], rfl, ?_⟩
      refine ⟨fun nd hnd => by simp at hnd, List.Pairwise.nil, ?_⟩
      funext k
      simp
    · cases hi
  have hn1 : Names c1 1 := ⟨fun i hi => if_neg (by omega), fun i v hi => by
    have hi' : (if i = 0 then some (Value.int .i64 0) else none) = some v := hi
    split at hi'
    · cases hi'; rfl
    · cases hi'⟩
  have hr2 : RepL (args x) c1 vs := RepL.of_data (c := c1) (show RepL (args x) (c.lent mem).data vs from hr1.to_data (hca x))
  refine (h.run c1 _ 1 (args x) vs (fun r m _ => ∃ v es N, r = .raw v ∧ v.oneCell' = true ∧ post x es N ∧ m 0 = some (.gen heapP [encL (⟨v, e, s, es⟩ :: N)])) hI1 hn1 hr2 ⟨x, [], rfl, upd_same _ _ _, hp, fun v es N hv hpost => ⟨v, es, N, rfl, hv, hpost, upd_same _ _ _⟩⟩).mono ?_
  rintro e' w' ⟨v', r, c2, m2, k2, rfl, rfl, ⟨v, es, N, rfl, hone, hpost, hm2⟩, st2, hrep⟩
  unfold Rep at hrep
  obtain rfl : v = v' := hrep.symm
  have hno : ∀ b, ¬ Mine c1 (mkM [(0, .gen heapP [encL []])]) b := by
    rintro b ⟨i, S, mb, hi, hR, hb⟩
    simp only [mkM, upd] at hi
    split at hi
    · cases hi
      obtain ⟨_, _, N0, hN0, hh⟩ := hR
      rw [List.cons.injEq, encL_iff] at hN0
      obtain ⟨rfl, _⟩ := hN0
      rw [hh.2.2] at hb
      obtain ⟨nd, hnd, _⟩ := hb
      cases hnd
    · cases hi
  obtain ⟨_, S2, g1, _, _⟩ := id st2.inv
  obtain ⟨u, hu, N0, hN0, hh⟩ := g1 0 _ hm2
  rw [List.cons.injEq, encL_iff] at hN0
  obtain ⟨rfl, _⟩ := hN0
  have hmn := free_mem hI hn
  have hos : c2.w.os = c.w.os := st2.os
  have htp : c2.w.tape = c.w.tape := st2.tape
  have hou : c2.w.output = c.w.output := st2.output
  have hsz : c.w.heap.size ≤ c2.w.heap.size := st2.size
  have hw : ∀ b, b < c.w.heap.size → c2.w.heap[b]? = c.w.heap[b]? := fun b hb => st2.block b hb (hno b)
  let c' : Cx := ⟨c2.w, c.fz, upd c.ρ n (some v)⟩
  obtain ⟨h1, h2, h3⟩ := InvM.put (c := c) (c' := c') (mem := mem) (mem' := upd mem n (some (.gen (treeP Q) [.seq (ess x), encL (⟨v, e, s, es⟩ :: N)]))) (j := n) (S' := S2 0) hI none rfl (fun k hk => upd_other _ _ hk) (.inl (hn.1 n (Nat.le_refl _)))
    (upd_same _ _ _) (fun k hk => .inl (upd_other _ _ hk)) (fun i hi => by cases hi) (.inr hmn) hsz (fun b hb _ => hw b hb)
    (fun hle => ⟨v, upd_same _ _ _, ess x, ⟨v, e, s, es⟩ :: N, rfl, hQ x v es N hpost, hone, hh, hL x v es N _ _ hpost hh⟩)
    (fun b hb => by
      rcases st2.mine b ⟨0, S2 0, _, hm2, g1 0 _ hm2, hb⟩ with h | h
      · exact absurd h (hno b)
      · exact .inr h)
  have st : Step c mem n c' (upd mem n (some (.gen (treeP Q) [.seq (ess x), encL (⟨v, e, s, es⟩ :: N)]))) (n + 1) :=
    ⟨h1, h2, hos, htp, hou, hsz, fun b hb _ => hw b hb, h3, fun _ h => .inl h, by omega, fun i hi => upd_other _ _ (by omega), hn.upd rfl hone⟩
  exact ⟨v, .own n, c', _, _, rfl, rfl, hK _, st, by unfold Rep; exact upd_same _ _ _⟩
end
end Go.Proofs.Ytdedddmnacomfaa

/- More on trees of rows: rows are forgotten, written over in place; results that may be nil, or fail. No program. -/
namespace Go.Proofs.Ytdedddmnacomfaa
set_option maxRecDepth 100000
set_option linter.unusedVariables false
set_option linter.unusedSimpArgs false
open Go.RowKit
/-- Rows of name 0 are forgotten. -/
theorem Step.dropH {c : Cx} {mem : Mem} {n : Nat} {N N' M : List Node} (hI : InvM c mem) (hn : Names c n) (h0 : mem 0 = some (.gen heapP [encL N])) (hp : (N' ++ M).Perm N) :
    Step c mem n ⟨c.w, c.fz, c.ρ⟩ (upd mem 0 (some (.gen heapP [encL N']))) n := by
  obtain ⟨hf, S, h1, h2, h3⟩ := id hI
  have hm0 : mem 0 ≠ none := by simp [h0]
  obtain ⟨v0, a1, N0, a2, a3⟩ := h1 0 _ h0
  rw [List.cons.injEq, encL_iff] at a2
  obtain ⟨rfl, _⟩ := a2
  let S0 : Nat → Prop := fun k => ∃ nd ∈ N', nd.v.ownBlock = some k
  have hsub : ∀ nd, nd ∈ N' → nd ∈ N := fun nd h => hp.mem_iff.1 (List.mem_append_left _ h)
  have hS0 : ∀ k, S0 k → S 0 k := by
    rintro k ⟨nd, h, h'⟩
    rw [a3.2.2]; exact ⟨nd, hsub nd h, h'⟩
  have hheap : HeapR N' c.w S0 := ⟨fun nd h => a3.1 nd (hsub nd h), (List.pairwise_append.1 ((List.Perm.pairwise_iff (fun h => apart_symm h) hp).2 a3.2.1)).1, rfl⟩
  let S' : Nat → Nat → Prop := fun l => if l = 0 then S0 else S l
  have hle' : ∀ l k, S' l k → S l k := by
    intro l k h
    simp only [S'] at h
    split at h
    · rename_i e; rw [e]; exact hS0 k h
    · exact h
  have hrep : ∀ l mb, upd mem 0 (some (.gen heapP [encL N'])) l = some mb → MRep ⟨c.w, c.fz, c.ρ⟩ l (S' l) mb := by
    intro l mb hl
    simp only [upd] at hl
    by_cases e1 : l = 0
    · rw [if_pos e1] at hl; cases hl
      simp only [S', if_pos e1]
      exact ⟨v0, by show c.ρ l = _; rw [e1]; exact a1, N', rfl, hheap⟩
    · rw [if_neg e1] at hl
      simp only [S', if_neg e1]
      exact h1 l mb hl
  have hkeep : ∀ l, upd mem 0 (some (.gen heapP [encL N'])) l ≠ none → mem l ≠ none := by
    intro l hl
    by_cases e1 : l = 0
    · rw [e1]; exact hm0
    · rwa [upd_other _ _ e1] at hl
  refine Step.re hn ⟨⟨hf.lt, hf.glob⟩, S', hrep, ?_, ?_⟩ (fun _ _ => rfl) hn (Nat.le_refl _) ?_
  · intro l l' k hl hl' hne hk hk'
    exact h2 l l' k (hkeep l hl) (hkeep l' hl') hne (hle' l k hk) (hle' l' k hk')
  · intro l k hl hk hb
    exact h3 l k (hkeep l hl) (hle' l k hk) hb
  · rintro k ⟨l, U, mb, hl, hR, hU⟩
    have := MRep.det hR (hrep l mb hl)
    subst this
    have hml := hkeep l (by simp [hl])
    obtain ⟨mb', hmb'⟩ := Option.ne_none_iff_exists'.1 hml
    exact ⟨l, S l, mb', hmb', h1 l mb' hmb', hle' l k hU⟩
/-- Memory seen in another way. -/
theorem Step.asG {c : Cx} {mem : Mem} {n i : Nat} {p q : OwnP} {d d' : List PV} (hI : InvM c mem) (hn : Names c n) (hi : mem i = some (.gen p d)) (h : ∀ v S, c.ρ i = some v → p.R d c.w v S → q.R d' c.w v S) :
    Step c mem n ⟨c.w, c.fz, c.ρ⟩ (upd mem i (some (.gen q d'))) n := by
  obtain ⟨hf, S, h1, h2, h3⟩ := id hI
  have hmi : mem i ≠ none := by simp [hi]
  have hrep : ∀ l mb, upd mem i (some (.gen q d')) l = some mb → MRep ⟨c.w, c.fz, c.ρ⟩ l (S l) mb := by
    intro l mb hl
    by_cases e1 : l = i
    · subst e1
      rw [upd_same] at hl; cases hl
      obtain ⟨v, hv, hR⟩ := h1 l _ hi
      exact ⟨v, hv, h v _ hv hR⟩
    · rw [upd_other _ _ e1] at hl
      exact h1 l mb hl
  have hkeep : ∀ l, upd mem i (some (.gen q d')) l ≠ none → mem l ≠ none := by
    intro l hl
    by_cases e1 : l = i
    · rw [e1]; exact hmi
    · rwa [upd_other _ _ e1] at hl
  refine Step.re hn ⟨⟨hf.lt, hf.glob⟩, S, hrep, ?_, ?_⟩ (fun _ _ => rfl) hn (Nat.le_refl _) ?_
  · intro l l' k hl hl' hne hk hk'
    exact h2 l l' k (hkeep l hl) (hkeep l' hl') hne hk hk'
  · intro l k hl hk hb
    exact h3 l k (hkeep l hl) hk hb
  · rintro k ⟨l, U, mb, hl, hR, hU⟩
    have := MRep.det hR (hrep l mb hl)
    subst this
    obtain ⟨mb', hmb'⟩ := Option.ne_none_iff_exists'.1 (hkeep l (by simp [hl]))
    exact ⟨l, S l, mb', hmb', h1 l mb' hmb', hU⟩
/-- One of the rows gets a name, wherever it stands. -/
theorem Step.splitP {c : Cx} {mem : Mem} {n : Nat} {nd : Node} {N N1 : List Node} (hI : InvM c mem) (hn : Names c n) (h0 : mem 0 = some (.gen heapP [encL N])) (hp : (nd :: N1).Perm N) :
    Step c mem n ⟨c.w, c.fz, upd c.ρ n (some nd.v)⟩ (upd (upd mem 0 (some (.gen heapP [encL N1]))) n (some (.row nd.e nd.s nd.es))) (n + 1) := by
  have st := Step.dropH (N' := nd :: N1) (M := []) hI hn h0 (by rw [List.append_nil]; exact hp)
  have st2 := Step.splitH st.inv st.free (upd_same _ _ _)
  have em : upd (upd (upd mem 0 (some (MB.gen heapP [encL (nd :: N1)]))) 0 (some (.gen heapP [encL N1]))) n (some (.row nd.e nd.s nd.es)) = upd (upd mem 0 (some (.gen heapP [encL N1]))) n (some (.row nd.e nd.s nd.es)) := by
    funext l
    simp only [upd]
    (repeat' split) <;> rfl
  rw [em] at st2
  exact st.trans st2
section
variable {P : Program} {Γ : Ctr} {G : PCtr} {α : Type} {args : α → List PV} {pre : α → Prop}
/-- A function that only computes, all that is one's own given up. -/
def pureT (R : PC) : AC := fun args mem n K => nmbL 0 (args.map (resT mem)) = true ∧ R (args.map (resT mem)) fun r => K r (fun _ => none) n
theorem pureT_ok {f : FuncId} {R : PC} (h : PureOk P f R) : ACok P f (pureT R) := by
  refine ⟨h.fn, fun c mem n args vs K hI hn hr hC => ?_⟩
  obtain ⟨hsc, hR⟩ := hC
  have hr1 : RepL (args.map (resT mem)) (c.lent mem) vs := repL_mapC _ (fun u hu v hv => rep_lent hI hv) hr
  have hfz := lent_fz hI
  refine (h.run (c.lent mem) _ vs _ hfz (hr1.to_data hsc) hR).mono ?_
  rintro e w' ⟨v, r, rfl, hK, hb, hrep⟩
  have hb1 : Below c.w.heap.size c.w w' := hb
  let c2 : Cx := ⟨w', fun b => (c.lent mem).fz b ∨ c.w.heap.size ≤ b ∧ b < w'.heap.size, c.ρ⟩
  have hle : c.Le c2 := ⟨fun _ h => .inl (.inl h), fun b hb' o => cell_of_block (hb1.block b (hI.1.lt b hb')) o, fun i v hi => hi⟩
  have hlt : ∀ b, c2.fz b → b < w'.heap.size := by
    rintro b (hb' | hb')
    · exact Nat.lt_of_lt_of_le (hfz.lt b hb') hb1.size
    · exact hb'.2
  have st : Step c mem n c2 (fun _ => none) n := by
    refine ⟨InvM.none_ (hI.1.mono hle hlt), hle, hb1.os, hb1.tape, hb1.output, hb1.size, fun b hb' _ => hb1.block b hb', ?_, ?_, Nat.le_refl _, fun _ _ => rfl, ⟨fun i hi => hn.1 i hi, fun i v hi => hn.2 i v hi⟩⟩
    · rintro b ⟨i, S, mb, h, _⟩; cases h
    · rintro b ((h | h) | h)
      · exact .inl h
      · exact .inr (.inl h)
      · exact .inr (.inr h.1)
  refine ⟨v, r, c2, _, n, rfl, rfl, hK, st, Rep.mono _ ?_ hrep⟩
  exact ⟨fun _ h => h, fun _ _ _ => rfl, fun _ _ h => by cases h⟩
def FinY (P : Program) (rs : List ResultVar) (A : List Node) (K : List (List PV) → List Node → Prop) (F : Prop) (e : TypeId) (s : Nat) : AX → AS → Prop := Fin P rs fun r mem _ =>
  (∃ j es N M N0, r = .tup [.own j, .bool true] ∧ mem j = some (.row e s es) ∧ mem 0 = some (.gen heapP [encL N0]) ∧ (A ++ N ++ M).Perm N0 ∧ es.all (·.all plainR) = true ∧ K es N) ∨ (∃ M N0, r = .tup [.nil, .bool false] ∧ mem 0 = some (.gen heapP [encL N0]) ∧ (A ++ M).Perm N0 ∧ F)
theorem fin_Y {rs : List ResultVar} {σ : AS} {A : List Node} {K : List (List PV) → List Node → Prop} {F : Prop} {e : TypeId} {s : Nat} (h : aRes P σ rs fun us => (∃ j es N M N0, packR us = .tup [.own j, .bool true] ∧ σ.mem j = some (.row e s es) ∧ σ.mem 0 = some (.gen heapP [encL N0]) ∧ (A ++ N ++ M).Perm N0 ∧ es.all (·.all plainR) = true ∧ K es N) ∨ (∃ M N0, packR us = .tup [.nil, .bool false] ∧ σ.mem 0 = some (.gen heapP [encL N0]) ∧ (A ++ M).Perm N0 ∧ F)) : FinY P rs A K F e s .ret σ := h
/-- A function that writes over one of them, and what hangs on it. -/
def sptK (e : TypeId) (s : Nat) (args : α → List PV) (rows : α → List (List PV)) (nod : α → List Node) (pre : α → Prop) (out : α → PV) (post : α → List (List PV) → List Node → Prop) : AC := fun as mem n K =>
  ∃ x v L R, as = .raw v :: args x ∧ mem 0 = some (.gen heapP [encL (L ++ ⟨v, e, s, rows x⟩ :: (nod x ++ R))]) ∧ pre x ∧ ∀ es N, post x es N → K (out x) (upd mem 0 (some (.gen heapP [encL (L ++ ⟨v, e, s, es⟩ :: (N ++ R))]))) n
def FinK (P : Program) (rs : List ResultVar) (L R : List Node) (K : PV → List (List PV) → List Node → Prop) (e : TypeId) (s : Nat) : AX → AS → Prop := Fin P rs fun r mem _ => r.nmb 0 = true ∧ ∃ es N, mem 1 = some (.row e s es) ∧ es.all (·.all plainR) = true ∧ mem 0 = some (.gen heapP [encL (L ++ (N ++ R))]) ∧ K r es N
theorem fin_K {rs : List ResultVar} {σ : AS} {L R : List Node} {K : PV → List (List PV) → List Node → Prop} {e : TypeId} {s : Nat} (h : aRes P σ rs fun us => (packR us).nmb 0 = true ∧ ∃ es N, σ.mem 1 = some (.row e s es) ∧ es.all (·.all plainR) = true ∧ σ.mem 0 = some (.gen heapP [encL (L ++ (N ++ R))]) ∧ K (packR us) es N) : FinK P rs L R K e s .ret σ := h
theorem sptK_ok {e : TypeId} {s : Nat} {rows : α → List (List PV)} {nod : α → List Node} {out : α → PV} {post : α → List (List PV) → List Node → Prop} (m : Nat) (hΓ : ∀ f C, Γ f = some C → ACok P f C) (hG : ∀ f R, G f = some R → PureOk P f R) (hm : P.follows .mixedOrders = true) {f : FuncId} {fn : Func} {code : Code} (rs : List ResultVar) (hf : P.funcs[f]? = some fn) (hb : fn.body = some code) (hrs : fn.results.toList = rs) (hN : codeN fn.ntmps code = true)
    (hname : (fn.name == "runtime.NumGoroutine") = false) (hl : ∀ x, (args x).length + 1 = m) (hle : Nat.ble m fn.ntmps = true) (hca : ∀ x, nmbL 0 (args x) = true)
    (h : ∀ x L R K, pre x → (∀ es N, post x es N → K (out x) es N) → awp P G Γ 2 code (FinK P rs L R K e s) (entry (.own 1 :: args x) (mkM [(1, .row e s (rows x)), (0, .gen heapP [encL (L ++ (nod x ++ R))])]) 2)) : ACok P f (sptK e s args rows nod pre out post) := by
  subst hrs
  refine ⟨⟨fn, hf, by rw [hb]; rfl, hname⟩, fun c mem n as vs K hI hn hr hC => ?_⟩
  obtain ⟨x, v, L, R, rfl, h0, hp, hK⟩ := hC
  have hI1 := hI.one h0 rfl
  have hn1 : Names (c.one 0) 1 := Names.one hn
  have st1 := Step.splitP (nd := ⟨v, e, s, rows x⟩) (N1 := L ++ (nod x ++ R)) hI1 hn1 (upd_same _ _ _) List.perm_middle.symm
  have hmem : upd (upd (mkM [(0, .gen heapP [encL (L ++ ⟨v, e, s, rows x⟩ :: (nod x ++ R))])]) 0 (some (.gen heapP [encL (L ++ (nod x ++ R))]))) 1 (some (.row e s (rows x))) = mkM [(1, .row e s (rows x)), (0, .gen heapP [encL (L ++ (nod x ++ R))])] := by
    funext j
    simp only [mkM, upd]
    by_cases e1 : j = 1
    · simp [e1]
    · by_cases e2 : j = 0 <;> simp [e1, e2]
  dsimp only at st1
  rw [hmem] at st1
  have hr1 : RepL (.own 1 :: args x) ⟨(c.one 0).w, (c.one 0).fz, upd (c.one 0).ρ 1 (some v)⟩ vs := by
    rw [RepL.cons_iff] at hr ⊢
    obtain ⟨y, ys, rfl, q1, q2⟩ := hr
    unfold Rep at q1
    subst q1
    exact ⟨_, ys, rfl, by unfold Rep; show upd (c.one 0).ρ 1 (some _) 1 = some _; exact upd_same _ _ _, q2.any (hca x) rfl rfl⟩
  refine (calls_of_body hΓ hG hm hf hb hN st1.inv st1.free hr1 (by have := hl x; rw [List.length_cons, this]; exact Nat.le_of_ble_eq_true hle) (K := fun r mem _ => r.nmb 0 = true ∧ ∃ es N, mem 1 = some (.row e s es) ∧ es.all (·.all plainR) = true ∧ mem 0 = some (.gen heapP [encL (L ++ (N ++ R))]) ∧ (r = out x ∧ post x es N)) (h x L R (fun r es N => r = out x ∧ post x es N) hp (fun _ _ h => ⟨rfl, h⟩))).mono ?_
  rintro e' w' ⟨v', r, c1, m1, k1, rfl, rfl, ⟨hr0, es, N, hj, hall, hm0, rfl, hpost⟩, st, hrep⟩
  obtain ⟨u, hu, hone, hjoin⟩ := Step.joinH st.inv st.free hm0 hj hall
  have hu1 : c1.ρ 1 = some v := by rw [st.ρ 1 (by omega)]; show upd (c.one 0).ρ 1 (some v) 1 = some v; exact upd_same _ _ _
  obtain rfl : v = u := by rw [hu1] at hu; exact Option.some.inj hu
  have stA := (st1.trans st).trans (hjoin (L ++ ⟨v, e, s, es⟩ :: (N ++ R)) List.perm_middle)
  obtain ⟨s1, s2⟩ := Step.liftV (r := out x) (v' := v') hI hn h0 rfl stA (upd_same _ _ _) rfl hr0 hrep
  exact ⟨v', _, ⟨c1.w, c1.fz, c.ρ⟩, _, _, rfl, rfl, hK es N hpost, s1, s2⟩
/-- .. seen from outside: a tree stays a tree. -/
def mrkK (Q : List (List PV) → Value → List Node → Prop) (args : α → List PV) (es : α → List (List PV)) (pre : α → Prop) (out : α → PV) (es' : α → List (List PV)) : AC := fun as mem n K =>
  ∃ x i N, as = .own i :: args x ∧ mem i = some (.gen (treeP Q) [.seq (es x), encL N]) ∧ pre x ∧ ∀ N', K (out x) (upd mem i (some (.gen (treeP Q) [.seq (es' x), encL N']))) n
theorem mrkK_ok {Q : List (List PV) → Value → List Node → Prop} {e : TypeId} {s : Nat} {β : Type} {args' : β → List PV} {rows : β → List (List PV)} {nod : β → List Node} {pre' : β → Prop} {out' : β → PV} {post : β → List (List PV) → List Node → Prop} {ess ess' : α → List (List PV)} {out : α → PV} {f : FuncId} (h : ACok P f (sptK e s args' rows nod pre' out' post)) (hca : ∀ x, nmbL 0 (args x) = true) (hco : ∀ x, (out x).nmb 0 = true)
    (hQ : ∀ x v N, pre x → Q (ess x) v N → ∃ y, N = ⟨v, e, s, rows y⟩ :: nod y ∧ args' y = args x ∧ pre' y ∧ out' y = out x ∧ ∀ es M, post y es M → Q (ess' x) v (⟨v, e, s, es⟩ :: M) ∧ ∀ w S, HeapR (⟨v, e, s, es⟩ :: M) w S → Rep (.seq (ess' x)) ⟨w, S, fun _ => none⟩ v) : ACok P f (mrkK Q args ess pre out ess') := by
  refine ⟨h.fn, fun c mem n as vs K hI hn hr hC => ?_⟩
  obtain ⟨x, i, N, rfl, hi, hp, hK⟩ := hC
  have hI1 := hI.one hi rfl
  have hn1 : Names (c.one i) 1 := Names.one hn
  obtain ⟨hf1, S, h1, h2, h3⟩ := id hI1
  obtain ⟨v, hv, es, N0, hd, hq, hone, hh, hseq⟩ := h1 0 _ (upd_same _ _ _)
  rw [List.cons.injEq, List.cons.injEq, encL_iff, PV.seq.injEq] at hd
  obtain ⟨rfl, rfl, _⟩ := hd
  obtain ⟨y, hN, hya, hyp, hyo, hpo⟩ := hQ x v N hp hq
  have st0 := Step.asG (q := heapP) (d' := [encL N]) hI1 hn1 (upd_same _ _ _) (by
    rintro v' S' hv' ⟨es', N', hd, _, _, hh', _⟩
    rw [List.cons.injEq, List.cons.injEq, encL_iff] at hd
    obtain ⟨_, rfl, _⟩ := hd
    exact ⟨N, rfl, hh'⟩)
  have hr1 : RepL (.raw v :: args' y) ⟨(c.one i).w, (c.one i).fz, (c.one i).ρ⟩ vs := by
    rw [RepL.cons_iff] at hr ⊢
    obtain ⟨z, zs, rfl, q1, q2⟩ := hr
    unfold Rep at q1
    have hvi : c.ρ i = some v := by simpa [Cx.one] using hv
    obtain rfl : v = z := by rw [hvi] at q1; exact Option.some.inj q1
    refine ⟨v, zs, rfl, by unfold Rep; rfl, ?_⟩
    rw [hya]
    exact q2.any (hca x) rfl rfl
  refine (h.run _ _ 1 _ vs (fun r m _ => r = out' y ∧ ∃ es M, post y es M ∧ m 0 = some (.gen heapP [encL (⟨v, e, s, es⟩ :: M)])) st0.inv st0.free hr1 ⟨y, v, [], [], rfl, by rw [List.append_nil, List.nil_append, ← hN]; exact upd_same _ _ _, hyp, fun es M hpost => ⟨rfl, es, M, hpost, by rw [upd_same, List.append_nil, List.nil_append]⟩⟩).mono ?_
  rintro e' w' ⟨v', r, c2, m2, k2, rfl, rfl, ⟨rfl, es, M, hpost, hm2⟩, st2, hrep⟩
  obtain ⟨hQ', hL⟩ := hpo es M hpost
  have hv2 : c2.ρ 0 = some v := by rw [st2.ρ 0 (by omega)]; exact hv
  have st3 := Step.asG (q := treeP Q) (d' := [.seq (ess' x), encL (⟨v, e, s, es⟩ :: M)]) st2.inv st2.free hm2 (by
    rintro u S' hu ⟨N', hd, hh'⟩
    rw [List.cons.injEq, encL_iff] at hd
    obtain ⟨rfl, _⟩ := hd
    obtain rfl : v = u := by rw [hv2] at hu; exact Option.some.inj hu
    exact ⟨_, _, rfl, hQ', hone, hh', hL _ _ hh'⟩)
  obtain ⟨s1, s2⟩ := Step.liftV hI hn hi rfl ((st0.trans st2).trans st3) (upd_same _ _ _) rfl (by rw [hyo]; exact hco x) hrep
  exact ⟨v', _, ⟨c2.w, c2.fz, c.ρ⟩, _, _, rfl, rfl, by rw [hyo]; exact hK _, s1, s2⟩
/-- What joins or fails, seen from outside. -/
def newTB (Q : List (List PV) → Value → List Node → Prop) (args : α → List PV) (pre : α → Prop) (es : α → Option (List (List PV))) : AC := fun as mem n K =>
  ∃ x, as.map (resT mem) = args x ∧ pre x ∧ (∀ q N, es x = some q → K (.tup [.own n, .bool true]) (upd mem n (some (.gen (treeP Q) [.seq q, encL N]))) (n + 1)) ∧ (es x = none → K (.tup [.nil, .bool false]) mem n)
/-- A function whose walk hands back a new tree, or fails; its arguments are lent. -/
def FinT (P : Program) (rs : List ResultVar) (K : List (List PV) → Prop) (F : Prop) (Q : List (List PV) → Value → List Node → Prop) : AX → AS → Prop := Fin P rs fun r mem _ => (∃ j q N, r = .tup [.own j, .bool true] ∧ mem j = some (.gen (treeP Q) [.seq q, encL N]) ∧ K q) ∨ (r = .tup [.nil, .bool false] ∧ F)
theorem fin_T {rs : List ResultVar} {σ : AS} {K : List (List PV) → Prop} {F : Prop} {Q : List (List PV) → Value → List Node → Prop} (h : aRes P σ rs fun us => (∃ j q N, packR us = .tup [.own j, .bool true] ∧ σ.mem j = some (.gen (treeP Q) [.seq q, encL N]) ∧ K q) ∨ (packR us = .tup [.nil, .bool false] ∧ F)) : FinT P rs K F Q .ret σ := h
/-- As newL; nil counts as an empty row. -/
def FinM (P : Program) (rs : List ResultVar) (K : List (List PV) → Prop) (e : TypeId) (s : Nat) : AX → AS → Prop := Fin P rs fun r mem _ => (∃ j es, r = .own j ∧ mem j = some (.row e s es) ∧ K es) ∨ (r = .nil ∧ K [])
theorem fin_M {rs : List ResultVar} {σ : AS} {K : List (List PV) → Prop} {e : TypeId} {s : Nat} (h : aRes P σ rs fun us => (∃ j es, packR us = .own j ∧ σ.mem j = some (.row e s es) ∧ K es) ∨ (packR us = .nil ∧ K [])) : FinM P rs K e s .ret σ := h
theorem newM_ok {e : TypeId} {s : Nat} {post : α → List (List PV) → Prop} (m : Nat) (hΓ : ∀ f C, Γ f = some C → ACok P f C) (hG : ∀ f R, G f = some R → PureOk P f R) (hm : P.follows .mixedOrders = true) {f : FuncId} {fn : Func} {code : Code} (rs : List ResultVar) (hf : P.funcs[f]? = some fn) (hb : fn.body = some code) (hrs : fn.results.toList = rs) (hN : codeN fn.ntmps code = true)
    (hname : (fn.name == "runtime.NumGoroutine") = false) (hl : ∀ x, (args x).length = m) (hle : Nat.ble m fn.ntmps = true) (hca : ∀ x, nmbL 0 (args x) = true) (hpl : ∀ x es, post x es → es.all (·.all plainU) = true)
    (h : ∀ x K, pre x → (∀ es, post x es → K es) → awp P G Γ 0 code (FinM P rs K e s) (entry (args x) (fun _ => none) 0)) : ACok P f (newL e s args pre post) := by
  subst hrs
  refine ⟨⟨fn, hf, by rw [hb]; rfl, hname⟩, fun c mem n as vs K hI hn hr hC => ?_⟩
  obtain ⟨x, hx, hp, hK⟩ := hC
  have hr1 : RepL (as.map (resT mem)) (c.lent mem) vs := repL_mapC _ (fun u hu v hv => rep_lent hI hv) hr
  rw [hx] at hr1
  have hfz := lent_fz hI
  have hI0 : InvM (c.lent mem).data (fun _ => none) := InvM.none_ ⟨hfz.lt, hfz.glob⟩
  have hn0 : Names (c.lent mem).data 0 := ⟨fun _ _ => rfl, fun _ _ h => by cases h⟩
  have hcall := calls_of_body hΓ hG hm hf hb hN hI0 hn0 (hr1.to_data (hca x)) (by rw [hl]; exact Nat.le_of_ble_eq_true hle) (K := fun r mem _ => (∃ j es, r = .own j ∧ mem j = some (.row e s es) ∧ post x es) ∨ (r = .nil ∧ post x [])) (h x (fun es => post x es) hp (fun _ h => h))
  have hwd : (c.lent mem).data.w = c.w := rfl
  rw [hwd] at hcall
  refine hcall.mono ?_
  rintro e' w' ⟨v, r, c2, m2, k2, rfl, rfl, hpost, st2, hrep⟩
  have hno : ∀ b, ¬ Mine (c.lent mem).data (fun _ => none) b := by rintro b ⟨i, S, mb, h, _⟩; cases h
  have hos : c2.w.os = c.w.os := st2.os
  have htp : c2.w.tape = c.w.tape := st2.tape
  have hou : c2.w.output = c.w.output := st2.output
  have hsz : c.w.heap.size ≤ c2.w.heap.size := st2.size
  have hw : ∀ b, b < c.w.heap.size → c2.w.heap[b]? = c.w.heap[b]? := fun b hb => st2.block b hb (hno b)
  rcases hpost with ⟨j, es, rfl, hj, hpost⟩ | ⟨rfl, hpost⟩
  · obtain ⟨_, S2, g1, _, _⟩ := id st2.inv
    obtain ⟨u, us, hu, hown, hrl, hcs, hS⟩ := g1 j _ hj
    unfold Rep at hrep
    rw [hu] at hrep
    cases hrep
    have hflat := all_flat (hpl x es hpost)
    obtain ⟨c', q1, q2, q3, q4⟩ := new_row hI hn none (w' := c2.w) (v := v) (e := e) (s := s) (es := es) (vs := us) hos htp hou hsz (fun i hi => by cases hi)
      (fun b hb _ => hw b hb) hown (repL_plain hflat hrl) hcs
      (fun b hb => by
        have hmine : Mine c2 m2 b := ⟨j, S2 j, _, hj, g1 j _ hj, by rw [hS]; exact hb⟩
        rcases st2.mine b hmine with h | h
        · exact absurd h (hno b)
        · rw [hwd] at h; exact .inr h)
    exact ⟨v, .own n, c', _, _, rfl, q1, hK es hpost, q2, q3⟩
  · obtain rfl : v = .slice none 0 0 := by unfold Rep at hrep; exact hrep
    obtain ⟨c', q1, q2, q3, q4⟩ := new_row hI hn none (w' := c2.w) (v := .slice none 0 0) (e := e) (s := s) (es := []) (vs := []) hos htp hou hsz (fun i hi => by cases hi)
      (fun b hb _ => hw b hb) ⟨by simp, .inl ⟨rfl, rfl⟩⟩ (by rw [List.flatten_nil, RepL.nil_iff]) ⟨by simp, by simp⟩ (fun b hb => by cases hb)
    exact ⟨_, .own n, c', _, _, rfl, q1, hK [] hpost, q2, q3⟩
end
end Go.Proofs.Ytdedddmnacomfaa
