/- Functions over one lent block, whatever their arguments; a variable that holds a row, as one block. No program. -/
import Derived.Test.YtdedddmnacomfaaZF12

namespace Go.Proofs.Ytdedddmnacomfaa
set_option maxRecDepth 100000
set_option linter.unusedVariables false
set_option linter.unusedSimpArgs false
open Go.RowKit
theorem repL_oneG {c : Cx} {i : Nat} {us : List PV} {vs : List Value} (h : RepL (renL (fun _ => i) us) c vs) (hc : nmbL 1 us = true) : RepL us (c.one i) vs := RepL.nam us hc h
/-- A function over one block, that its arguments name somewhere; it hands back plain data. -/
def locG {α : Type} (args : α → List PV) (B : α → MB) (pre : α → Prop) (post : α → PV → MB → Prop) : AC := fun as mem n K =>
  ∃ x i, as = renL (fun _ => i) (args x) ∧ mem i = some (B x) ∧ pre x ∧ ∀ r b', post x r b' → K r (upd mem i (some b')) n
section
variable {P : Program} {Γ : Ctr} {G : PCtr} {α : Type} {args : α → List PV} {B : α → MB} {pre : α → Prop}
/-- What a call over one block leaves behind. -/
theorem Step.liftV {c : Cx} {mem : Mem} {n i : Nat} {b0 b' : MB} {c2 : Cx} {m2 : Mem} {k2 : Nat} {r : PV} {v' : Value} (hI : InvM c mem) (hn : Names c n) (hi : mem i = some b0) (hb0 : b0.nmb 0 = true)
    (stA : Step (c.one i) (mkM [(0, b0)]) 1 c2 m2 k2) (h0 : m2 0 = some b') (hb2 : b'.nmb 0 = true) (hr0 : r.nmb 0 = true) (hrep2 : Rep r c2 v') :
    Step c mem n ⟨c2.w, c2.fz, c.ρ⟩ (upd mem i (some b')) n ∧ Rep r ⟨c2.w, c2.fz, c.ρ⟩ v' := by
  refine ⟨Step.lift hI hn hi hb0 stA (fun l => if l = i then some 0 else none) ?_ ?_ ?_ (fun _ _ => rfl) (fun l hl => hn.1 l hl) ?_ ?_ (.inl rfl), hrep2.any hr0 rfl rfl⟩
  · intro l a hl
    by_cases e : l = i
    · rw [if_pos e] at hl; cases hl; exact .inl ⟨e, rfl⟩
    · rw [if_neg e] at hl; cases hl
  · intro l l' a hl hl'
    by_cases e : l = i
    · by_cases e' : l' = i
      · rw [e, e']
      · rw [if_neg e'] at hl'; cases hl'
    · rw [if_neg e] at hl; cases hl
  · intro l mb hl
    by_cases e : l = i
    · subst e; rw [upd_same] at hl; cases hl; exact .inl ⟨0, if_pos rfl, h0, hb2⟩
    · rw [upd_other _ _ e] at hl
      refine .inr ⟨if_neg e, e, ?_, hl⟩
      rintro rfl
      exact absurd (name_lt hI hn hl) (Nat.lt_irrefl _)
  · have hin := name_lt hI hn hi
    intro a ha
    rw [if_neg (by omega)] at ha; cases ha
  · intro v hv; rw [hn.1 n (Nat.le_refl _)] at hv; cases hv
theorem locG_ok {post : α → PV → MB → Prop} (m : Nat) (hΓ : ∀ f C, Γ f = some C → ACok P f C) (hG : ∀ f R, G f = some R → PureOk P f R) (hm : P.follows .mixedOrders = true) {f : FuncId} {fn : Func} {code : Code} (rs : List ResultVar) (hf : P.funcs[f]? = some fn) (hb : fn.body = some code) (hrs : fn.results.toList = rs) (hN : codeN fn.ntmps code = true)
    (hname : (fn.name == "runtime.NumGoroutine") = false) (hl : ∀ x, (args x).length = m) (hle : Nat.ble m fn.ntmps = true) (hca : ∀ x, nmbL 1 (args x) = true) (hcb : ∀ x, (B x).nmb 0 = true)
    (h : ∀ x K, pre x → (∀ r b', post x r b' → K r b') → awp P G Γ 1 code (FinV P rs K) (entry (args x) (mkM [(0, B x)]) 1)) : ACok P f (locG args B pre post) := by
  subst hrs
  refine ⟨⟨fn, hf, by rw [hb]; rfl, hname⟩, fun c mem n as vs K hI hn hr hC => ?_⟩
  obtain ⟨x, i, rfl, hi, hp, hK⟩ := hC
  refine (calls_of_body hΓ hG hm hf hb hN (hI.one hi (hcb x)) (Names.one hn) (repL_oneG hr (hca x)) (by rw [hl x]; exact Nat.le_of_ble_eq_true hle) (K := fun r mem _ => (res mem r).nmb 0 = true ∧ 0 ∉ owns r ∧ ∃ b', mem 0 = some b' ∧ b'.nmb 0 = true ∧ post x (res mem r) b') (h x (fun r b' => post x r b') hp (fun _ _ h => h))).mono ?_
  rintro e w' ⟨v', r, c1, m1, k1, rfl, rfl, ⟨hr0, hno, b', hb1, hb2, hpost⟩, st, hrep⟩
  obtain ⟨c2, e1, e2, st2⟩ := Step.frz (owns r) st.inv st.free
  have hrep2 : Rep (res m1 r) c2 v' := rep_res st2.inv (frz_fits m1 (owns r)) (Rep.mono _ st2.le hrep)
  have h0 : frz m1 (owns r) 0 = some b' := by rw [frz_not hno]; exact hb1
  obtain ⟨s1, s2⟩ := Step.liftV hI hn hi (hcb x) (st.trans st2) h0 hb2 hr0 hrep2
  exact ⟨v', _, ⟨c2.w, c2.fz, c.ρ⟩, _, _, rfl, e1, hK _ _ hpost, s1, s2⟩
end
def rowP (e : TypeId) (s : Nat) : OwnP where
  R d w v S := ∃ b t u vs es, d = [.seq es] ∧ v = .pointer (some ⟨b, 0, none⟩) ∧ Blk w b t #[u] ∧ w.ownsRow 0 e s u es.length vs ∧ RepL es.flatten ⟨w, fun _ => False, fun _ => none⟩ vs ∧ cellsOk es s ∧ es.all (·.all plainU) = true ∧ u.ownBlock ≠ some b ∧ u.oneCell' = true ∧ S = fun k => k = b ∨ u.ownBlock = some k
  mono := by
    rintro d w w' v S ⟨b, t, u, vs, es, h1, h2, h3, h4, h5, h6, h7, h8, h9, rfl⟩ hb
    refine ⟨b, t, u, vs, es, h1, h2, (hb b (.inl rfl)).trans h3, ownsRow_block h4 (fun k hk => hb k (.inr hk)), repL_plain ?_ h5, h6, h7, h8, h9, rfl⟩
    rw [List.all_eq_true] at h7 ⊢
    intro u hu
    obtain ⟨l, hl, hul⟩ := List.mem_flatten.1 hu
    exact List.all_eq_true.1 (h7 l hl) u hul
  lt := by
    rintro d w v S k ⟨b, t, u, vs, es, h1, h2, h3, h4, h5, h6, h7, h8, h9, rfl⟩ hk
    rcases hk with rfl | hk
    · exact h3.lt
    · exact ownBlock_lt h4 hk
  det := by
    rintro d w v S S' ⟨b, t, u, vs, es, h1, h2, h3, h4, h5, h6, h7, h8, h9, rfl⟩ ⟨b', t', u', vs', es', h1', h2', h3', h4', h5', h6', h7', h8', h9', rfl⟩
    rw [h2] at h2'
    injection h2' with e; injection e with e; injection e with e
    subst e
    have e3 : w.heap[b]? = _ := h3
    have e3' : w.heap[b]? = _ := h3'
    rw [e3] at e3'
    simp only [Option.some.injEq, Obj.cells.injEq] at e3'
    have : u = u' := by have := e3'.1; simpa using this
    rw [this]
theorem all_flat {es : List (List PV)} (h : es.all (·.all plainU) = true) : es.flatten.all plainU = true := by
  rw [List.all_eq_true] at h ⊢
  intro u hu
  obtain ⟨l, hl, hul⟩ := List.mem_flatten.1 hu
  exact List.all_eq_true.1 (h l hl) u hul
/-- A step that changes no world: other names, other groups. -/
theorem Step.re {c : Cx} {ρ' : Nat → Option Value} {mem mem' : Mem} {n n' : Nat} (hn : Names c n) (hI' : InvM ⟨c.w, c.fz, ρ'⟩ mem') (hρ : ∀ j, j < n → ρ' j = c.ρ j) (hn' : Names ⟨c.w, c.fz, ρ'⟩ n') (hle : n ≤ n')
    (hm : ∀ b, Mine ⟨c.w, c.fz, ρ'⟩ mem' b → Mine c mem b) : Step c mem n ⟨c.w, c.fz, ρ'⟩ mem' n' :=
  ⟨hI', ⟨fun _ h => h, fun _ _ _ => rfl, fun i v hi => by
    have hlt : i < n := Nat.lt_of_not_le fun hh => by rw [hn.1 i hh] at hi; cases hi
    show ρ' i = some v
    rw [hρ i hlt]; exact hi⟩, rfl, rfl, rfl, Nat.le_refl _, fun _ _ _ => rfl, fun b hb => .inl (hm b hb), fun b hb => .inl hb, hle, fun i hi => hρ i hi, hn'⟩
/-- The block is seen as a variable and its row. -/
theorem Step.openR {c : Cx} {mem : Mem} {n i : Nat} {e : TypeId} {s : Nat} {es : List (List PV)} (hI : InvM c mem) (hn : Names c n) (hi : mem i = some (.gen (rowP e s) [.seq es])) :
    ∃ ρ', Step c mem n ⟨c.w, c.fz, ρ'⟩ (upd (upd mem i (some (.box [.own n]))) n (some (.row e s es))) (n + 1) := by
  have hin := name_lt hI hn hi
  obtain ⟨hf, S, h1, h2, h3⟩ := id hI
  obtain ⟨v, hv, b, t, u, vs, es', g1, g2, g3, g4, g5, g6, g7, g8, g9, gS⟩ := h1 i _ hi
  simp only [List.cons.injEq, PV.seq.injEq, and_true] at g1
  subst g1
  let ρ' := upd c.ρ n (some u)
  have hρ : ∀ j, j < n → ρ' j = c.ρ j := fun j hj => upd_other _ _ (by omega)
  have hnn : ρ' n = some u := upd_same _ _ _
  have hle : c.Le ⟨c.w, c.fz, ρ'⟩ := ⟨fun _ h => h, fun _ _ _ => rfl, fun j v hj => by
    have hlt : j < n := Nat.lt_of_not_le fun hh => by rw [hn.1 j hh] at hj; cases hj
    show ρ' j = some v
    rw [hρ j hlt]; exact hj⟩
  let S' : Nat → Nat → Prop := fun j => if j = n then (fun k => u.ownBlock = some k) else if j = i then (· = b) else S j
  have hSi : ∀ k, S i k ↔ k = b ∨ u.ownBlock = some k := fun k => by rw [gS]
  have hmi : mem i ≠ none := by simp [hi]
  have hrep : ∀ j mb, upd (upd mem i (some (.box [.own n]))) n (some (.row e s es)) j = some mb → MRep ⟨c.w, c.fz, ρ'⟩ j (S' j) mb := by
    intro j mb hj
    simp only [upd] at hj
    by_cases ej : j = n
    · rw [if_pos ej] at hj; cases hj
      simp only [S', if_pos ej]
      exact ⟨u, vs, by rw [ej]; exact hnn, g4, repL_plain (all_flat g7) g5, g6, rfl⟩
    · rw [if_neg ej] at hj
      simp only [S', if_neg ej]
      by_cases ei : j = i
      · rw [if_pos ei] at hj; cases hj
        rw [if_pos ei]
        refine ⟨b, t, #[u], by show ρ' j = _; rw [ei, hρ i hin, hv, g2], g3, ?_, rfl⟩
        rw [RepL.cons_iff]
        exact ⟨u, [], rfl, by unfold Rep; exact hnn, RepL.nil_iff.2 rfl⟩
      · rw [if_neg ei] at hj ⊢
        exact MRep.mono hle (fun _ _ => rfl) (h1 j mb hj)
  have hkeep : ∀ j, j ≠ n → j ≠ i → upd (upd mem i (some (.box [.own n]))) n (some (.row e s es)) j ≠ none → mem j ≠ none := by
    intro j e1 e2 h
    rwa [upd_other _ _ e1, upd_other _ _ e2] at h
  have hub : ∀ k, u.ownBlock = some k → k ≠ b := fun k hk e => g8 (by rw [hk, e])
  refine ⟨ρ', Step.re hn ⟨hf.mono hle hf.lt, S', hrep, ?_, ?_⟩ hρ ⟨fun j hj => by show upd _ _ _ _ = _; rw [upd_other _ _ (by omega)]; exact hn.1 j (by omega), fun j v hj => ?_⟩ (by omega) ?_⟩
  · intro j l k hj hl hne hjk hlk
    simp only [S'] at hjk hlk
    by_cases e1 : j = n
    · rw [if_pos e1] at hjk
      by_cases e2 : l = n
      · exact hne (e1.trans e2.symm)
      rw [if_neg e2] at hlk
      by_cases e3 : l = i
      · rw [if_pos e3] at hlk; exact hub k hjk hlk
      · rw [if_neg e3] at hlk
        exact h2 l i k (hkeep l e2 e3 hl) hmi e3 hlk ((hSi k).2 (.inr hjk))
    · rw [if_neg e1] at hjk
      by_cases e2 : j = i
      · rw [if_pos e2] at hjk
        by_cases e3 : l = n
        · rw [if_pos e3] at hlk; exact hub k hlk hjk
        rw [if_neg e3] at hlk
        by_cases e4 : l = i
        · exact hne (e2.trans e4.symm)
        · rw [if_neg e4] at hlk
          exact h2 l i k (hkeep l e3 e4 hl) hmi e4 hlk ((hSi k).2 (.inl hjk))
      · rw [if_neg e2] at hjk
        have hmj := hkeep j e1 e2 hj
        by_cases e3 : l = n
        · rw [if_pos e3] at hlk
          exact h2 j i k hmj hmi e2 hjk ((hSi k).2 (.inr hlk))
        rw [if_neg e3] at hlk
        by_cases e4 : l = i
        · rw [if_pos e4] at hlk
          exact h2 j i k hmj hmi e2 hjk ((hSi k).2 (.inl hlk))
        · rw [if_neg e4] at hlk
          exact h2 j l k hmj (hkeep l e3 e4 hl) hne hjk hlk
  · intro j k hj hjk
    simp only [S'] at hjk
    by_cases e1 : j = n
    · rw [if_pos e1] at hjk; exact h3 i k hmi ((hSi k).2 (.inr hjk))
    rw [if_neg e1] at hjk
    by_cases e2 : j = i
    · rw [if_pos e2] at hjk; exact h3 i k hmi ((hSi k).2 (.inl hjk))
    · rw [if_neg e2] at hjk; exact h3 j k (hkeep j e1 e2 hj) hjk
  · have hj' : upd c.ρ n (some u) j = some v := hj
    simp only [upd] at hj'
    split at hj'
    · cases hj'; exact g9
    · exact hn.2 j v hj'
  · rintro k ⟨j, U, mb, hj, hR, hU⟩
    have := MRep.det hR (hrep j mb hj)
    subst this
    simp only [S'] at hU
    by_cases e1 : j = n
    · rw [if_pos e1] at hU; exact ⟨i, S i, _, hi, h1 i _ hi, (hSi k).2 (.inr hU)⟩
    rw [if_neg e1] at hU
    by_cases e2 : j = i
    · rw [if_pos e2] at hU; exact ⟨i, S i, _, hi, h1 i _ hi, (hSi k).2 (.inl hU)⟩
    · rw [if_neg e2] at hU
      rw [upd_other _ _ e1, upd_other _ _ e2] at hj
      exact ⟨j, S j, mb, hj, h1 j mb hj, hU⟩
/-- .. and the other way. -/
theorem Step.closeR {c : Cx} {mem : Mem} {n i j : Nat} {e : TypeId} {s : Nat} {es : List (List PV)} (hI : InvM c mem) (hn : Names c n) (hi : mem i = some (.box [.own j])) (hj : mem j = some (.row e s es)) (hp : es.all (·.all plainU) = true) :
    Step c mem n ⟨c.w, c.fz, c.ρ⟩ (upd (upd mem j none) i (some (.gen (rowP e s) [.seq es]))) n := by
  obtain ⟨hf, S, h1, h2, h3⟩ := id hI
  have hmi : mem i ≠ none := by simp [hi]
  have hmj : mem j ≠ none := by simp [hj]
  have hij : i ≠ j := fun h => by rw [h, hj] at hi; cases hi
  obtain ⟨b, t, us, a1, a2, a3, a4⟩ := h1 i _ hi
  obtain ⟨u, vs, b1, b2, b3, b4, b5⟩ := h1 j _ hj
  obtain ⟨x, xs, ex, hx, hxs⟩ := RepL.cons_iff.1 a3
  rw [RepL.nil_iff] at hxs
  subst hxs
  unfold Rep at hx
  rw [b1] at hx
  cases hx
  have eus : us = #[u] := by cases us; simp at ex; simp [ex]
  subst eus
  let S' : Nat → Nat → Prop := fun l => if l = i then (fun k => k = b ∨ u.ownBlock = some k) else S l
  have hne : u.ownBlock ≠ some b := fun h => h2 i j b hmi hmj hij (by rw [a4]) (by rw [b5]; exact h)
  have hrep : ∀ l mb, upd (upd mem j none) i (some (.gen (rowP e s) [.seq es])) l = some mb → MRep ⟨c.w, c.fz, c.ρ⟩ l (S' l) mb := by
    intro l mb hl
    simp only [upd] at hl
    by_cases e1 : l = i
    · rw [if_pos e1] at hl; cases hl
      simp only [S', if_pos e1]
      exact ⟨_, by show c.ρ l = _; rw [e1]; exact a1, b, t, u, vs, es, rfl, rfl, a2, b2, repL_plain (all_flat hp) b3, b4, hp, hne, hn.2 j u b1, rfl⟩
    · rw [if_neg e1] at hl
      by_cases e2 : l = j
      · rw [if_pos e2] at hl; cases hl
      · rw [if_neg e2] at hl
        simp only [S', if_neg e1]
        exact h1 l mb hl
  have hkeep : ∀ l, l ≠ i → upd (upd mem j none) i (some (.gen (rowP e s) [.seq es])) l ≠ none → l ≠ j ∧ mem l ≠ none := by
    intro l e1 hl
    rw [upd_other _ _ e1] at hl
    by_cases e2 : l = j
    · rw [e2, upd_same] at hl; exact absurd rfl hl
    · rw [upd_other _ _ e2] at hl; exact ⟨e2, hl⟩
  have hcase : ∀ l k, l ≠ i → l ≠ j → mem l ≠ none → S l k → ¬ (k = b ∨ u.ownBlock = some k) := by
    rintro l k e1 e2 hl hk (h | h)
    · exact h2 l i k hl hmi e1 hk (by rw [a4]; exact h)
    · exact h2 l j k hl hmj e2 hk (by rw [b5]; exact h)
  refine Step.re hn ⟨⟨hf.lt, hf.glob⟩, S', hrep, ?_, ?_⟩ (fun _ _ => rfl) hn (Nat.le_refl _) ?_
  · intro l l' k hl hl' hne' hk hk'
    simp only [S'] at hk hk'
    by_cases e1 : l = i
    · rw [if_pos e1] at hk
      have e2 : l' ≠ i := fun h => hne' (e1.trans h.symm)
      rw [if_neg e2] at hk'
      obtain ⟨f1, f2⟩ := hkeep l' e2 hl'
      exact hcase l' k e2 f1 f2 hk' hk
    · rw [if_neg e1] at hk
      obtain ⟨f1, f2⟩ := hkeep l e1 hl
      by_cases e2 : l' = i
      · rw [if_pos e2] at hk'; exact hcase l k e1 f1 f2 hk hk'
      · rw [if_neg e2] at hk'
        obtain ⟨f3, f4⟩ := hkeep l' e2 hl'
        exact h2 l l' k f2 f4 hne' hk hk'
  · intro l k hl hk
    simp only [S'] at hk
    by_cases e1 : l = i
    · rw [if_pos e1] at hk
      rcases hk with h | h
      · exact h3 i k hmi (by rw [a4]; exact h)
      · exact h3 j k hmj (by rw [b5]; exact h)
    · rw [if_neg e1] at hk
      exact h3 l k (hkeep l e1 hl).2 hk
  · rintro k ⟨l, U, mb, hl, hR, hU⟩
    have := MRep.det hR (hrep l mb hl)
    subst this
    simp only [S'] at hU
    by_cases e1 : l = i
    · rw [if_pos e1] at hU
      rcases hU with h | h
      · exact ⟨i, S i, _, hi, h1 i _ hi, by rw [a4]; exact h⟩
      · exact ⟨j, S j, _, hj, h1 j _ hj, by rw [b5]; exact h⟩
    · rw [if_neg e1] at hU
      rw [upd_other _ _ e1] at hl
      by_cases e2 : l = j
      · rw [e2, upd_same] at hl; cases hl
      · rw [upd_other _ _ e2] at hl
        exact ⟨l, S l, mb, hl, h1 l mb hl, hU⟩
section
variable {P : Program} {Γ : Ctr} {G : PCtr} {α : Type} {args : α → List PV} {B : α → List (List PV)} {pre : α → Prop}
/-- At the end: the variable holds a row, and the result is plain. -/
def FinB (P : Program) (rs : List ResultVar) (K : PV → List (List PV) → Prop) (e : TypeId) (s : Nat) : AX → AS → Prop := Fin P rs fun r mem _ => plainV r = true ∧ ∃ k es, mem 0 = some (.box [.own k]) ∧ mem k = some (.row e s es) ∧ es.all (·.all plainU) = true ∧ K r es
theorem fin_B {rs : List ResultVar} {σ : AS} {K : PV → List (List PV) → Prop} {e : TypeId} {s : Nat} (h : aRes P σ rs fun us => plainV (packR us) = true ∧ ∃ k es, σ.mem 0 = some (.box [.own k]) ∧ σ.mem k = some (.row e s es) ∧ es.all (·.all plainU) = true ∧ K (packR us) es) : FinB P rs K e s .ret σ := h
theorem fin_Be {rs : List ResultVar} {σ : AS} {K : PV → List (List PV) → Prop} {e : TypeId} {s : Nat} (h : aRes P σ rs fun us => plainV (packR us) = true ∧ ∃ k es, σ.mem 0 = some (.box [.own k]) ∧ σ.mem k = some (.row e s es) ∧ es.all (·.all plainU) = true ∧ K (packR us) es) : FinB P rs K e s .normal σ := h
theorem plain_nmb {r : PV} (h : plainV r = true) : r.nmb 0 = true ∧ owns r = [] ∧ ∀ m : Mem, res m r = r := by
  have hu : ∀ u : PV, plainU u = true → u.nmb 0 = true ∧ ownsC u = [] ∧ owns1 u = [] ∧ (∀ m : Mem, resC m u = u) ∧ ∀ m : Mem, res1 m u = u := by
    intro u h
    cases u <;> simp [plainU] at h <;> exact ⟨rfl, rfl, rfl, fun _ => rfl, fun _ => rfl⟩
  have hl : ∀ us : List PV, us.all plainU = true → nmbL 0 us = true ∧ us.flatMap ownsC = [] ∧ us.flatMap owns1 = [] ∧ (∀ m : Mem, us.map (resC m) = us) ∧ ∀ m : Mem, us.map (res1 m) = us := by
    intro us
    induction us with
    | nil => intro _; exact ⟨rfl, rfl, rfl, fun _ => rfl, fun _ => rfl⟩
    | cons u us ih =>
      intro h
      simp only [List.all_cons, Bool.and_eq_true] at h
      obtain ⟨a1, a2, a3, a4, a5⟩ := hu u h.1
      obtain ⟨b1, b2, b3, b4, b5⟩ := ih h.2
      exact ⟨by simp [nmbL, a1, b1], by simp [a2, b2], by simp [a3, b3], fun m => by simp [a4 m, b4 m], fun m => by simp [a5 m, b5 m]⟩
  cases r with
  | agg cs =>
    obtain ⟨b1, b2, b3, b4, b5⟩ := hl cs h
    exact ⟨by simpa [PV.nmb] using b1, by simpa [owns, owns1] using b2, fun m => by simp [res, res1, b4 m]⟩
  | tup cs =>
    obtain ⟨b1, b2, b3, b4, b5⟩ := hl cs h
    exact ⟨by simpa [PV.nmb] using b1, by simpa [owns] using b3, fun m => by simp [res, b5 m]⟩
  | int => exact ⟨rfl, rfl, fun _ => rfl⟩
  | bool => exact ⟨rfl, rfl, fun _ => rfl⟩
  | str => exact ⟨rfl, rfl, fun _ => rfl⟩
  | _ => simp [plainV, plainU] at h
/-- A function over a variable that holds a row. -/
theorem locB_ok {e : TypeId} {s : Nat} {post : α → PV → List (List PV) → Prop} (m : Nat) (hΓ : ∀ f C, Γ f = some C → ACok P f C) (hG : ∀ f R, G f = some R → PureOk P f R) (hm : P.follows .mixedOrders = true) {f : FuncId} {fn : Func} {code : Code} (rs : List ResultVar) (hf : P.funcs[f]? = some fn) (hb : fn.body = some code) (hrs : fn.results.toList = rs) (hN : codeN fn.ntmps code = true)
    (hname : (fn.name == "runtime.NumGoroutine") = false) (hl : ∀ x, (args x).length = m) (hle : Nat.ble m fn.ntmps = true) (hca : ∀ x, nmbL 1 (args x) = true)
    (h : ∀ x K, pre x → (∀ r es, post x r es → K r es) → awp P G Γ 2 code (FinB P rs K e s) (entry (args x) (mkM [(1, .row e s (B x)), (0, .box [.own 1])]) 2)) :
    ACok P f (locG args (fun x => .gen (rowP e s) [.seq (B x)]) pre (fun x r b' => ∃ es, b' = .gen (rowP e s) [.seq es] ∧ post x r es)) := by
  subst hrs
  refine ⟨⟨fn, hf, by rw [hb]; rfl, hname⟩, fun c mem n as vs K hI hn hr hC => ?_⟩
  obtain ⟨x, i, rfl, hi, hp, hK⟩ := hC
  have hI1 := hI.one hi rfl
  have hn1 : Names (c.one i) 1 := Names.one hn
  obtain ⟨ρ', st1⟩ := Step.openR (i := 0) (e := e) (s := s) (es := B x) hI1 hn1 (upd_same _ _ _)
  have hmem : upd (upd (mkM [(0, .gen (rowP e s) [.seq (B x)])]) 0 (some (.box [.own 1]))) 1 (some (.row e s (B x))) = mkM [(1, .row e s (B x)), (0, .box [.own 1])] := by
    funext j
    simp only [mkM, upd]
    by_cases e1 : j = 1
    · simp [e1]
    · by_cases e2 : j = 0 <;> simp [e1, e2]
  rw [hmem] at st1
  have hr1 : RepL (args x) ⟨(c.one i).w, (c.one i).fz, ρ'⟩ vs := RepL.mono _ st1.le (repL_oneG hr (hca x))
  refine (calls_of_body hΓ hG hm hf hb hN st1.inv st1.free hr1 (by rw [hl x]; exact Nat.le_of_ble_eq_true hle) (K := fun r mem _ => plainV r = true ∧ ∃ k es, mem 0 = some (.box [.own k]) ∧ mem k = some (.row e s es) ∧ es.all (·.all plainU) = true ∧ post x r es) (h x (fun r es => post x r es) hp (fun _ _ h => h))).mono ?_
  rintro e' w' ⟨v', r, c1, m1, k1, rfl, rfl, ⟨hpl, k, es, hb0, hbk, hall, hpost⟩, st, hrep⟩
  obtain ⟨p1, p2, p3⟩ := plain_nmb hpl
  have st3 := Step.closeR st.inv st.free hb0 hbk hall
  have stA := (st1.trans st).trans st3
  obtain ⟨s1, s2⟩ := Step.liftV hI hn hi rfl stA (upd_same _ _ _) rfl p1 (Rep.mono _ st3.le hrep)
  exact ⟨v', r, ⟨c1.w, c1.fz, c.ρ⟩, _, _, rfl, rfl, hK r _ ⟨es, rfl, hpost⟩, s1, s2⟩
end
/-- A function over such a block, called where the variable and its row are seen. -/
def seenR (e : TypeId) (s : Nat) (C : AC) : AC := fun as mem n K =>
  ∃ i j es, mem i = some (.box [.own j]) ∧ mem j = some (.row e s es) ∧ es.all (·.all plainU) = true ∧
    C as (upd (upd mem j none) i (some (.gen (rowP e s) [.seq es]))) n fun r m1 n1 => ∃ es', m1 i = some (.gen (rowP e s) [.seq es']) ∧ K r (upd (upd m1 i (some (.box [.own n1]))) n1 (some (.row e s es'))) (n1 + 1)
theorem seenR_ok {P : Program} {f : FuncId} {e : TypeId} {s : Nat} {C : AC} (h : ACok P f C) : ACok P f (seenR e s C) := by
  refine ⟨h.fn, fun c mem n as vs K hI hn hr hC => ?_⟩
  obtain ⟨i, j, es, hi, hj, hp, hC⟩ := hC
  have st1 := Step.closeR hI hn hi hj hp
  refine (h.run _ _ n as vs _ st1.inv st1.free (RepL.mono _ st1.le hr) hC).mono ?_
  rintro e' w' ⟨v', r, c1, m1, k1, rfl, rfl, ⟨es', hi', hK⟩, st, hrep⟩
  obtain ⟨ρ', st2⟩ := Step.openR st.inv st.free hi'
  exact ⟨v', r, ⟨c1.w, c1.fz, ρ'⟩, _, _, rfl, rfl, hK, (st1.trans st).trans st2, Rep.mono _ st2.le hrep⟩
end Go.Proofs.Ytdedddmnacomfaa

/- A box of plain data is frozen; closures that lent blocks stand in: contracts in other words. No program. -/
namespace Go.Proofs.Ytdedddmnacomfaa
set_option maxRecDepth 100000
set_option linter.unusedVariables false
set_option linter.unusedSimpArgs false
open Go.RowKit
theorem plain_cell {u : PV} (h : plainU u = true) : u.isCell = true := by
  cases u <;> simp [plainU] at h <;> rfl
theorem InvM.frzBox {c : Cx} {mem : Mem} {i : Nat} {cs : List PV} (h : InvM c mem) (hm : mem i = some (.box cs)) (hp : cs.all plainU = true) :
    ∃ g, c.ρ i = some (.pointer (some ⟨g, 0, none⟩)) ∧ InvM ⟨c.w, fun b => c.fz b ∨ b = g, c.ρ⟩ (upd mem i none) ∧ c.Le ⟨c.w, fun b => c.fz b ∨ b = g, c.ρ⟩ ∧
      RepA cs (Cx.data ⟨c.w, fun b => c.fz b ∨ b = g, c.ρ⟩) g 0 ∧ Mine c mem g ∧
      ∀ b, Mine ⟨c.w, fun b => c.fz b ∨ b = g, c.ρ⟩ (upd mem i none) b → Mine c mem b := by
  obtain ⟨hf, S, h1, h2, h3⟩ := h
  obtain ⟨g, t, vs, hv, hb, hr, hS⟩ := h1 i _ hm
  have hmi : mem i ≠ none := by simp [hm]
  have hle : c.Le ⟨c.w, fun b => c.fz b ∨ b = g, c.ρ⟩ := ⟨fun _ h => .inl h, fun _ _ _ => rfl, fun _ _ h => h⟩
  have hne : ∀ j, upd mem i none j ≠ none → j ≠ i ∧ mem j ≠ none := by
    intro j hj
    by_cases e : j = i
    · rw [e, upd_same] at hj; exact absurd rfl hj
    · rw [upd_other _ _ e] at hj; exact ⟨e, hj⟩
  refine ⟨g, hv, ⟨⟨?_, fun g' hg => ⟨.inl (hf.glob g' hg).1, (hf.glob g' hg).2⟩⟩, S, ?_, ?_, ?_⟩, hle, ?_, ⟨i, S i, _, hm, h1 i _ hm, by rw [hS]⟩, ?_⟩
  · rintro b (hb' | rfl)
    · exact hf.lt b hb'
    · exact Blk.lt hb
  · intro j mb hj
    have hji : j ≠ i := by rintro rfl; rw [upd_same] at hj; cases hj
    rw [upd_other _ _ hji] at hj
    exact MRep.mono hle (fun _ _ => rfl) (h1 j mb hj)
  · intro j l b hj hl hjl hb'
    exact h2 j l b (hne j hj).2 (hne l hl).2 hjl hb'
  · rintro j b hj hb' (hz | rfl)
    · exact h3 j b (hne j hj).2 hb' hz
    · exact h2 j i b (hne j hj).2 hmi (hne j hj).1 hb' (by rw [hS])
  · refine RepA.of_vals (repL_plain hp hr) (fun j u hj => ?_) (fun u hu => plain_cell (List.all_eq_true.1 hp u hu))
    show c.w.cell? ⟨g, 0 + j, none⟩ = some u
    rw [Nat.zero_add, Blk.cell hb]
    simpa using hj
  · rintro b ⟨k, T, mb, hk, hT, hb'⟩
    have ek : k ≠ i := by rintro rfl; rw [upd_same] at hk; cases hk
    rw [upd_other _ _ ek] at hk
    have e := MRep.det hT (MRep.mono hle (fun _ _ => rfl) (h1 k mb hk))
    subst e
    exact ⟨k, _, mb, hk, h1 k mb hk, hb'⟩
theorem Step.frzBox {c : Cx} {mem : Mem} {n i : Nat} {cs : List PV} (hI : InvM c mem) (hn : Names c n) (hm : mem i = some (.box cs)) (hp : cs.all plainU = true) :
    ∃ c', c'.w = c.w ∧ Step c mem n c' (upd mem i none) n ∧ ∀ v, Rep (.ref i 0) c v → Rep (.eref cs) c' v := by
  obtain ⟨g, hv, hI', hle, hA, hmine, hm2⟩ := hI.frzBox hm hp
  refine ⟨⟨c.w, fun b => c.fz b ∨ b = g, c.ρ⟩, rfl, ⟨hI', hle, rfl, rfl, rfl, Nat.le_refl _, fun _ _ _ => rfl, fun b hb => .inl (hm2 b hb), fun b hb => hb.imp id (fun hb => .inl (by rw [hb]; exact hmine)), Nat.le_refl _, fun _ _ => rfl, hn⟩, fun v hr => ?_⟩
  unfold Rep at hr
  obtain ⟨u, b, hu, hb, rfl⟩ := hr
  rw [hv] at hu
  cases hu
  simp only [baseOf, Option.some.injEq] at hb
  subst hb
  unfold Rep
  exact ⟨g, 0, rfl, .inr rfl, hA⟩
theorem ACok.via {P : Program} {f : FuncId} {C C' : AC} (h : ACok P f C) (hc : ∀ args mem n K, C' args mem n K → C args mem n K) : ACok P f C' :=
  ⟨h.fn, fun c mem n args vs K hI hn hr hC => h.run c mem n args vs K hI hn hr (hc args mem n K hC)⟩
/-- Never called. -/
theorem locG_never {P : Program} {f : FuncId} {α : Type} {args : α → List PV} {B : α → MB} {pre : α → Prop} {post : α → PV → MB → Prop} (hf : ∃ fn, P.funcs[f]? = some fn ∧ fn.body.isNone = false ∧ (fn.name == "runtime.NumGoroutine") = false) (h : ∀ x, ¬ pre x) : ACok P f (locG args B pre post) :=
  ⟨hf, fun c mem n as vs K hI hn hr hC => by
    obtain ⟨x, i, _, _, hp, _⟩ := hC
    exact absurd hp (h x)⟩
end Go.Proofs.Ytdedddmnacomfaa

/- Texts as data: what the program's and the reference's functions on texts compute. No program. -/
namespace Go.Proofs.Ytdedddmnacomfaa
set_option maxRecDepth 100000
set_option linter.unusedVariables false
set_option linter.unusedSimpArgs false
abbrev Bs := List UInt8
def ofI (x : Int) : UInt8 := UInt8.ofNat x.toNat
@[go_sem] theorem ofI_nat (b : UInt8) : ofI (b.toNat : Int) = b := by unfold ofI; simp
theorem byte_of {x : Int} (h0 : 0 ≤ x) (h1 : x < 256) : ∃ b : UInt8, x = (b.toNat : Int) := by
  refine ⟨UInt8.ofNat x.toNat, ?_⟩
  have h : x.toNat < 256 := by omega
  rw [UInt8.toNat_ofNat_of_lt' h]
  omega
/-- What holds of all bytes may be tried. -/
theorem all_bytes {p : UInt8 → Prop} (h : ∀ n, n < 256 → p (UInt8.ofNat n)) (b : UInt8) : p b := by
  have := h b.toNat b.toNat_lt
  rwa [UInt8.ofNat_toNat] at this
theorem getD_lt {s : Bs} {k : Nat} (h : k < s.length) : s.getD k 0 = s[k] := by simp [List.getD_eq_getElem?_getD, List.getElem?_eq_getElem h]
theorem take_succ_getD {s : Bs} {k : Nat} (h : k < s.length) : s.take (k + 1) = s.take k ++ [s.getD k 0] := by
  rw [List.take_succ_eq_append_getElem h, getD_lt h]
theorem drop_getD {s : Bs} {k : Nat} (h : k < s.length) : s.drop k = s.getD k 0 :: s.drop (k + 1) := by
  rw [getD_lt h]; exact List.drop_eq_getElem_cons h
theorem map_snoc {g : UInt8 → UInt8} {s : Bs} {k : Nat} (h : k < s.length) : (s.take (k + 1)).map g = (s.take k).map g ++ [g (s.getD k 0)] := by
  rw [take_succ_getD h, List.map_append]; simp
theorem bc_inj {a b : UInt8} (h : bc a = bc b) : a = b := by
  simp only [bc, List.cons.injEq, PV.int.injEq, true_and, and_true] at h
  exact UInt8.toNat_inj.1 (by omega)
@[go_sem] theorem bc_map_inj {l m : Bs} : l.map bc = m.map bc ↔ l = m := List.map_inj_right (fun _ _ h => bc_inj h)
@[go_sem] theorem bc_one {b : UInt8} {l : Bs} : [[PV.int .u8 (b.toNat : Int)]] = l.map bc ↔ [b] = l := by
  rw [show [[PV.int .u8 (b.toNat : Int)]] = [b].map bc from rfl, bc_map_inj]
@[go_sem] theorem bc_snoc {b : UInt8} {m l : Bs} : m.map bc ++ [[PV.int .u8 (b.toNat : Int)]] = l.map bc ↔ m ++ [b] = l := by
  rw [show m.map bc ++ [[PV.int .u8 (b.toNat : Int)]] = (m ++ [b]).map bc by simp [bc], bc_map_inj]
@[go_sem] theorem bc_len (b : UInt8) : (bc b).length = 1 := rfl
@[go_sem] theorem bc_all (m : Bs) : ∀ z ∈ m.map bc, z.length = 1 := by
  intro z hz
  obtain ⟨b, _, rfl⟩ := List.mem_map.1 hz
  rfl
def isLet (b : UInt8) : Bool := decide ((97 ≤ b.toNat ∧ b.toNat ≤ 122) ∨ (65 ≤ b.toNat ∧ b.toNat ≤ 90))
def isDig (b : UInt8) : Bool := decide (48 ≤ b.toNat ∧ b.toNat ≤ 57)
def hasB (s : Bs) (b : UInt8) : Bool := s.any fun c => decide (c.toNat = b.toNat)
theorem hasB_snoc {s : Bs} {k : Nat} {b : UInt8} (h : k < s.length) : hasB (s.take (k + 1)) b = (hasB (s.take k) b || decide ((s.getD k 0).toNat = b.toNat)) := by
  unfold hasB; rw [take_succ_getD h, List.any_append]; simp
theorem hasB_at {s : Bs} {k : Nat} {b : UInt8} (h : k < s.length) (e : (s.getD k 0).toNat = b.toNat) : hasB s b = true := by
  unfold hasB; rw [List.any_eq_true]
  exact ⟨s[k], List.getElem_mem h, by rw [getD_lt h] at e; simpa using e⟩
def low1 (b : UInt8) : UInt8 := if 65 ≤ b.toNat ∧ b.toNat ≤ 90 then UInt8.ofNat (b.toNat + 32) else b
theorem low1_nat (b : UInt8) : (low1 b).toNat = if 65 ≤ b.toNat ∧ b.toNat ≤ 90 then b.toNat + 32 else b.toNat := by
  unfold low1
  split
  · rw [UInt8.toNat_ofNat_of_lt' (by show b.toNat + 32 < 256; omega)]
  · rfl
def lowS (s : Bs) : Bs := s.map low1
theorem prefix_iff {p s : Bs} : p.isPrefixOf s = decide (p.length ≤ s.length ∧ s.take p.length = p) := by
  rw [Bool.eq_iff_iff, List.isPrefixOf_iff_prefix, decide_eq_true_iff]
  constructor
  · intro h; exact ⟨h.length_le, (List.prefix_iff_eq_take.1 h).symm⟩
  · rintro ⟨_, h⟩; rw [← h]; exact List.take_prefix _ _
end Go.Proofs.Ytdedddmnacomfaa
