/- Code: the abstract reading of code, and that the model does what it says; functions that only compute. -/
import Derived.Test.YtnbjogilidfkdaaWFY

namespace Go.Proofs.Ytnbjogilidfkdaa
set_option maxRecDepth 100000
set_option linter.unusedVariables false
set_option linter.unusedSimpArgs false
open Go.RowKit
inductive AX where
  | normal
  | exit (id : Nat)
  | ret
def AX.then (next : AS → Prop) (Q : AX → AS → Prop) : AX → AS → Prop
  | .normal, σ => next σ
  | e, σ => Q e σ
def AX.inBlock (id : Nat) (Q : AX → AS → Prop) : AX → AS → Prop
  | .exit id', σ => (id' = id → Q .normal σ) ∧ (id' ≠ id → Q (.exit id') σ)
  | e, σ => Q e σ
def aCond (t : PV) (p q : Prop) : Prop := match t with
  | .bool b => (b = true → p) ∧ (b = false → q)
  | _ => False
def mkT : List (Nat × PV) → Nat → PV
  | [] => fun _ => .undef
  | (j, u) :: r => upd (mkT r) j u
def mkM : List (Nat × MB) → Mem
  | [] => fun _ => none
  | (i, b) :: r => upd (mkM r) i (some b)
def fitsT (tmp : Nat → PV) (nx : Nat) : List (Nat × PV) → Prop
  | [] => True
  | (j, u) :: r => tmp j = u ∧ u.nmb nx = true ∧ fitsT tmp nx r
def fitsM (mem : Mem) (nx : Nat) : List (Nat × MB) → Prop
  | [] => True
  | (i, b) :: r => mem i = some b ∧ i < nx ∧ b.nmb nx = true ∧ fitsM mem nx r
mutual
def PV.ren (π : Nat → Nat) : PV → PV
  | .ref id off => .ref (π id) off
  | .rref id i s off => .rref (π id) i s off
  | .own id => .own (π id)
  | .agg cs => .agg (renL π cs)
  | .tup cs => .tup (renL π cs)
  | .clo f cs => .clo f (renL π cs)
  | u => u
def renL (π : Nat → Nat) : List PV → List PV
  | [] => []
  | u :: us => u.ren π :: renL π us
end
def MB.ren (π : Nat → Nat) : MB → MB
  | .box cs => .box (renL π cs)
  | mb => mb
mutual
theorem PV.ren_id : ∀ u : PV, u.ren id = u
  | .undef | .int .. | .bool _ | .str _ | .nil | .seq _ | .eref _ | .raw _ => by unfold PV.ren; rfl
  | .ref .. | .rref .. | .own _ => by unfold PV.ren; rfl
  | .agg cs => by unfold PV.ren; rw [renL_id cs]
  | .tup cs => by unfold PV.ren; rw [renL_id cs]
  | .clo f cs => by unfold PV.ren; rw [renL_id cs]
theorem renL_id : ∀ us : List PV, renL id us = us
  | [] => by unfold renL; rfl
  | u :: us => by unfold renL; rw [PV.ren_id u, renL_id us]
end
theorem MB.ren_id (mb : MB) : mb.ren id = mb := by cases mb <;> simp [MB.ren, renL_id]
/-- The names of a context, called otherwise. -/
def Cx.nam (c : Cx) (n : Nat) (π : Nat → Nat) : Cx := ⟨c.w, c.fz, fun i => if i < n then c.ρ (π i) else none⟩
mutual
theorem Rep.nam : (u : PV) → ∀ {c : Cx} {n : Nat} {π : Nat → Nat} {v : Value}, u.nmb n = true → Rep (u.ren π) c v → Rep u (c.nam n π) v
  | .undef, _, _, _, _, _, _ => by unfold Rep; trivial
  | .int k n, _, _, _, _, _, h => by unfold PV.ren at h; unfold Rep at *; exact h
  | .bool b, _, _, _, _, _, h => by unfold PV.ren at h; unfold Rep at *; exact h
  | .str l, _, _, _, _, _, h => by unfold PV.ren at h; unfold Rep at *; exact h
  | .nil, _, _, _, _, _, h => by unfold PV.ren at h; unfold Rep at *; exact h
  | .seq es, c, n, π, v, hs, h => by unfold PV.ren at h; unfold Rep at *; exact h
  | .ref id off, c, n, π, v, hs, h => by
    unfold PV.ren at h
    unfold Rep at *
    obtain ⟨u, b, h1, h2⟩ := h
    refine ⟨u, b, ?_, h2⟩
    simp only [PV.nmb, decide_eq_true_eq] at hs
    simp only [Cx.nam, hs, if_true]; exact h1
  | .rref id i s off, c, n, π, v, hs, h => by
    unfold PV.ren at h
    unfold Rep at *
    obtain ⟨u, b, h1, h2⟩ := h
    refine ⟨u, b, ?_, h2⟩
    simp only [PV.nmb, decide_eq_true_eq] at hs
    simp only [Cx.nam, hs, if_true]; exact h1
  | .eref cs, c, n, π, v, hs, h => by unfold PV.ren at h; unfold Rep at *; exact h
  | .own id, c, n, π, v, hs, h => by
    unfold PV.ren at h
    unfold Rep at *
    simp only [PV.nmb, decide_eq_true_eq] at hs
    simp only [Cx.nam, hs, if_true]; exact h
  | .agg cs, c, n, π, v, hs, h => by
    unfold PV.ren at h
    unfold Rep at *
    obtain ⟨vs, e, h⟩ := h
    exact ⟨vs, e, RepL.nam cs (by simpa [PV.nmb] using hs) h⟩
  | .tup cs, c, n, π, v, hs, h => by
    unfold PV.ren at h
    unfold Rep at *
    obtain ⟨vs, e, h⟩ := h
    exact ⟨vs, e, RepL.nam cs (by simpa [PV.nmb] using hs) h⟩
  | .clo f cs, c, n, π, v, hs, h => by
    unfold PV.ren at h
    unfold Rep at *
    obtain ⟨vs, e, h⟩ := h
    exact ⟨vs, e, RepL.nam cs (by simpa [PV.nmb] using hs) h⟩
  | .raw u, _, _, _, _, _, h => by unfold PV.ren at h; unfold Rep at *; exact h
theorem RepL.nam : (us : List PV) → ∀ {c : Cx} {n : Nat} {π : Nat → Nat} {vs : List Value}, nmbL n us = true → RepL (renL π us) c vs → RepL us (c.nam n π) vs
  | [], _, _, _, _, _, h => by unfold renL at h; unfold RepL at *; exact h
  | u :: us, c, n, π, vs, hs, h => by
    unfold renL at h
    unfold RepL at *
    obtain ⟨x, xs, e, h1, h2⟩ := h
    simp only [nmbL, Bool.and_eq_true] at hs
    exact ⟨x, xs, e, Rep.nam u hs.1 h1, RepL.nam us hs.2 h2⟩
end
theorem MRep.nam {c : Cx} {i n : Nat} {π : Nat → Nat} {S : Nat → Prop} (hi : i < n) : ∀ {mb : MB}, mb.nmb n = true → MRep c (π i) S (mb.ren π) → MRep (c.nam n π) i S mb
  | .box cs, hs, h => by
    obtain ⟨b, t, vs, h1, h2, h3, rfl⟩ := h
    exact ⟨b, t, vs, by simp only [Cx.nam, hi, if_true]; exact h1, h2, RepL.nam cs (by simpa [MB.nmb] using hs) h3, rfl⟩
  | .row e s es, hs, h => by
    obtain ⟨v, vs, h1, h2, h3, h4, rfl⟩ := h
    exact ⟨v, vs, by simp only [Cx.nam, hi, if_true]; exact h1, h2, h3, h4, rfl⟩
  | .fro es, hs, h => by
    obtain ⟨v, h1, h2, rfl⟩ := h
    exact ⟨v, by simp only [Cx.nam, hi, if_true]; exact h1, Rep.nam (.seq es) rfl (by unfold PV.ren; exact h2), rfl⟩
  | .gen p d, hs, h => by
    obtain ⟨v, h1, h2⟩ := h
    exact ⟨v, by simp only [Cx.nam, hi, if_true]; exact h1, h2⟩
/-- The state is at least what the lists say, but for the names. -/
def fitsTR (π : Nat → Nat) (tmp : Nat → PV) (nx : Nat) : List (Nat × PV) → Prop
  | [] => True
  | (j, u) :: r => tmp j = u.ren π ∧ u.nmb nx = true ∧ fitsTR π tmp nx r
def fitsMR (π : Nat → Nat) (mem : Mem) (nx : Nat) : List (Nat × MB) → Prop
  | [] => True
  | (i, b) :: r => mem (π i) = some (b.ren π) ∧ i < nx ∧ b.nmb nx = true ∧ fitsMR π mem nx r
def Fits (n0 : Nat) (σ : AS) (T : List (Nat × PV)) (M : List (Nat × MB)) (nx : Nat) : Prop :=
  ∃ π : Nat → Nat, (∀ i, i < n0 → π i = i) ∧ (∀ i j, i < nx → j < nx → π i = π j → i = j) ∧ fitsTR π σ.tmp nx T ∧ fitsMR π σ.mem nx M
/-- The state is at least what the lists say. -/
def fits (σ : AS) (T : List (Nat × PV)) (M : List (Nat × MB)) (nx : Nat) : Prop := fitsT σ.tmp nx T ∧ fitsM σ.mem nx M
theorem fitsTR_id {tmp : Nat → PV} {nx : Nat} : ∀ {T : List (Nat × PV)}, fitsT tmp nx T → fitsTR id tmp nx T
  | [], _ => trivial
  | (j, u) :: r, h => ⟨by rw [PV.ren_id]; exact h.1, h.2.1, fitsTR_id h.2.2⟩
theorem fitsMR_id {mem : Mem} {nx : Nat} : ∀ {M : List (Nat × MB)}, fitsM mem nx M → fitsMR id mem nx M
  | [], _ => trivial
  | (j, u) :: r, h => ⟨by rw [MB.ren_id]; exact h.1, h.2.1, h.2.2.1, fitsMR_id h.2.2.2⟩
theorem fits.out {n0 : Nat} {σ : AS} {T : List (Nat × PV)} {M : List (Nat × MB)} {nx : Nat} (h : fits σ T M nx) : Fits n0 σ T M nx :=
  ⟨id, fun _ _ => rfl, fun _ _ _ _ h => h, fitsTR_id h.1, fitsMR_id h.2⟩
def mkS (T : List (Nat × PV)) (M : List (Nat × MB)) (nx : Nat) : AS := ⟨mkT T, mkM M, nx⟩
/-- What is known of these slots alone. -/
def cutT (L : Option (List Nat)) (tmp : Nat → PV) : Nat → PV := match L with
  | none => tmp
  | some l => mkT (l.map fun j => (j, tmp j))
theorem mkT_map (tmp : Nat → PV) : ∀ (l : List Nat) (j : Nat), mkT (l.map fun j => (j, tmp j)) j = .undef ∨ mkT (l.map fun j => (j, tmp j)) j = tmp j
  | [], _ => .inl rfl
  | i :: l, j => by
    simp only [List.map_cons, mkT, upd]
    split
    · rename_i e; subst e; exact .inr rfl
    · exact mkT_map tmp l j
def cutK (L : Option (List Nat)) (K : AS → Prop) (σ : AS) : Prop := K ⟨cutT L σ.tmp, σ.mem, σ.nx⟩
def awp (P : Program) (G : PCtr) (Γ : Ctr) (n0 : Nat) : Code → (AX → AS → Prop) → AS → Prop
  | .skip, Q, σ => Q .normal σ
  | .region _ ops d, Q, σ => if d = true then (∃ k, adraw P G Γ ops k σ (Q .normal)) ∨ (∃ mc cal ord, amixr P G Γ ops mc cal ord σ (Q .normal)) ∨ (∃ mc cal T, amixt P G Γ ops mc cal T σ (Q .normal)) else ∃ L, arun P Γ ops.toList ops.toList σ (cutK L (Q .normal))
  | .seq a b, Q, σ => awp P G Γ n0 a (AX.then (awp P G Γ n0 b Q) Q) σ
  | .cond c a b, Q, σ => aCond (evT σ.tmp c) (awp P G Γ n0 a Q σ) (awp P G Γ n0 b Q σ)
  | .block id c, Q, σ => awp P G Γ n0 c (AX.inBlock id Q) σ
  | .loop c, Q, σ => ∃ (ι : Type) (T : ι → List (Nat × PV)) (M : ι → List (Nat × MB)) (nx : Nat) (good : ι → Prop) (μ : ι → Nat), n0 ≤ nx ∧ (∃ i, good i ∧ Fits n0 σ (T i) (M i) nx) ∧
      ∀ i, good i → awp P G Γ n0 c (AX.then (fun σ' => ∃ i', good i' ∧ μ i' < μ i ∧ Fits n0 σ' (T i') (M i') nx) Q) (mkS (T i) (M i) nx)
  | .exit id, Q, σ => Q (.exit id) σ
  | .ret, Q, σ => Q .ret σ
  | .scope c, Q, σ => awp P G Γ n0 c Q σ
  | .label _, Q, σ => Q .normal σ
  | _, _, _ => False
def codeN (N : Nat) : Code → Bool
  | .region _ ops _ => ops.all fun o => match o.dst with
    | some d => decide (d < N)
    | none => true
  | .seq a b => codeN N a && codeN N b
  | .cond _ a b => codeN N a && codeN N b
  | .block _ c => codeN N c
  | .loop c => codeN N c
  | .scope c => codeN N c
  | _ => true
section
variable {P : Program} {G : PCtr} {Γ : Ctr}
theorem InvM.nam {c : Cx} {mem mem' : Mem} {n : Nat} {π : Nat → Nat} (h : InvM c mem) (hinj : ∀ i j, i < n → j < n → π i = π j → i = j) (hm : ∀ i mb, mem' i = some mb → mem (π i) = some (mb.ren π) ∧ i < n ∧ mb.nmb n = true) : InvM (c.nam n π) mem' := by
  obtain ⟨hf, S, h1, h2, h3⟩ := h
  have hne : ∀ i, mem' i ≠ none → mem (π i) ≠ none ∧ i < n := by
    intro i hi
    obtain ⟨mb, hmb⟩ := Option.ne_none_iff_exists'.1 hi
    obtain ⟨e, hlt, _⟩ := hm i mb hmb
    exact ⟨by rw [e]; simp, hlt⟩
  exact ⟨⟨hf.lt, hf.glob⟩, fun i => S (π i), fun i mb hi => MRep.nam (hm i mb hi).2.1 (hm i mb hi).2.2 (h1 _ _ (hm i mb hi).1),
    fun i j b hi hj hij => h2 _ _ b (hne i hi).1 (hne j hj).1 (fun e => hij (hinj i j (hne i hi).2 (hne j hj).2 e)), fun i b hi => h3 _ b (hne i hi).1⟩
theorem Step.nam {c0 c : Cx} {mem0 mem mem' : Mem} {n0 m n : Nat} {π : Nat → Nat} (h : Step c0 mem0 n0 c mem m) (hn : Names c0 n0) (hle : n0 ≤ n) (hid : ∀ i, i < n0 → π i = i) (hinj : ∀ i j, i < n → j < n → π i = π j → i = j)
    (hm : ∀ i mb, mem' i = some mb → mem (π i) = some (mb.ren π) ∧ i < n ∧ mb.nmb n = true) :
    Step c0 mem0 n0 (c.nam n π) mem' n where
  inv := h.inv.nam hinj hm
  le := ⟨h.le.fz, h.le.cell, fun i v hi => by
    have hlt : i < n0 := Nat.lt_of_not_le fun hh => by rw [hn.1 i hh] at hi; cases hi
    simp only [Cx.nam, if_pos (Nat.lt_of_lt_of_le hlt hle), hid i hlt]
    exact h.le.ρ i v hi⟩
  os := h.os
  tape := h.tape
  output := h.output
  size := h.size
  block := h.block
  mine := fun b ⟨i, S, mb, hi, hr, hs⟩ => by
    obtain ⟨_, S0, h1, _, _⟩ := h.inv
    have hr0 := h1 _ _ (hm i mb hi).1
    have e := MRep.det hr (MRep.nam (hm i mb hi).2.1 (hm i mb hi).2.2 hr0)
    subst e
    exact h.mine b ⟨_, _, _, (hm i mb hi).1, hr0, hs⟩
  fzNew := h.fzNew
  nx := hle
  ρ := fun i hi => by
    simp only [Cx.nam, if_pos (Nat.lt_of_lt_of_le hi hle), hid i hi]
    exact h.ρ i hi
  free := ⟨fun i hi => by simp only [Cx.nam]; rw [if_neg (by omega)], fun i v hi => by
    simp only [Cx.nam] at hi
    split at hi
    · exact h.free.2 _ v hi
    · cases hi⟩
theorem fitsTR_get {π : Nat → Nat} {tmp : Nat → PV} {nx : Nat} : ∀ {T : List (Nat × PV)}, fitsTR π tmp nx T → ∀ j, mkT T j = .undef ∨ (mkT T j).ren π = tmp j ∧ (mkT T j).nmb nx = true
  | [], _, j => .inl rfl
  | (k, u) :: r, h, j => by
    obtain ⟨h1, h2, h3⟩ := h
    simp only [mkT, upd]
    split
    · rename_i e; subst e; exact .inr ⟨h1.symm, h2⟩
    · exact fitsTR_get h3 j
theorem fitsMR_get {π : Nat → Nat} {mem : Mem} {nx : Nat} : ∀ {M : List (Nat × MB)}, fitsMR π mem nx M → ∀ i mb, mkM M i = some mb → mem (π i) = some (mb.ren π) ∧ i < nx ∧ mb.nmb nx = true
  | [], _, i, mb, h => by cases h
  | (k, b) :: r, h, i, mb, hi => by
    obtain ⟨h1, h2, h3, h4⟩ := h
    simp only [mkM, upd] at hi
    split at hi
    · rename_i e; subst e; cases hi; exact ⟨h1, h2, h3⟩
    · exact fitsMR_get h4 i mb hi
theorem Inv.fits {c0 : Cx} {mem0 : Mem} {n0 N : Nat} (hn : Names c0 n0) {σ : AS} {a : Act} {w : World} (h : Inv c0 mem0 n0 N σ a w) {T : List (Nat × PV)} {M : List (Nat × MB)} {nx : Nat} (hle : n0 ≤ nx) (hf : Fits n0 σ T M nx) :
    Inv c0 mem0 n0 N (mkS T M nx) a w := by
  obtain ⟨π, hid, hinj, hT, hM⟩ := hf
  obtain ⟨c, rfl, hst, hrep, hsz, hdf⟩ := h
  refine ⟨c.nam nx π, rfl, hst.nam hn hle hid hinj (fitsMR_get hM), fun j => ?_, hsz, hdf⟩
  rcases fitsTR_get hT j with e | ⟨e, hs⟩
  · show Rep (mkT T j) _ _
    rw [e]; unfold Rep; trivial
  · show Rep (mkT T j) _ _
    refine Rep.nam _ hs ?_
    rw [e]; exact hrep j
/-- A loop by a relation and a measure of its own. -/
theorem wp_loop_by {c : Code} {Q : Exit → Act → World → Prop} {a : Act} {w : World} {ι : Type} (J : ι → Act → World → Prop) (μ : ι → Nat) (i0 : ι) (h0 : J i0 a w)
    (round : ∀ i a w, J i a w → c.wp P (Exit.then (fun a' w' => ∃ i', J i' a' w' ∧ μ i' < μ i) Q) a w) : (Code.loop c).wp P Q a w := by
  have hmin : ∀ a w, (∃ i, J i a w) → ∃ m, (∃ i, J i a w ∧ μ i = m) ∧ ∀ i, J i a w → m ≤ μ i := by
    intro a w ⟨i, hi⟩
    have : ∀ m i, μ i = m → J i a w → ∃ m, (∃ i, J i a w ∧ μ i = m) ∧ ∀ i, J i a w → m ≤ μ i := by
      intro m
      induction m using Nat.strongRecOn with
      | _ m ih =>
        intro i hm hi
        by_cases h : ∀ k, J k a w → m ≤ μ k
        · exact ⟨m, ⟨i, hi, hm⟩, h⟩
        · obtain ⟨k, hk⟩ := Classical.not_forall.1 h
          obtain ⟨h1, h2⟩ := Classical.not_imp.1 hk
          exact ih (μ k) (by omega) k rfl h1
    exact this _ i rfl hi
  have hfun : ∃ f : Act → World → Nat, ∀ a w, (∃ i, J i a w) → (∃ i, J i a w ∧ μ i = f a w) ∧ ∀ i, J i a w → f a w ≤ μ i := by
    refine ⟨fun a w => Classical.epsilon fun m => (∃ i, J i a w ∧ μ i = m) ∧ ∀ i, J i a w → m ≤ μ i, fun a w h => ?_⟩
    exact Classical.epsilon_spec (hmin a w h)
  obtain ⟨f, hf⟩ := hfun
  refine wp_loop (fun a w => ∃ i, J i a w) f ⟨i0, h0⟩ (fun a w hJ => ?_)
  obtain ⟨⟨i, hi, he⟩, _⟩ := hf a w hJ
  refine wp_mono (round i a w hi) (fun e a' w' hq => ?_)
  cases e with
  | normal =>
    obtain ⟨i', h1, h2⟩ := hq
    exact ⟨⟨i', h1⟩, by have := (hf a' w' ⟨i', h1⟩).2 i' h1; omega⟩
  | _ => exact hq
def QOf (c0 : Cx) (mem0 : Mem) (n0 N : Nat) (Q : AX → AS → Prop) : Exit → Act → World → Prop
  | .normal, a, w => ∃ σ, Q .normal σ ∧ Inv c0 mem0 n0 N σ a w
  | .exit id, a, w => ∃ σ, Q (.exit id) σ ∧ Inv c0 mem0 n0 N σ a w
  | .ret, a, w => ∃ σ, Q .ret σ ∧ Inv c0 mem0 n0 N σ a w
  | _, _, _ => False
theorem awp_sound (hΓ : ∀ f C, Γ f = some C → ACok P f C) (hG : ∀ f R, G f = some R → PureOk P f R) (hm : P.follows .mixedOrders = true) {c0 : Cx} {mem0 : Mem} {n0 N : Nat} (hn : Names c0 n0) :
    ∀ (c : Code) (Q : AX → AS → Prop) (σ : AS) (a : Act) (w : World), codeN N c = true → awp P G Γ n0 c Q σ → Inv c0 mem0 n0 N σ a w → c.wp P (QOf c0 mem0 n0 N Q) a w := by
  intro c
  induction c with
  | skip => exact fun Q σ a w _ h hI => wp_skip ⟨σ, h, hI⟩
  | label l => exact fun Q σ a w _ h hI => wp_label ⟨σ, h, hI⟩
  | ret => exact fun Q σ a w _ h hI => wp_ret ⟨σ, h, hI⟩
  | exit id => exact fun Q σ a w _ h hI => wp_exit ⟨σ, h, hI⟩
  | region id ops d =>
    intro Q σ a w hc h hI
    have hN : ∀ (i : Nat) (o : Oper), ops[i]? = some o → ∀ d, o.dst = some d → d < N := by
      intro i o ho d hd
      simp only [codeN, Array.all_eq_true] at hc
      obtain ⟨hi, rfl⟩ := Array.getElem?_eq_some_iff.1 ho
      have := hc i hi
      rw [hd] at this
      simpa using this
    have hK : ∀ σ a w, Q .normal σ → Inv c0 mem0 n0 N σ a w → QOf c0 mem0 n0 N Q .normal a w := fun σ a w h hI => ⟨σ, h, hI⟩
    cases d with
    | true =>
      simp only [awp, if_true] at h
      rcases h with ⟨k, h⟩ | ⟨mc, cal, ord, h⟩ | ⟨mc, cal, T, h⟩
      · exact adraw_sound hΓ hG hN hK hm h hI
      · exact amixr_sound hΓ hG hN hK hm h hI
      · exact amixt_sound hΓ hG hN hK hm h hI
    | false =>
      simp only [awp, Bool.false_eq_true, if_false] at h
      obtain ⟨L, h⟩ := h
      refine wp_region ?_
      have hK' : ∀ σ a w, cutK L (Q .normal) σ → Inv c0 mem0 n0 N σ a w → QOf c0 mem0 n0 N Q .normal a w := by
        intro σ a w h ⟨c, hw, hst, hrep, hsz, hdf⟩
        refine ⟨_, h, c, hw, hst, fun j => ?_, hsz, hdf⟩
        cases L with
        | none => exact hrep j
        | some l =>
          show Rep (mkT (l.map fun j => (j, σ.tmp j)) j) c _
          rcases mkT_map σ.tmp l j with e | e
          · rw [e]; unfold Rep; trivial
          · rw [e]; exact hrep j
      have := arun_sound hΓ hN hK' ops.toList 0 σ a w (by simp) h hI
      rw [List.range_eq_range']
      simpa using this
  | seq x y ihx ihy =>
    intro Q σ a w hc h hI
    simp only [codeN, Bool.and_eq_true] at hc
    simp only [awp] at h
    refine wp_seq (wp_mono (ihx _ σ a w hc.1 h hI) (fun e a' w' hq => ?_))
    cases e with
    | normal => obtain ⟨σ', h1, h2⟩ := hq; exact ihy Q σ' a' w' hc.2 h1 h2
    | exit id => obtain ⟨σ', h1, h2⟩ := hq; exact ⟨σ', h1, h2⟩
    | ret => obtain ⟨σ', h1, h2⟩ := hq; exact ⟨σ', h1, h2⟩
    | _ => exact hq.elim
  | cond t x y ihx ihy =>
    intro Q σ a w hc h hI
    simp only [codeN, Bool.and_eq_true] at hc
    simp only [awp] at h
    obtain ⟨c, rfl, hst, hrep, hsz, hdf⟩ := hI
    have ht := rep_evT hrep t
    unfold aCond at h
    cases hb : evT σ.tmp t with
    | bool b =>
      rw [hb] at h ht
      unfold Rep at ht
      cases b with
      | true => exact wp_cond ht (ihx Q σ a _ hc.1 (h.1 rfl) ⟨c, rfl, hst, hrep, hsz, hdf⟩)
      | false => exact wp_cond ht (ihy Q σ a _ hc.2 (h.2 rfl) ⟨c, rfl, hst, hrep, hsz, hdf⟩)
    | _ => rw [hb] at h; exact h.elim
  | block id c ih =>
    intro Q σ a w hc h hI
    simp only [awp] at h
    refine wp_block (wp_mono (ih _ σ a w (by simpa [codeN] using hc) h hI) (fun e a' w' hq => ?_))
    cases e with
    | normal => obtain ⟨σ', h1, h2⟩ := hq; exact ⟨σ', h1, h2⟩
    | exit id' =>
      obtain ⟨σ', h1, h2⟩ := hq
      simp only [Exit.inBlock]
      split
      · rename_i e; exact ⟨σ', h1.1 e, h2⟩
      · rename_i e; exact ⟨σ', h1.2 e, h2⟩
    | ret => obtain ⟨σ', h1, h2⟩ := hq; exact ⟨σ', h1, h2⟩
    | _ => exact hq.elim
  | loop c ih =>
    intro Q σ a w hc h hI
    simp only [awp] at h
    obtain ⟨ι, T, M, nx, good, μ, hle, ⟨i0, hi0, hf0⟩, hround⟩ := h
    refine wp_loop_by (fun i a w => good i ∧ Inv c0 mem0 n0 N (mkS (T i) (M i) nx) a w) μ i0 ⟨hi0, hI.fits hn hle hf0⟩ ?_
    rintro i a w ⟨hi, hI⟩
    refine wp_mono (ih _ _ a w (by simpa [codeN] using hc) (hround i hi) hI) (fun e a' w' hq => ?_)
    cases e with
    | normal =>
      obtain ⟨σ', ⟨i', h1, h2, h3⟩, h4⟩ := hq
      exact ⟨i', ⟨h1, h4.fits hn hle h3⟩, h2⟩
    | exit id => obtain ⟨σ', h1, h2⟩ := hq; exact ⟨σ', h1, h2⟩
    | ret => obtain ⟨σ', h1, h2⟩ := hq; exact ⟨σ', h1, h2⟩
    | _ => exact hq.elim
  | scope c ih =>
    intro Q σ a w hc h hI
    simp only [awp] at h
    refine wp_scope_straight (wp_mono (ih Q σ a w (by simpa [codeN] using hc) h hI) (fun e a' w' hq => ?_))
    cases e with
    | goto l => exact hq.elim
    | normal => exact hq
    | exit id => exact hq
    | ret => exact hq
    | panic _ => exact hq.elim
    | outgrown => exact hq.elim
  | _ => intro Q σ a w _ h _; exact h.elim
def entry (args : List PV) (mem : Mem) (n : Nat) : AS := ⟨fun j => args.getD j .undef, mem, n⟩
def aRes (P : Program) (σ : AS) : List ResultVar → (List PV → Prop) → Prop
  | [], K => K []
  | .tmp t :: rs, K => aRes P σ rs fun us => K (σ.tmp t :: us)
  | .cell a t :: rs, K => aLoad P t σ.mem (σ.tmp a) fun u => aRes P σ rs fun us => K (u :: us)
def packR : List PV → PV
  | [u] => u
  | us => .tup us
def Fin (P : Program) (rs : List ResultVar) (K : PV → Mem → Nat → Prop) : AX → AS → Prop
  | .exit _, _ => False
  | _, σ => aRes P σ rs fun us => K (packR us) σ.mem σ.nx
def resF (tmps : Array Value) : ResultVar → Sem Value
  | .tmp t => pure (tmps.getD t undef)
  | .cell x t => do loadVar t (← asAddr (tmps.getD x undef))
theorem results_eq (fn : Func) (tmps : Array Value) : results fn tmps = (do let vs ← fn.results.mapM (resF tmps); pure (if h : vs.size = 1 then vs[0] else .tuple vs)) := rfl
theorem aRes_sound {c : Cx} {σ : AS} {a : Act} (hI : InvM c σ.mem) (hrep : ∀ j, Rep (σ.tmp j) c (a.tmps.getD j undef)) : ∀ (rs : List ResultVar) (K : List PV → Prop), aRes P σ rs K →
    ∃ vs us, (rs.mapM (resF a.tmps)).run P c.w = .ok vs c.w ∧ RepL us c vs ∧ K us ∧ us.length = rs.length
  | [], K, h => ⟨[], [], by simp, by simp [RepL.nil_iff], h, rfl⟩
  | .tmp t :: rs, K, h => by
    obtain ⟨vs, us, h1, h2, h3, h4⟩ := aRes_sound hI hrep rs _ h
    refine ⟨_ :: vs, _ :: us, ?_, RepL.cons_iff.2 ⟨_, vs, rfl, hrep t, h2⟩, h3, by simp [h4]⟩
    simp only [List.mapM_cons, resF, Sem.run_bind, Sem.run_pure, Result.andThen_ok, h1]
  | .cell x t :: rs, K, h => by
    obtain ⟨v, r, g1, g2, g3⟩ := load_sound h (hrep x) hI
    obtain ⟨vs, us, h1, h2, h3, h4⟩ := aRes_sound hI hrep rs _ g3
    refine ⟨v :: vs, r :: us, ?_, RepL.cons_iff.2 ⟨v, vs, rfl, g2, h2⟩, h3, by simp [h4]⟩
    have hp : ∃ ad, a.tmps.getD x undef = .pointer (some ad) ∧ (loadVar t ad).run P c.w = .ok v c.w := by
      cases hv : a.tmps.getD x undef with
      | pointer ad =>
        cases ad with
        | none => rw [hv] at g1; simp [Instr.loadAt, Instr.sureAddr] at g1
        | some ad => rw [hv] at g1; exact ⟨ad, rfl, by simpa [Instr.loadAt, Instr.sureAddr] using g1⟩
      | _ => rw [hv] at g1; simp [Instr.loadAt, Instr.sureAddr] at g1
    obtain ⟨ad, e1, e2⟩ := hp
    simp only [List.mapM_cons, resF, Sem.run_bind, e1, asAddr, Sem.run_pure, Result.andThen_ok, e2, h1]
theorem results_sound {fn : Func} {c : Cx} {σ : AS} {a : Act} (hI : InvM c σ.mem) (hrep : ∀ j, Rep (σ.tmp j) c (a.tmps.getD j undef)) {K : PV → Prop} (h : aRes P σ fn.results.toList fun us => K (packR us)) :
    ∃ v r, (results fn a.tmps).run P c.w = .ok v c.w ∧ Rep r c v ∧ K r := by
  obtain ⟨vs, us, h1, h2, h3, h4⟩ := aRes_sound hI hrep _ _ h
  have hl := h2.length
  refine ⟨if h : vs.toArray.size = 1 then vs.toArray[0] else .tuple vs.toArray, packR us, ?_, ?_, h3⟩
  · rw [results_eq, Array.mapM_eq_mapM_toList]
    simp only [Sem.run_bind, Sem.run_map, h1, Result.andThen_ok, Sem.run_pure]
  · match us, vs, hl, h2 with
    | [], [], _, h2 => simp [packR]; unfold Rep; exact ⟨#[], rfl, by simpa using h2⟩
    | [u], [v], _, h2 =>
      simp [packR]
      obtain ⟨x, xs, e, h5, _⟩ := RepL.cons_iff.1 h2
      cases e
      exact h5
    | u :: u' :: us, v :: v' :: vs, _, h2 =>
      simp [packR]
      unfold Rep
      exact ⟨_, rfl, by simpa using h2⟩
/-- A function by its body. -/
theorem calls_of_body (hΓ : ∀ f C, Γ f = some C → ACok P f C) (hG : ∀ f R, G f = some R → PureOk P f R) (hm : P.follows .mixedOrders = true) {f : FuncId} {fn : Func} {code : Code} (hf : P.funcs[f]? = some fn) (hb : fn.body = some code) (hN : codeN fn.ntmps code = true)
    {c : Cx} {mem : Mem} {n : Nat} (hI : InvM c mem) (hn : Names c n) {args : List PV} {vs : List Value} (hr : RepL args c vs) (hsz : args.length ≤ fn.ntmps) {K : PV → Mem → Nat → Prop}
    (h : awp P G Γ n code (Fin P fn.results.toList K) (entry args mem n)) :
    Calls P f vs.toArray c.w (fun e w' => ∃ v r c' mem' n', e = .returned v ∧ c'.w = w' ∧ K r mem' n' ∧ Step c mem n c' mem' n' ∧ Rep r c' v) := by
  refine calls_of_wp hf hb ?_
  have hl := hr.length
  have hInv : Inv c mem n fn.ntmps (entry args mem n) { tmps := vs.toArray ++ Array.replicate (fn.ntmps - vs.toArray.size) undef, defers := [] } c.w := by
    refine ⟨c, rfl, .refl hI hn, fun j => ?_, by simp; omega, rfl⟩
    show Rep (args.getD j .undef) c _
    by_cases hj : j < args.length
    · rw [List.getD_eq_getElem?_getD, List.getElem?_eq_getElem hj, Option.getD_some]
      obtain ⟨v, h1, h2⟩ := hr.get j _ (List.getElem?_eq_getElem hj)
      have hjv : j < vs.length := by omega
      have : (vs.toArray ++ Array.replicate (fn.ntmps - vs.toArray.size) undef).getD j undef = v := by
        rw [Array.getD_eq_getD_getElem?, Array.getElem?_append]
        simp [hjv]
        have := (List.getElem?_eq_some_iff.1 h1).2
        exact this
      rw [this]
      exact h2
    · rw [List.getD_eq_getElem?_getD, List.getElem?_eq_none (by omega)]
      unfold Rep
      trivial
  refine wp_mono (awp_sound hΓ hG hm hn code _ _ _ _ hN h hInv) (fun e a' w' hq => ?_)
  have fin : ∀ σ, (aRes P σ fn.results.toList fun us => K (packR us) σ.mem σ.nx) → Inv c mem n fn.ntmps σ a' w' → a'.defers = [] ∧ ∃ v, (results fn a'.tmps).run P w' = .ok v w' ∧ ∃ v' r c' mem' n', Ending.returned v = .returned v' ∧ c'.w = w' ∧ K r mem' n' ∧ Step c mem n c' mem' n' ∧ Rep r c' v' := by
    rintro σ h ⟨c', rfl, hst, hrep, _, hdf⟩
    obtain ⟨v, r, h1, h2, h3⟩ := results_sound (K := fun r => K r σ.mem σ.nx) hst.inv hrep h
    exact ⟨hdf, v, h1, v, r, c', σ.mem, σ.nx, rfl, rfl, h3, hst, h2⟩
  cases e with
  | normal => obtain ⟨σ, h1, h2⟩ := hq; exact fin σ h1 h2
  | ret => obtain ⟨σ, h1, h2⟩ := hq; exact fin σ h1 h2
  | exit id => obtain ⟨σ, h1, _⟩ := hq; exact h1.elim
  | _ => exact hq.elim
theorem InvM.none_ {c : Cx} (hf : FzOk c) : InvM c (fun _ => none) := ⟨hf, fun _ _ => False, (fun _ _ h => by cases h), (fun _ _ _ h => absurd rfl h), (fun _ _ h => absurd rfl h)⟩
/-- What a function that only computes comes to: data. -/
def FinP (P : Program) (rs : List ResultVar) (K : PV → Prop) : AX → AS → Prop := Fin P rs fun r mem _ => (res mem r).nmb 0 = true ∧ K (res mem r)
theorem pure_of_body (hΓ : ∀ f C, Γ f = some C → ACok P f C) (hG : ∀ f R, G f = some R → PureOk P f R) (hm : P.follows .mixedOrders = true) {f : FuncId} {fn : Func} {code : Code} (hf : P.funcs[f]? = some fn) (hb : fn.body = some code) (hN : codeN fn.ntmps code = true)
    (hname : (fn.name == "runtime.NumGoroutine") = false) {R : PC} (hfun : ∀ args, Fun (R args)) (hsz : ∀ args K, R args K → args.length ≤ fn.ntmps)
    (h : ∀ args K, R args K → awp P G Γ 0 code (FinP P fn.results.toList K) (entry args (fun _ => none) 0)) : PureOk P f R := by
  refine ⟨⟨fn, hf, by rw [hb]; rfl, hname⟩, hfun, fun c args vs K hfz hr hR => ?_⟩
  have hI : InvM c.data (fun _ => none) := InvM.none_ ⟨hfz.lt, hfz.glob⟩
  have hn : Names c.data 0 := ⟨fun _ _ => rfl, fun _ _ h => by cases h⟩
  refine (calls_of_body hΓ hG hm hf hb hN hI hn hr (hsz args K hR) (h args K hR)).mono ?_
  rintro e w' ⟨v, r, c', mem', n', rfl, rfl, ⟨hK1, hK2⟩, hst, hrep⟩
  obtain ⟨c2, e1, e2, st2⟩ := Step.frz (owns r) hst.inv hst.free
  have hrep2 : Rep (res mem' r) c2 v := rep_res st2.inv (frz_fits mem' (owns r)) (Rep.mono _ st2.le hrep)
  have hrep3 := hrep2.to_data hK1
  have hno : ∀ b, ¬ Mine c.data (fun _ => none) b := by rintro b ⟨i, S, mb, h, _⟩; cases h
  have st := hst.trans st2
  refine ⟨v, res mem' r, rfl, hK2, ?_, ?_⟩
  · rw [← e1]
    exact ⟨st.os, st.tape, st.output, st.size, fun b hb => st.block b hb (hno b)⟩
  · refine Rep.mono _ (c := c2.data) ⟨fun b hb => ?_, fun b _ o => by rw [← e1]; rfl, fun _ _ h => by cases h⟩ hrep3
    have hlt := st2.inv.1.lt b hb
    rcases st.fzNew b hb with h | h | h
    · exact .inl h
    · exact absurd h (hno b)
    · exact .inr ⟨h, by rw [← e1]; exact hlt⟩
end
end Go.Proofs.Ytnbjogilidfkdaa

/- Rules by which code is read step by step. -/
namespace Go.Proofs.Ytnbjogilidfkdaa
set_option maxRecDepth 100000
set_option linter.unusedVariables false
set_option linter.unusedSimpArgs false
open Go.RowKit
section
variable {P : Program} {G : PCtr} {Γ : Ctr} {n0 : Nat}
theorem s_draw {id : Nat} {ops : Array Oper} {Q : AX → AS → Prop} {tmp : Nat → PV} {mem : Mem} {nx : Nat} (k : Nat) (hd : drawB ops k = true)
    (h : acalm P G ops.toList mem (ops.toList.take k) tmp fun tmp => arun P Γ ops.toList (ops.toList.drop k) ⟨tmp, mem, nx⟩ (Q .normal)) : awp P G Γ n0 (.region id ops true) Q ⟨tmp, mem, nx⟩ :=
  .inl ⟨k, hd, h⟩
def calmB (o : Oper) : Bool := match o.op with
  | .store .. | .alloc _ | .box .. | .buildSlice .. | .makeSlice .. => false
  | .call ⟨.builtin .append, _, _⟩ => false
  | _ => true
theorem s_drawA {id : Nat} {ops : Array Oper} {Q : AX → AS → Prop} {tmp : Nat → PV} {mem : Mem} {nx : Nat} (_hc : ops.all calmB = true) (hd : drawB ops ops.size = true)
    (h : acalm P G ops.toList mem ops.toList tmp fun tmp => Q .normal ⟨tmp, mem, nx⟩) : awp P G Γ n0 (.region id ops true) Q ⟨tmp, mem, nx⟩ := by
  refine .inl ⟨ops.size, hd, ?_⟩
  rw [List.take_of_length_le (by simp), List.drop_of_length_le (by simp)]
  exact h
def Again (n0 : Nat) {ι : Type} (T : ι → List (Nat × PV)) (M : ι → List (Nat × MB)) (nx : Nat) (good : ι → Prop) (μ : ι → Nat) (i : ι) (σ : AS) : Prop := ∃ i', good i' ∧ μ i' < μ i ∧ Fits n0 σ (T i') (M i') nx
theorem s_loop {c : Code} {Q : AX → AS → Prop} {σ : AS} {ι : Type} (T : ι → List (Nat × PV)) (M : ι → List (Nat × MB)) (nx : Nat) (good : ι → Prop) (μ : ι → Nat) (i0 : ι) (hle : n0 ≤ nx) (h0 : good i0) (hf : fits σ (T i0) (M i0) nx)
    (hr : ∀ i, good i → awp P G Γ n0 c (AX.then (Again n0 T M nx good μ i) Q) (mkS (T i) (M i) nx)) : awp P G Γ n0 (.loop c) Q σ := by
  show ∃ (ι : Type) (T : ι → List (Nat × PV)) (M : ι → List (Nat × MB)) (nx : Nat) (good : ι → Prop) (μ : ι → Nat), _
  exact ⟨ι, T, M, nx, good, μ, hle, ⟨i0, h0, hf.out⟩, hr⟩
theorem s_again {ι : Type} {T : ι → List (Nat × PV)} {M : ι → List (Nat × MB)} {nx : Nat} {good : ι → Prop} {μ : ι → Nat} {i : ι} {σ : AS} (i' : ι) (h1 : good i') (h2 : μ i' < μ i) (h3 : fits σ (T i') (M i') nx) : Again n0 T M nx good μ i σ := ⟨i', h1, h2, h3.out⟩
/-- .. with other names: the name i of the round is now π i. -/
theorem s_againR {ι : Type} {T : ι → List (Nat × PV)} {M : ι → List (Nat × MB)} {nx : Nat} {good : ι → Prop} {μ : ι → Nat} {i : ι} {σ : AS} (i' : ι) (π : Nat → Nat) (h1 : good i') (h2 : μ i' < μ i) (h0 : ∀ i, i < n0 → π i = i) (hi : ∀ i j, i < nx → j < nx → π i = π j → i = j)
    (h3 : fitsTR π σ.tmp nx (T i')) (h4 : fitsMR π σ.mem nx (M i')) : Again n0 T M nx good μ i σ := ⟨i', h1, h2, π, h0, hi, h3, h4⟩
theorem a_some {all rest : List Oper} {d : Tmp} {op : Op} {ty : TypeId} {pos : String} {af : Array Edge} {tmp : Nat → PV} {mem : Mem} {nx : Nat} {K : AS → Prop}
    (h : ∀ Kn : PV → Mem → Nat → Prop, (∀ r m n, arun P Γ all rest ⟨upd tmp d r, m, n⟩ K → Kn r m n) → aop P Γ (evT tmp) op mem nx Kn) : arun P Γ all (⟨some d, op, ty, pos, af, none⟩ :: rest) ⟨tmp, mem, nx⟩ K :=
  h _ fun _ _ _ h => h
theorem a_none {all rest : List Oper} {op : Op} {ty : TypeId} {pos : String} {af : Array Edge} {tmp : Nat → PV} {mem : Mem} {nx : Nat} {K : AS → Prop}
    (h : ∀ Kn : PV → Mem → Nat → Prop, (∀ r m n, arun P Γ all rest ⟨tmp, m, n⟩ K → Kn r m n) → aop P Γ (evT tmp) op mem nx Kn) : arun P Γ all (⟨none, op, ty, pos, af, none⟩ :: rest) ⟨tmp, mem, nx⟩ K :=
  h _ fun _ _ _ h => h
theorem c_some {all rest : List Oper} {d : Tmp} {op : Op} {ty : TypeId} {pos : String} {af : Array Edge} {tmp : Nat → PV} {mem : Mem} {K : (Nat → PV) → Prop}
    (h : ∀ Kn : PV → Prop, (∀ r, acalm P G all mem rest (upd tmp d r) K → Kn r) → aopc P G (evT tmp) op mem Kn) : acalm P G all mem (⟨some d, op, ty, pos, af, none⟩ :: rest) tmp K :=
  h _ fun _ h => h
end
theorem fin_ret {P : Program} {rs : List ResultVar} {K : PV → Prop} {σ : AS} (h : aRes P σ rs fun us => (res σ.mem (packR us)).nmb 0 = true ∧ K (res σ.mem (packR us))) : FinP P rs K .ret σ := h
theorem fin_end {P : Program} {rs : List ResultVar} {K : PV → Prop} {σ : AS} (h : aRes P σ rs fun us => (res σ.mem (packR us)).nmb 0 = true ∧ K (res σ.mem (packR us))) : FinP P rs K .normal σ := h
/-- A function that only computes, by its body: the table of the functions that it calls. -/
theorem pure_body {P : Program} {G : PCtr} (hG : ∀ f R, G f = some R → PureOk P f R) (hm : P.follows .mixedOrders = true) {f : FuncId} {fn : Func} {code : Code} (rs : List ResultVar) (hf : P.funcs[f]? = some fn) (hb : fn.body = some code) (hrs : fn.results.toList = rs) (hN : codeN fn.ntmps code = true)
    (hname : (fn.name == "runtime.NumGoroutine") = false) {R : PC} (hfun : ∀ args, Fun (R args)) (hsz : ∀ args K, R args K → args.length ≤ fn.ntmps)
    (h : ∀ args K, R args K → awp P G (Γof G) 0 code (FinP P rs K) (entry args (fun _ => none) 0)) : PureOk P f R := by
  subst hrs
  refine pure_of_body (Γ := Γof G) (G := G) (fun f C h => ?_) hG hm hf hb hN hname hfun hsz h
  unfold Γof at h
  cases hg : G f with
  | none => rw [hg] at h; cases h
  | some R => rw [hg] at h; cases h; exact pure_ok (hG f R hg)
/-- A table of contracts. -/
def tab : List (FuncId × PC) → PCtr
  | [], _ => none
  | (g, R) :: r, f => if f = g then some R else tab r f
theorem tab_nil {P : Program} : ∀ f R, tab [] f = some R → PureOk P f R := fun _ _ h => by cases h
theorem tab_cons {P : Program} {g : FuncId} {S : PC} {r : List (FuncId × PC)} (h : PureOk P g S) (hr : ∀ f R, tab r f = some R → PureOk P f R) : ∀ f R, tab ((g, S) :: r) f = some R → PureOk P f R := by
  intro f R hf
  simp only [tab] at hf
  split at hf
  · rename_i e; subst e; cases hf; exact h
  · exact hr f R hf
/-- A contract: the arguments stand for x, and the result for 'out x'. -/
def rel {α : Type} (enc : α → List PV) (pre : α → Prop) (out : α → PV) : PC := fun args K => ∃ x, args = enc x ∧ pre x ∧ K (out x)
theorem pure_rel {P : Program} {G : PCtr} (m : Nat) (hG : ∀ f R, G f = some R → PureOk P f R) (hm : P.follows .mixedOrders = true) {f : FuncId} {fn : Func} {code : Code} (rs : List ResultVar) (hf : P.funcs[f]? = some fn) (hb : fn.body = some code) (hrs : fn.results.toList = rs) (hN : codeN fn.ntmps code = true)
    (hname : (fn.name == "runtime.NumGoroutine") = false) {α : Type} {enc : α → List PV} {pre : α → Prop} {out : α → PV} (hl : ∀ x, (enc x).length = m) (hle : Nat.ble m fn.ntmps = true)
    (h : ∀ x K, pre x → K (out x) → awp P G (Γof G) 0 code (FinP P rs K) (entry (enc x) (fun _ => none) 0)) : PureOk P f (rel enc pre out) := by
  refine pure_body hG hm rs hf hb hrs hN hname ?_ ?_ ?_
  · rintro args K ⟨x, h1, h2, h3⟩; exact ⟨_, h3, fun K' hk => ⟨x, h1, h2, hk⟩⟩
  · rintro args K ⟨x, rfl, _, _⟩; rw [hl]; exact Nat.le_of_ble_eq_true hle
  · rintro args K ⟨x, rfl, h2, h3⟩; exact h x K h2 h3
/-- A table with contracts that speak of memory ahead. -/
def tabA : List (FuncId × AC) → Ctr → Ctr
  | [], Γ, f => Γ f
  | (g, C) :: r, Γ, f => if f = g then some C else tabA r Γ f
theorem tabA_nil {P : Program} {Γ : Ctr} (h : ∀ f C, Γ f = some C → ACok P f C) : ∀ f C, tabA [] Γ f = some C → ACok P f C := h
theorem tabA_cons {P : Program} {g : FuncId} {S : AC} {r : List (FuncId × AC)} {Γ : Ctr} (h : ACok P g S) (hr : ∀ f C, tabA r Γ f = some C → ACok P f C) : ∀ f C, tabA ((g, S) :: r) Γ f = some C → ACok P f C := by
  intro f R hf
  simp only [tabA] at hf
  split at hf
  · rename_i e; subst e; cases hf; exact h
  · exact hr f R hf
theorem Γof_ok {P : Program} {G : PCtr} (hG : ∀ f R, G f = some R → PureOk P f R) : ∀ f C, Γof G f = some C → ACok P f C := by
  intro f C h
  unfold Γof at h
  cases hg : G f with
  | none => rw [hg] at h; cases h
  | some R => rw [hg] at h; cases h; exact pure_ok (hG f R hg)
theorem pure_relA {P : Program} {Γ : Ctr} {G : PCtr} (m : Nat) (hΓ : ∀ f C, Γ f = some C → ACok P f C) (hG : ∀ f R, G f = some R → PureOk P f R) (hm : P.follows .mixedOrders = true) {f : FuncId} {fn : Func} {code : Code} (rs : List ResultVar) (hf : P.funcs[f]? = some fn) (hb : fn.body = some code) (hrs : fn.results.toList = rs) (hN : codeN fn.ntmps code = true)
    (hname : (fn.name == "runtime.NumGoroutine") = false) {α : Type} {enc : α → List PV} {pre : α → Prop} {out : α → PV} (hl : ∀ x, (enc x).length = m) (hle : Nat.ble m fn.ntmps = true)
    (h : ∀ x K, pre x → K (out x) → awp P G Γ 0 code (FinP P rs K) (entry (enc x) (fun _ => none) 0)) : PureOk P f (rel enc pre out) := by
  subst hrs
  refine pure_of_body hΓ hG hm hf hb hN hname ?_ ?_ ?_
  · rintro args K ⟨x, h1, h2, h3⟩; exact ⟨_, h3, fun K' hk => ⟨x, h1, h2, hk⟩⟩
  · rintro args K ⟨x, rfl, _, _⟩; rw [hl]; exact Nat.le_of_ble_eq_true hle
  · rintro args K ⟨x, rfl, h2, h3⟩; exact h x K h2 h3
/-- A function that speaks of memory, by its body. -/
theorem ac_body {P : Program} {Γ : Ctr} {G : PCtr} (m : Nat) (hΓ : ∀ f C, Γ f = some C → ACok P f C) (hG : ∀ f R, G f = some R → PureOk P f R) (hm : P.follows .mixedOrders = true) {f : FuncId} {fn : Func} {code : Code} (rs : List ResultVar) (hf : P.funcs[f]? = some fn) (hb : fn.body = some code) (hrs : fn.results.toList = rs) (hN : codeN fn.ntmps code = true)
    (hname : (fn.name == "runtime.NumGoroutine") = false) {C : AC} (hl : ∀ args mem n K, C args mem n K → args.length = m) (hle : Nat.ble m fn.ntmps = true)
    (h : ∀ args mem n K, C args mem n K → awp P G Γ n code (Fin P rs K) (entry args mem n)) : ACok P f C := by
  subst hrs
  refine ⟨⟨fn, hf, by rw [hb]; rfl, hname⟩, fun c mem n args vs K hI hn hr hC => ?_⟩
  exact calls_of_body hΓ hG hm hf hb hN hI hn hr (by rw [hl args mem n K hC]; exact Nat.le_of_ble_eq_true hle) (h args mem n K hC)
theorem fin_retA {P : Program} {rs : List ResultVar} {K : PV → Mem → Nat → Prop} {σ : AS} (h : aRes P σ rs fun us => K (packR us) σ.mem σ.nx) : Fin P rs K .ret σ := h
/-- A world in which these variables hold numbers. -/
def GlobW (w : World) : Prop := ∀ g ∈ globs, g < w.heap.size ∧ ∃ m : Int, w.cell? ⟨g, 0, none⟩ = some (.int .i64 m)
theorem GlobW.ok {w : World} (h : GlobW w) : FzOk ⟨w, fun b => b < w.heap.size, fun _ => none⟩ := ⟨fun _ h => h, h⟩
/-- What such a contract says of a call. -/
theorem rel_calls {P : Program} {f : FuncId} {α : Type} {enc : α → List PV} {pre : α → Prop} {out : α → PV} (h : PureOk P f (rel enc pre out)) (x : α) (hp : pre x) (w : World) (hg : GlobW w) {vs : List Value} (hr : RepL (enc x) ⟨w, fun b => b < w.heap.size, fun _ => none⟩ vs) :
    Calls P f vs.toArray w fun e w' => ∃ v, e = .returned v ∧ Rep (out x) ⟨w', fun b => b < w'.heap.size, fun _ => none⟩ v ∧ Below w.heap.size w w' := by
  refine (h.run ⟨w, fun b => b < w.heap.size, fun _ => none⟩ (enc x) vs (fun r => r = out x) hg.ok hr ⟨x, rfl, hp, rfl⟩).mono ?_
  rintro e w' ⟨v, r, rfl, rfl, hb, hrep⟩
  have hrep2 : Rep (out x) ⟨w', fun b => b < w.heap.size ∨ w.heap.size ≤ b ∧ b < w'.heap.size, fun _ => none⟩ v := hrep
  have hle : Cx.Le ⟨w', fun b => b < w.heap.size ∨ w.heap.size ≤ b ∧ b < w'.heap.size, fun _ => none⟩ ⟨w', fun b => b < w'.heap.size, fun _ => none⟩ :=
    ⟨fun b h => h.elim (fun h => Nat.lt_of_lt_of_le h hb.size) (fun h => h.2), fun _ _ _ => rfl, fun _ _ h => h⟩
  exact ⟨v, rfl, Rep.mono _ hle hrep2, hb⟩
/-- An older contract, of a function whose result is data. -/
theorem rel_of_calls {P : Program} {f : FuncId} (hfn : ∃ fn, P.funcs[f]? = some fn ∧ fn.body.isNone = false ∧ (fn.name == "runtime.NumGoroutine") = false) {α : Type} {enc : α → List PV} {pre : α → Prop} {out : α → PV}
    (h : ∀ (c : Cx) (x : α) (vs : List Value), FzOk c → pre x → RepL (enc x) c.data vs → Calls P f vs.toArray c.w fun e w' => ∃ v, e = .returned v ∧ Rep (out x) ⟨w', fun b => c.fz b ∨ c.w.heap.size ≤ b ∧ b < w'.heap.size, fun _ => none⟩ v ∧ Below c.w.heap.size c.w w') : PureOk P f (rel enc pre out) := by
  refine ⟨hfn, ?_, ?_⟩
  · rintro args K ⟨x, h1, h2, h3⟩; exact ⟨_, h3, fun K' hk => ⟨x, h1, h2, hk⟩⟩
  · rintro c args vs K hf hr ⟨x, rfl, hp, hK⟩
    refine (h c x vs hf hp hr).mono ?_
    rintro e w' ⟨v, rfl, h1, h2⟩
    exact ⟨v, _, rfl, hK, h2, h1⟩
theorem K_bool {K : PV → Prop} {a b : Bool} (hK : K (.bool a)) (h : a = b) : K (.bool b) := h ▸ hK
theorem K_str {K : PV → Prop} {a b : List UInt8} (hK : K (.str a)) (h : a = b) : K (.str b) := h ▸ hK
theorem K_eq {K : PV → Prop} {a b : PV} (hK : K a) (h : a = b) : K b := h ▸ hK
theorem aPick_t {a b : PV} {K : PV → Prop} : aPick (.bool true) a b K = K a := by simp [aPick]
theorem aPick_f {a b : PV} {K : PV → Prop} : aPick (.bool false) a b K = K b := by simp [aPick]
theorem toNat_succ (k : Nat) : ((k : Int) + 1).toNat = k + 1 := by omega
theorem upd_def {α : Type} (f : Nat → α) (i : Nat) (v : α) (j : Nat) : upd f i v j = if j = i then v else f j := rfl
section
variable {P : Program} {G : PCtr} {Γ : Ctr} {n0 : Nat}
/-- A test: what follows if it is as wanted, what follows otherwise. -/
def gsel (u : PV) (w : Bool) (p q : Prop) : Prop := match u with
  | .bool b => (b = w → p) ∧ (b ≠ w → q)
  | .tup [] => q
  | _ => False
theorem qj1 {p q : Prop} (h : p) : gsel (.bool true) true p q := ⟨fun _ => h, fun h => absurd rfl h⟩
theorem qj2 {p q : Prop} (h : p) : gsel (.bool false) false p q := ⟨fun _ => h, fun h => absurd rfl h⟩
theorem qj3 {p q : Prop} (h : q) : gsel (.bool true) false p q := ⟨fun h => (by cases h), fun _ => h⟩
theorem qj4 {p q : Prop} (h : q) : gsel (.bool false) true p q := ⟨fun h => (by cases h), fun _ => h⟩
theorem qj5 {w : Bool} {p q : Prop} (h : q) : gsel (.tup []) w p q := h
theorem qj6 {b w : Bool} {p q : Prop} (h1 : b = true → gsel (.bool true) w p q) (h2 : b = false → gsel (.bool false) w p q) : gsel (.bool b) w p q := by
  cases b
  · exact h2 rfl
  · exact h1 rfl
theorem qg1 {all : List Oper} {tmp : Nat → PV} {j : Nat} {w : Bool} {t : Tmp} {u : PV} {p q : Prop} (hg : gdst all j = some t) (ht : tmp t = u) (h : gsel u w p q) : aG all tmp (some (j, w)) p q := by
  unfold aG
  simp only [hg, ht]
  exact h
theorem qu1 {all rest : List Oper} {d : Tmp} {op : Op} {ty : TypeId} {pos : String} {af : Array Edge} {g : Nat × Bool} {tmp : Nat → PV} {mem : Mem} {nx : Nat} {K : AS → Prop}
    (h : aG all tmp (some g) (aop P Γ (evT tmp) op mem nx fun r m n => arun P Γ all rest ⟨upd tmp d r, m, n⟩ K) (arun P Γ all rest ⟨upd tmp d (.tup []), mem, nx⟩ K)) : arun P Γ all (⟨some d, op, ty, pos, af, some g⟩ :: rest) ⟨tmp, mem, nx⟩ K := h
theorem qu2 {all rest : List Oper} {d : Tmp} {op : Op} {ty : TypeId} {pos : String} {af : Array Edge} {g : Nat × Bool} {tmp : Nat → PV} {mem : Mem} {K : (Nat → PV) → Prop}
    (h : aG all tmp (some g) (aopc P G (evT tmp) op mem fun r => acalm P G all mem rest (upd tmp d r) K) (acalm P G all mem rest (upd tmp d (.tup [])) K)) : acalm P G all mem (⟨some d, op, ty, pos, af, some g⟩ :: rest) tmp K := h
theorem qh1 {ev : Operand → PV} {op : Op} {mem : Mem} {nx : Nat} {K : PV → Mem → Nat → Prop} (h : ∀ Kn : PV → Mem → Nat → Prop, (∀ r m n, K r m n → Kn r m n) → aop P Γ ev op mem nx Kn) : aop P Γ ev op mem nx K := h K fun _ _ _ h => h
theorem qh2 {ev : Operand → PV} {op : Op} {mem : Mem} {K : PV → Prop} (h : ∀ Kn : PV → Prop, (∀ r, K r → Kn r) → aopc P G ev op mem Kn) : aopc P G ev op mem K := h K fun _ h => h
theorem qcd {c : Operand} {a b : Code} {Q : AX → AS → Prop} {tmp : Nat → PV} {mem : Mem} {nx : Nat} {t : Bool} (ht : evT tmp c = .bool t) (h : gsel (.bool t) true (awp P G Γ n0 a Q ⟨tmp, mem, nx⟩) (awp P G Γ n0 b Q ⟨tmp, mem, nx⟩)) : awp P G Γ n0 (.cond c a b) Q ⟨tmp, mem, nx⟩ := by
  show aCond (evT tmp c) _ _
  rw [ht]
  exact ⟨fun e => h.1 e, fun e => h.2 (by rw [e]; decide)⟩
theorem qa1 {all rest : List Oper} {d : Tmp} {op : Op} {ty : TypeId} {pos : String} {af : Array Edge} {tmp : Nat → PV} {mem : Mem} {nx : Nat} {K : AS → Prop}
    (h : ∀ Kn : PV → Mem → Nat → Prop, (∀ r m n, arun P Γ all rest ⟨upd tmp d r, m, n⟩ K → Kn r m n) → aop P Γ (evT tmp) op mem nx Kn) : arun P Γ all (⟨some d, op, ty, pos, af, none⟩ :: rest) ⟨tmp, mem, nx⟩ K := a_some h
theorem qa2 {all rest : List Oper} {op : Op} {ty : TypeId} {pos : String} {af : Array Edge} {tmp : Nat → PV} {mem : Mem} {nx : Nat} {K : AS → Prop}
    (h : ∀ Kn : PV → Mem → Nat → Prop, (∀ r m n, arun P Γ all rest ⟨tmp, m, n⟩ K → Kn r m n) → aop P Γ (evT tmp) op mem nx Kn) : arun P Γ all (⟨none, op, ty, pos, af, none⟩ :: rest) ⟨tmp, mem, nx⟩ K := a_none h
theorem qa3 {all rest : List Oper} {d : Tmp} {op : Op} {ty : TypeId} {pos : String} {af : Array Edge} {tmp : Nat → PV} {mem : Mem} {K : (Nat → PV) → Prop}
    (h : ∀ Kn : PV → Prop, (∀ r, acalm P G all mem rest (upd tmp d r) K → Kn r) → aopc P G (evT tmp) op mem Kn) : acalm P G all mem (⟨some d, op, ty, pos, af, none⟩ :: rest) tmp K := c_some h
theorem qw1 {a b : Code} {Q : AX → AS → Prop} {σ : AS} (h : awp P G Γ n0 a (AX.then (awp P G Γ n0 b Q) Q) σ) : awp P G Γ n0 (.seq a b) Q σ := h
theorem qw2 {Q : AX → AS → Prop} {σ : AS} (h : Q .normal σ) : awp P G Γ n0 .skip Q σ := h
theorem qw3 {id : Nat} {Q : AX → AS → Prop} {σ : AS} (h : Q (.exit id) σ) : awp P G Γ n0 (.exit id) Q σ := h
theorem qw4 {Q : AX → AS → Prop} {σ : AS} (h : Q .ret σ) : awp P G Γ n0 .ret Q σ := h
theorem qw5 {id : Nat} {c : Code} {Q : AX → AS → Prop} {σ : AS} (h : awp P G Γ n0 c (AX.inBlock id Q) σ) : awp P G Γ n0 (.block id c) Q σ := h
theorem qw6 {id : Nat} {ops : Array Oper} {Q : AX → AS → Prop} {σ : AS} (h : arun P Γ ops.toList ops.toList σ (Q .normal)) : awp P G Γ n0 (.region id ops false) Q σ := ⟨none, h⟩
/-- .. and then what is known of some slots alone. -/
theorem qwc {id : Nat} {ops : Array Oper} {Q : AX → AS → Prop} {σ : AS} (lv : Nat → List Nat) (h : arun P Γ ops.toList ops.toList σ (cutK (some (lv id)) (Q .normal))) : awp P G Γ n0 (.region id ops false) Q σ := ⟨some (lv id), h⟩
theorem qwd {all : List Oper} {tmp : Nat → PV} {mem : Mem} {nx : Nat} {l : List Nat} {K : AS → Prop} (h : ∀ Kn : (Nat → PV) → Prop, (∀ τ, K ⟨τ, mem, nx⟩ → Kn τ) → Kn (mkT (l.map fun j => (j, tmp j)))) : arun P Γ all [] ⟨tmp, mem, nx⟩ (cutK (some l) K) := h _ fun _ h => h
theorem qw7 {id : Nat} {ops : Array Oper} {Q : AX → AS → Prop} {tmp : Nat → PV} {mem : Mem} {nx : Nat} (hc : ops.all calmB = true) (hd : drawB ops ops.size = true)
    (h : acalm P G ops.toList mem ops.toList tmp fun tmp => Q .normal ⟨tmp, mem, nx⟩) : awp P G Γ n0 (.region id ops true) Q ⟨tmp, mem, nx⟩ := s_drawA hc hd h
theorem qw8 {all : List Oper} {σ : AS} {K : AS → Prop} (h : K σ) : arun P Γ all [] σ K := h
theorem qw9 {all : List Oper} {mem : Mem} {tmp : Nat → PV} {K : (Nat → PV) → Prop} (h : K tmp) : acalm P G all mem [] tmp K := h
/-- The memory at these names. -/
def rst : List Nat → Mem → Mem
  | [], _ => fun _ => none
  | j :: r, m => fun i => if i = j then m i else rst r m i
theorem rst_nil (m : Mem) (i : Nat) : rst [] m i = none := rfl
theorem rst_cons (j : Nat) (r : List Nat) (m : Mem) (i : Nat) : rst (j :: r) m i = if i = j then m i else rst r m i := rfl
theorem rst_sub : ∀ (ns : List Nat) (m : Mem), SubM (rst ns m) m
  | [], _, _, _, h => by cases h
  | j :: r, m, i, b, h => by
    rw [rst_cons] at h
    split at h
    · exact h
    · exact rst_sub r m i b h
def mixL (ops : Array Oper) (cs ord : List Nat) : List (Bool × Oper) := ord.map fun i => (cs.contains i, ops.getD i default)
theorem mixL_cons {ops : Array Oper} {cs r : List Nat} {i : Nat} {o : Oper} (h : ops[i]? = some o) : mixL ops cs (i :: r) = (cs.contains i, o) :: mixL ops cs r := by
  simp [mixL, Array.getD_eq_getD_getElem?, h]
theorem qnt {all : List Oper} {ops : Array Oper} {cs r : List Nat} {i : Nat} {o : Oper} {mc : Mem} {σ : AS} {K : AS → Prop} (h1 : cs.contains i = true) (h2 : ops[i]? = some o) (h : amix P G Γ all mc ((true, o) :: mixL ops cs r) σ K) : amix P G Γ all mc (mixL ops cs (i :: r)) σ K := by
  rw [mixL_cons h2, h1]; exact h
theorem qnf {all : List Oper} {ops : Array Oper} {cs r : List Nat} {i : Nat} {o : Oper} {mc : Mem} {σ : AS} {K : AS → Prop} (h1 : cs.contains i = false) (h2 : ops[i]? = some o) (h : amix P G Γ all mc ((false, o) :: mixL ops cs r) σ K) : amix P G Γ all mc (mixL ops cs (i :: r)) σ K := by
  rw [mixL_cons h2, h1]; exact h
theorem qne {all : List Oper} {ops : Array Oper} {cs : List Nat} {mc : Mem} {σ : AS} {K : AS → Prop} (h : K σ) : amix P G Γ all mc (mixL ops cs []) σ K := h
/-- A region whose order is drawn, read in an order of one's own; ns: the names that calm operations read; cs: the places of these. -/
theorem qw10 {id : Nat} {ops : Array Oper} {Q : AX → AS → Prop} {tmp : Nat → PV} {mem : Mem} {nx : Nat} (ns : List Nat) (cs ord : List Nat) (hb : ordB ops ord (fun i => cs.contains i) = true)
    (h : amix P G Γ ops.toList (rst ns mem) (mixL ops cs ord) ⟨tmp, mem, nx⟩ (Q .normal)) : awp P G Γ n0 (.region id ops true) Q ⟨tmp, mem, nx⟩ := .inr (.inl ⟨rst ns mem, _, ord, hb, rst_sub ns mem, h⟩)
theorem qyn {ops : Array Oper} {mc : Mem} {cs : List Nat} {ch : MC} {σ : AS} {K : AS → Prop} (h : amix P G Γ ops.toList mc (cs.map fun i => (true, ops.getD i default)) σ fun σ' => amixC P G Γ ops mc ch σ' K) : amixN P G Γ ops mc (.mk cs ch) σ K := by
  rw [amixN]; exact h
theorem qyc {ops : Array Oper} {all : List Oper} {mc : Mem} {i : Nat} {r : List Nat} {o : Oper} {σ : AS} {K : AS → Prop} (h2 : ops[i]? = some o) (h : amix P G Γ all mc ((true, o) :: r.map fun i => (true, ops.getD i default)) σ K) : amix P G Γ all mc ((i :: r).map fun i => (true, ops.getD i default)) σ K := by
  rw [List.map_cons, show ops.getD i default = o by simp [Array.getD_eq_getD_getElem?, h2]]; exact h
theorem qyz {ops : Array Oper} {all : List Oper} {mc : Mem} {σ : AS} {K : AS → Prop} (h : K σ) : amix P G Γ all mc ([].map fun i => (true, ops.getD i default)) σ K := h
theorem qy0 {ops : Array Oper} {mc : Mem} {σ : AS} {K : AS → Prop} (h : K σ) : amixC P G Γ ops mc .nil σ K := by
  rw [amixC]; exact h
theorem qy1 {ops : Array Oper} {mc : Mem} {i : Nat} {t : MN} {o : Oper} {σ : AS} {K : AS → Prop} (h2 : ops[i]? = some o) (h : amix P G Γ ops.toList mc [(false, o)] σ fun σ' => amixN P G Γ ops mc t σ' K) : amixC P G Γ ops mc (.cons i t .nil) σ K := by
  rw [amixC, show ops.getD i default = o by simp [Array.getD_eq_getD_getElem?, h2]]; exact h
theorem qy2 {ops : Array Oper} {mc : Mem} {i j : Nat} {t u : MN} {r : MC} {o : Oper} {σ : AS} {K : AS → Prop} (h2 : ops[i]? = some o) (h : amix P G Γ ops.toList mc [(false, o)] σ fun σ' => amixN P G Γ ops mc t σ' K) (h' : amixC P G Γ ops mc (.cons j u r) σ K) : amixC P G Γ ops mc (.cons i t (.cons j u r)) σ K := by
  rw [amixC, show ops.getD i default = o by simp [Array.getD_eq_getD_getElem?, h2]]
  · exact ⟨h, h'⟩
  · intro e; cases e
theorem qm1 {all : List Oper} {rest : List (Bool × Oper)} {mc : Mem} {d : Tmp} {op : Op} {ty : TypeId} {pos : String} {af : Array Edge} {tmp : Nat → PV} {mem : Mem} {nx : Nat} {K : AS → Prop}
    (h : ∀ Kn : PV → Prop, (∀ r, amix P G Γ all mc rest ⟨upd tmp d r, mem, nx⟩ K → Kn r) → aopd P G (evT tmp) op mc Kn) : amix P G Γ all mc ((true, ⟨some d, op, ty, pos, af, none⟩) :: rest) ⟨tmp, mem, nx⟩ K := h _ fun _ h => h
theorem qm2 {all : List Oper} {rest : List (Bool × Oper)} {mc : Mem} {d : Tmp} {op : Op} {ty : TypeId} {pos : String} {af : Array Edge} {tmp : Nat → PV} {mem : Mem} {nx : Nat} {K : AS → Prop}
    (h : ∀ Kn : PV → Mem → Nat → Prop, (∀ r m n, SubM mc m ∧ amix P G Γ all mc rest ⟨upd tmp d r, m, n⟩ K → Kn r m n) → aop P Γ (evT tmp) op mem nx Kn) : amix P G Γ all mc ((false, ⟨some d, op, ty, pos, af, none⟩) :: rest) ⟨tmp, mem, nx⟩ K :=
  ⟨_, h _ fun _ _ _ h => h, fun _ _ _ h => h⟩
theorem qm3 {all : List Oper} {rest : List (Bool × Oper)} {mc : Mem} {op : Op} {ty : TypeId} {pos : String} {af : Array Edge} {tmp : Nat → PV} {mem : Mem} {nx : Nat} {K : AS → Prop}
    (h : ∀ Kn : PV → Mem → Nat → Prop, (∀ r m n, SubM mc m ∧ amix P G Γ all mc rest ⟨tmp, m, n⟩ K → Kn r m n) → aop P Γ (evT tmp) op mem nx Kn) : amix P G Γ all mc ((false, ⟨none, op, ty, pos, af, none⟩) :: rest) ⟨tmp, mem, nx⟩ K :=
  ⟨_, h _ fun _ _ _ h => h, fun _ _ _ h => h⟩
theorem qsub0 {m0 m : Mem} : SubM (rst [] m0) m := fun _ _ h => by cases h
theorem qsub1 {m0 m : Mem} {j : Nat} {r : List Nat} (h : m j = m0 j) (hr : SubM (rst r m0) m) : SubM (rst (j :: r) m0) m := by
  intro i c hi
  rw [rst_cons] at hi
  split at hi
  · rename_i e; subst e; rw [h]; exact hi
  · exact hr i c hi
theorem qk1 {ns : List Nat} {m0 m : Mem} {p : Prop} (hs : SubM (rst ns m0) m) (h : p) : SubM (rst ns m0) m ∧ p := ⟨hs, h⟩
theorem qt1 {K : AS → Prop} {Q : AX → AS → Prop} {σ : AS} (h : K σ) : AX.then K Q .normal σ := h
theorem qt2 {K : AS → Prop} {Q : AX → AS → Prop} {σ : AS} {id : Nat} (h : Q (.exit id) σ) : AX.then K Q (.exit id) σ := h
theorem qt3 {K : AS → Prop} {Q : AX → AS → Prop} {σ : AS} (h : Q .ret σ) : AX.then K Q .ret σ := h
theorem qt4 {Q : AX → AS → Prop} {σ : AS} {id : Nat} (h : Q .normal σ) : AX.inBlock id Q .normal σ := h
theorem qt5 {Q : AX → AS → Prop} {σ : AS} {id : Nat} (h : Q .normal σ) : AX.inBlock id Q (.exit id) σ := ⟨fun _ => h, fun h => absurd rfl h⟩
theorem qt6 {Q : AX → AS → Prop} {σ : AS} {id : Nat} (h : Q .ret σ) : AX.inBlock id Q .ret σ := h
theorem qt7 {Q : AX → AS → Prop} {σ : AS} {id id' : Nat} (hne : id' ≠ id) (h : Q (.exit id') σ) : AX.inBlock id Q (.exit id') σ := ⟨fun e => absurd e hne, fun _ => h⟩
end
end Go.Proofs.Ytnbjogilidfkdaa
