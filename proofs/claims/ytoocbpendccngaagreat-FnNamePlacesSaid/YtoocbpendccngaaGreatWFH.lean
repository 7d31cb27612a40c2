/- A box of plain data is frozen; closures that lent blocks stand in: contracts in other words. No program. -/
import Derived.Test.YtoocbpendccngaaGreatWFL

namespace Go.Proofs.YtoocbpendccngaaGreat
set_option maxRecDepth 100000
set_option linter.unusedVariables false
set_option linter.unusedSimpArgs false
open Go.RowKit
theorem plain_cell {u : PV} (h : plainU u = true) : u.isCell = true := by
  cases u <;> simp [plainU] at h <;> rfl
theorem InvM.frzBox {c : Cx} {mem : Mem} {i : Nat} {cs : List PV} (h : InvM c mem) (hm : mem i = some (.box cs)) (hp : cs.all plainU = true) :
    ∃ g, c.ρ i = some (.pointer (some ⟨g, 0, none⟩)) ∧ InvM ⟨c.w, fun b => c.fz b ∨ b = g, c.ρ⟩ (upd mem i none) ∧ c.Le ⟨c.w, fun b => c.fz b ∨ b = g, c.ρ⟩ ∧
      RepA cs (Cx.data ⟨c.w, fun b => c.fz b ∨ b = g, c.ρ⟩) g 0 ∧ Mine c mem g ∧
      ∀ b, Mine ⟨c.w, fun b => c.fz b ∨ b = g, c.ρ⟩ (upd mem i none) b → Mine c mem b := by
  obtain ⟨hf, S, h1, h2, h3⟩ := h
  obtain ⟨g, t, vs, hv, hb, hr, hS⟩ := h1 i _ hm
  have hmi : mem i ≠ none := by simp [hm]
  have hle : c.Le ⟨c.w, fun b => c.fz b ∨ b = g, c.ρ⟩ := ⟨fun _ h => .inl h, fun _ _ _ => rfl, fun _ _ h => h⟩
  have hne : ∀ j, upd mem i none j ≠ none → j ≠ i ∧ mem j ≠ none := by
    intro j hj
    by_cases e : j = i
    · rw [e, upd_same] at hj; exact absurd rfl hj
    · rw [upd_other _ _ e] at hj; exact ⟨e, hj⟩
  refine ⟨g, hv, ⟨⟨?_, fun g' hg => ⟨.inl (hf.glob g' hg).1, (hf.glob g' hg).2⟩⟩, S, ?_, ?_, ?_⟩, hle, ?_, ⟨i, S i, _, hm, h1 i _ hm, by rw [hS]⟩, ?_⟩
  · rintro b (hb' | rfl)
    · exact hf.lt b hb'
    · exact Blk.lt hb
  · intro j mb hj
    have hji : j ≠ i := by rintro rfl; rw [upd_same] at hj; cases hj
    rw [upd_other _ _ hji] at hj
    exact MRep.mono hle (fun _ _ => rfl) (h1 j mb hj)
  · intro j l b hj hl hjl hb'
    exact h2 j l b (hne j hj).2 (hne l hl).2 hjl hb'
  · rintro j b hj hb' (hz | rfl)
    · exact h3 j b (hne j hj).2 hb' hz
    · exact h2 j i b (hne j hj).2 hmi (hne j hj).1 hb' (by rw [hS])
  · refine RepA.of_vals (repL_plain hp hr) (fun j u hj => ?_) (fun u hu => plain_cell (List.all_eq_true.1 hp u hu))
    show c.w.cell? ⟨g, 0 + j, none⟩ = some u
    rw [Nat.zero_add, Blk.cell hb]
    simpa using hj
  · rintro b ⟨k, T, mb, hk, hT, hb'⟩
    have ek : k ≠ i := by rintro rfl; rw [upd_same] at hk; cases hk
    rw [upd_other _ _ ek] at hk
    have e := MRep.det hT (MRep.mono hle (fun _ _ => rfl) (h1 k mb hk))
    subst e
    exact ⟨k, _, mb, hk, h1 k mb hk, hb'⟩
theorem Step.frzBox {c : Cx} {mem : Mem} {n i : Nat} {cs : List PV} (hI : InvM c mem) (hn : Names c n) (hm : mem i = some (.box cs)) (hp : cs.all plainU = true) :
    ∃ c', c'.w = c.w ∧ Step c mem n c' (upd mem i none) n ∧ ∀ v, Rep (.ref i 0) c v → Rep (.eref cs) c' v := by
  obtain ⟨g, hv, hI', hle, hA, hmine, hm2⟩ := hI.frzBox hm hp
  refine ⟨⟨c.w, fun b => c.fz b ∨ b = g, c.ρ⟩, rfl, ⟨hI', hle, rfl, rfl, rfl, Nat.le_refl _, fun _ _ _ => rfl, fun b hb => .inl (hm2 b hb), fun b hb => hb.imp id (fun hb => .inl (by rw [hb]; exact hmine)), Nat.le_refl _, fun _ _ => rfl, hn⟩, fun v hr => ?_⟩
  unfold Rep at hr
  obtain ⟨u, b, hu, hb, rfl⟩ := hr
  rw [hv] at hu
  cases hu
  simp only [baseOf, Option.some.injEq] at hb
  subst hb
  unfold Rep
  exact ⟨g, 0, rfl, .inr rfl, hA⟩
theorem ACok.via {P : Program} {f : FuncId} {C C' : AC} (h : ACok P f C) (hc : ∀ args mem n K, C' args mem n K → C args mem n K) : ACok P f C' :=
  ⟨h.fn, fun c mem n args vs K hI hn hr hC => h.run c mem n args vs K hI hn hr (hc args mem n K hC)⟩
/-- Never called. -/
theorem locG_never {P : Program} {f : FuncId} {α : Type} {args : α → List PV} {B : α → MB} {pre : α → Prop} {post : α → PV → MB → Prop} (hf : ∃ fn, P.funcs[f]? = some fn ∧ fn.body.isNone = false ∧ (fn.name == "runtime.NumGoroutine") = false) (h : ∀ x, ¬ pre x) : ACok P f (locG args B pre post) :=
  ⟨hf, fun c mem n as vs K hI hn hr hC => by
    obtain ⟨x, i, _, _, hp, _⟩ := hC
    exact absurd hp (h x)⟩
end Go.Proofs.YtoocbpendccngaaGreat

/- Functions that take a row of one's own, anywhere among their arguments, and hand back one; nil as such a row. No program. -/
namespace Go.Proofs.YtoocbpendccngaaGreat
set_option maxRecDepth 100000
set_option linter.unusedVariables false
set_option linter.unusedSimpArgs false
open Go.RowKit
/-- As locX, the row wherever it stands among the arguments (there as .own 0). -/
def locY {α : Type} (e : TypeId) (s : Nat) (args : α → List PV) (B : α → MB) (pre : α → Prop) (post : α → List (List PV) → Prop) : AC := fun as mem n K =>
  ∃ x i, as = renL (fun _ => i) (args x) ∧ pre x ∧ mem i = some (B x) ∧ ∀ es, post x es → K (.own n) (upd (upd mem i none) n (some (.row e s es))) (n + 1)
section
variable {P : Program} {Γ : Ctr} {G : PCtr} {α : Type} {args : α → List PV} {B : α → MB} {pre : α → Prop}
theorem locY_ok {e : TypeId} {s : Nat} {post : α → List (List PV) → Prop} (m : Nat) (hΓ : ∀ f C, Γ f = some C → ACok P f C) (hG : ∀ f R, G f = some R → PureOk P f R) (hm : P.follows .mixedOrders = true) {f : FuncId} {fn : Func} {code : Code} (rs : List ResultVar) (hf : P.funcs[f]? = some fn) (hb : fn.body = some code) (hrs : fn.results.toList = rs) (hN : codeN fn.ntmps code = true)
    (hname : (fn.name == "runtime.NumGoroutine") = false) (hl : ∀ x, (args x).length = m) (hle : Nat.ble m fn.ntmps = true) (hca : ∀ x, nmbL 1 (args x) = true) (hcb : ∀ x, (B x).nmb 0 = true)
    (h : ∀ x K, pre x → (∀ es, post x es → K es) → awp P G Γ 1 code (FinX P rs K e s) (entry (args x) (mkM [(0, B x)]) 1)) : ACok P f (locY e s args B pre post) := by
  subst hrs
  refine ⟨⟨fn, hf, by rw [hb]; rfl, hname⟩, fun c mem n as vs K hI hn hr hC => ?_⟩
  obtain ⟨x, i, rfl, hp, hi, hK⟩ := hC
  have hin := name_lt hI hn hi
  have hr1 := repL_oneG hr (hca x)
  refine (calls_of_body hΓ hG hm hf hb hN (hI.one hi (hcb x)) (Names.one hn) hr1 (by rw [hl x]; exact Nat.le_of_ble_eq_true hle) (K := fun r mem _ => ∃ j es, r = .own j ∧ mem j = some (.row e s es) ∧ post x es) (h x (fun es => post x es) hp (fun _ h => h))).mono ?_
  rintro e w' ⟨v', r, c1, m1, k1, rfl, rfl, ⟨j, es, rfl, hj, hpost⟩, st, hrep⟩
  have hrj : c1.ρ j = some v' := by unfold Rep at hrep; exact hrep
  have hnm : mem n = none := free_mem hI hn
  refine ⟨v', _, ⟨c1.w, c1.fz, upd c.ρ n (some v')⟩, _, _, rfl, rfl, hK _ hpost, ?_, by unfold Rep; exact upd_same _ _ _⟩
  refine Step.lift hI hn hi (hcb x) st (fun l => if l = n then some j else none) ?_ ?_ ?_ (fun l hl => upd_other _ _ (by omega)) (fun l hl => by rw [upd_other _ _ (by omega)]; exact hn.1 l (by omega)) ?_ ?_ (.inr rfl)
  · intro l a hl
    by_cases e' : l = n
    · exact .inr e'
    · rw [if_neg e'] at hl; cases hl
  · intro l l' a hl hl'
    by_cases e1 : l = n
    · by_cases e2 : l' = n
      · rw [e1, e2]
      · rw [if_neg e2] at hl'; cases hl'
    · rw [if_neg e1] at hl; cases hl
  · intro l mb hl
    by_cases e : l = n
    · subst e; rw [upd_same] at hl; cases hl
      exact .inl ⟨j, if_pos rfl, hj, rfl⟩
    · rw [upd_other _ _ e] at hl
      by_cases e' : l = i
      · subst e'; rw [upd_same] at hl; cases hl
      · rw [upd_other _ _ e'] at hl
        exact .inr ⟨if_neg e, e', e, hl⟩
  · intro a ha
    rw [if_pos rfl] at ha; cases ha
    rw [upd_same]; exact hrj.symm
  · intro v hv; rw [upd_same] at hv; cases hv; exact st.free.2 _ _ hrj
end
theorem locY_never {P : Program} {f : FuncId} {α : Type} {e : TypeId} {s : Nat} {args : α → List PV} {B : α → MB} {pre : α → Prop} {post : α → List (List PV) → Prop} (hf : ∃ fn, P.funcs[f]? = some fn ∧ fn.body.isNone = false ∧ (fn.name == "runtime.NumGoroutine") = false) (h : ∀ x, ¬ pre x) : ACok P f (locY e s args B pre post) :=
  ⟨hf, fun c mem n as vs K hI hn hr hC => by
    obtain ⟨x, i, _, hp, _⟩ := hC
    exact absurd hp (h x)⟩
/-- nil is an empty row of one's own. -/
theorem Step.nilRow {c : Cx} {mem : Mem} {n : Nat} (e : TypeId) (s : Nat) (hI : InvM c mem) (hn : Names c n) :
    ∃ c', c'.w = c.w ∧ Step c mem n c' (upd mem n (some (.row e s []))) (n + 1) ∧ Rep (.own n) c' (.slice none 0 0) := by
  obtain ⟨c', hw, st, hrep, _⟩ := new_row (es := []) (vs := []) (e := e) (s := s) hI hn none (w' := c.w) (v := .slice none 0 0) rfl rfl rfl (Nat.le_refl _) (fun j hj => by cases hj) (fun _ _ _ => rfl) ⟨by simp, .inl ⟨rfl, rfl⟩⟩ (by rw [List.flatten_nil, RepL.nil_iff]) ⟨by simp, by simp⟩ (fun b hb => by cases hb)
  exact ⟨c', hw, st, hrep⟩
end Go.Proofs.YtoocbpendccngaaGreat
