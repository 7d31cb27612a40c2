/- Results that are new rows; arguments that are lent. No program. -/
import Derived.Test.YtcagfbgplpokkaaFL
namespace Go.Proofs.Ytcagfbgplpokkaa
set_option maxRecDepth 100000
set_option linter.unusedVariables false
set_option linter.unusedSimpArgs false
open Go.RowKit

/-- A value without memory. -/
def plainU : PV → Bool
  | .int .. | .bool _ | .str _ => true
  | _ => false
def plainV : PV → Bool
  | .agg cs => cs.all plainU
  | .tup cs => cs.all plainU
  | u => plainU u
theorem rep_plainU {u : PV} {c c' : Cx} {v : Value} (h : plainU u = true) (hr : Rep u c v) : Rep u c' v := by
  cases u <;> simp [plainU] at h <;> (unfold Rep at *; exact hr)
theorem repL_plain {c c' : Cx} : ∀ {us : List PV} {vs : List Value}, us.all plainU = true → RepL us c vs → RepL us c' vs
  | [], vs, _, h => by rw [RepL.nil_iff] at *; exact h
  | u :: us, vs, h, hr => by
    simp only [List.all_cons, Bool.and_eq_true] at h
    rw [RepL.cons_iff] at *
    obtain ⟨x, xs, rfl, h1, h2⟩ := hr
    exact ⟨x, xs, rfl, rep_plainU h.1 h1, repL_plain h.2 h2⟩
theorem rep_plainV {u : PV} {c c' : Cx} {v : Value} (h : plainV u = true) (hr : Rep u c v) : Rep u c' v := by
  cases u with
  | agg cs => unfold Rep at *; obtain ⟨vs, e, h1⟩ := hr; exact ⟨vs, e, repL_plain h h1⟩
  | tup cs => unfold Rep at *; obtain ⟨vs, e, h1⟩ := hr; exact ⟨vs, e, repL_plain h h1⟩
  | _ => exact rep_plainU h hr

section
variable {P : Program}
/-- A function that only computes, its arguments lent: they stay as they are, also rows of one's own. -/
def borC (R : PC) : AC := fun args mem n K => nmbL 0 (args.map (res mem)) = true ∧ R (args.map (res mem)) fun r => plainV r = true ∧ K r mem n
theorem bor_ok {f : FuncId} {R : PC} (h : PureOk P f R) : ACok P f (borC R) := by
  refine ⟨h.fn, fun c mem n args vs K hI hn hr hC => ?_⟩
  obtain ⟨hsc, hR⟩ := hC
  obtain ⟨c1, w1, r1, st⟩ := Step.frz (args.flatMap owns) hI hn
  have hr1 : RepL (args.map (res mem)) c1 vs := repL_map _ (fun u hu v hv => rep_res st.inv (fun i hi es => frz_fits mem _ i (by simp only [List.mem_flatMap]; exact ⟨u, hu, hi⟩) es) hv) (RepL.mono _ st.le hr)
  have := h.run c1 _ vs _ st.inv.1 (hr1.to_data hsc) hR
  rw [w1] at this
  refine this.mono ?_
  rintro e w' ⟨v, r, rfl, ⟨hp, hK⟩, hb, hrep⟩
  have hb1 : Below c.w.heap.size c.w w' := hb
  let c2 : Cx := ⟨w', c.fz, c.ρ⟩
  have st2 : Step c mem n c2 mem n := Step.later hI hn rfl (fun _ h => h) hb1 (fun b hb => .inl hb)
  exact ⟨v, r, c2, mem, n, rfl, rfl, hK, st2, rep_plainV hp hrep⟩
/-- A function whose result is a new row, without memory in it; its arguments are lent. -/
def newO {α : Type} (e : TypeId) (s : Nat) (args : α → List PV) (pre : α → Prop) (post : α → List (List PV) → Prop) : AC := fun as mem n K =>
  ∃ x, as.map (res mem) = args x ∧ pre x ∧ ∀ es, post x es → K (.own n) (upd mem n (some (.row e s es))) (n + 1)
variable {Γ : Ctr} {G : PCtr} {α : Type} {args : α → List PV} {pre : α → Prop}
theorem newO_ok {e : TypeId} {s : Nat} {post : α → List (List PV) → Prop} (m : Nat) (hΓ : ∀ f C, Γ f = some C → ACok P f C) (hG : ∀ f R, G f = some R → PureOk P f R) (hm : P.follows .mixedOrders = true) {f : FuncId} {fn : Func} {code : Code} (rs : List ResultVar) (hf : P.funcs[f]? = some fn) (hb : fn.body = some code) (hrs : fn.results.toList = rs) (hN : codeN fn.ntmps code = true)
    (hname : (fn.name == "runtime.NumGoroutine") = false) (hl : ∀ x, (args x).length = m) (hle : Nat.ble m fn.ntmps = true) (hca : ∀ x, nmbL 0 (args x) = true) (hpl : ∀ x es, post x es → es.all (·.all plainU) = true)
    (h : ∀ x K, pre x → (∀ es, post x es → K es) → awp P G Γ 0 code (FinX P rs K e s) (entry (args x) (fun _ => none) 0)) : ACok P f (newO e s args pre post) := by
  subst hrs
  refine ⟨⟨fn, hf, by rw [hb]; rfl, hname⟩, fun c mem n as vs K hI hn hr hC => ?_⟩
  obtain ⟨x, hx, hp, hK⟩ := hC
  obtain ⟨c1, w1, r1, st⟩ := Step.frz (as.flatMap owns) hI hn
  have hr1 : RepL (as.map (res mem)) c1 vs := repL_map _ (fun u hu v hv => rep_res st.inv (fun i hi es => frz_fits mem _ i (by simp only [List.mem_flatMap]; exact ⟨u, hu, hi⟩) es) hv) (RepL.mono _ st.le hr)
  rw [hx] at hr1
  have hI0 : InvM c1.data (fun _ => none) := InvM.none_ ⟨st.inv.1.lt, st.inv.1.glob⟩
  have hn0 : Names c1.data 0 := ⟨fun _ _ => rfl, fun _ _ h => by cases h⟩
  have hcall := calls_of_body hΓ hG hm hf hb hN hI0 hn0 (hr1.to_data (hca x)) (by rw [hl]; exact Nat.le_of_ble_eq_true hle) (K := fun r mem _ => ∃ j es, r = .own j ∧ mem j = some (.row e s es) ∧ post x es) (h x (fun es => post x es) hp (fun _ h => h))
  have hwd : c1.data.w = c.w := w1
  rw [hwd] at hcall
  refine hcall.mono ?_
  rintro e' w' ⟨v, r, c2, m2, k2, rfl, rfl, ⟨j, es, rfl, hj, hpost⟩, st2, hrep⟩
  have hno : ∀ b, ¬ Mine c1.data (fun _ => none) b := by rintro b ⟨i, S, mb, h, _⟩; cases h
  obtain ⟨_, S2, g1, _, _⟩ := id st2.inv
  obtain ⟨u, us, hu, hown, hrl, hcs, hS⟩ := g1 j _ hj
  unfold Rep at hrep
  rw [hu] at hrep
  cases hrep
  have hall := hpl x es hpost
  have hflat : es.flatten.all plainU = true := by
    rw [List.all_eq_true] at hall ⊢
    intro u hu
    obtain ⟨l, hl, hul⟩ := List.mem_flatten.1 hu
    exact List.all_eq_true.1 (hall l hl) u hul
  obtain ⟨c', q1, q2, q3, q4⟩ := new_row hI hn none (w' := c2.w) (v := v) (e := e) (s := s) (es := es) (vs := us)
    (by rw [← hwd]; exact st2.os) (by rw [← hwd]; exact st2.tape) (by rw [← hwd]; exact st2.output) (by rw [← hwd]; exact st2.size) (fun i hi => by cases hi)
    (fun b hb _ => by rw [← hwd] at hb ⊢; exact st2.block b hb (hno b)) hown (repL_plain hflat hrl) hcs
    (fun b hb => by
      have hmine : Mine c2 m2 b := ⟨j, S2 j, _, hj, g1 j _ hj, by rw [hS]; exact hb⟩
      rcases st2.mine b hmine with h | h
      · exact absurd h (hno b)
      · rw [hwd] at h; exact .inr h)
  exact ⟨v, .own n, c', _, _, rfl, q1, hK es hpost, q2, q3⟩
/-- A function that writes into a row that is lent, plain data in it, and hands back plain data. -/
def wrtO {α : Type} (e : TypeId) (s : Nat) (args : α → List PV) (B : α → List (List PV)) (pre : α → Prop) (post : α → PV → List (List PV) → Prop) : AC := fun as mem n K =>
  ∃ x i, as = .own i :: args x ∧ mem i = some (.row e s (B x)) ∧ pre x ∧ ∀ r es, post x r es → K r (upd mem i (some (.row e s es))) n
theorem wrtO_ok {e : TypeId} {s : Nat} {B : α → List (List PV)} {post : α → PV → List (List PV) → Prop} (m : Nat) (hΓ : ∀ f C, Γ f = some C → ACok P f C) (hG : ∀ f R, G f = some R → PureOk P f R) (hm : P.follows .mixedOrders = true) {f : FuncId} {fn : Func} {code : Code} (rs : List ResultVar) (hf : P.funcs[f]? = some fn) (hb : fn.body = some code) (hrs : fn.results.toList = rs) (hN : codeN fn.ntmps code = true)
    (hname : (fn.name == "runtime.NumGoroutine") = false) (hl : ∀ x, (args x).length + 1 = m) (hle : Nat.ble m fn.ntmps = true) (hca : ∀ x, nmbL 0 (args x) = true)
    (h : ∀ x K, pre x → (∀ r es, post x r es → K r (.row e s es)) → awp P G Γ 1 code (FinV P rs K) (entry (.own 0 :: args x) (mkM [(0, .row e s (B x))]) 1)) : ACok P f (wrtO e s args B pre post) := by
  subst hrs
  refine ⟨⟨fn, hf, by rw [hb]; rfl, hname⟩, fun c mem n as vs K hI hn hr hC => ?_⟩
  obtain ⟨x, i, rfl, hi, hp, hK⟩ := hC
  have hin := name_lt hI hn hi
  obtain ⟨v, vs', rfl⟩ : ∃ v vs', vs = v :: vs' := by
    cases vs with
    | nil => rw [RepL.cons_iff] at hr; obtain ⟨_, _, e, _⟩ := hr; cases e
    | cons v vs' => exact ⟨v, vs', rfl⟩
  have hr1 := repL_oneO hn hin hr (hca x)
  refine (calls_of_body hΓ hG hm hf hb hN (hI.one hi rfl) (Names.one hn) hr1 (by have := hl x; rw [List.length_cons, this]; exact Nat.le_of_ble_eq_true hle) (K := fun r mem _ => (res mem r).nmb 0 = true ∧ 0 ∉ owns r ∧ ∃ b', mem 0 = some b' ∧ b'.nmb 0 = true ∧ ∃ es, b' = .row e s es ∧ post x (res mem r) es) (h x (fun r b' => ∃ es, b' = .row e s es ∧ post x r es) hp (fun r es h => ⟨es, rfl, h⟩))).mono ?_
  rintro e' w' ⟨v', r, c1, m1, k1, rfl, rfl, ⟨hr0, hno, b', hb1, hb2, es, rfl, hpost⟩, st, hrep⟩
  obtain ⟨c2, e1, e2, st2⟩ := Step.frz (owns r) st.inv st.free
  have hrep2 : Rep (res m1 r) c2 v' := rep_res st2.inv (frz_fits m1 (owns r)) (Rep.mono _ st2.le hrep)
  have h0 : frz m1 (owns r) 0 = some (.row e s es) := by rw [frz_not hno]; exact hb1
  have stA := st.trans st2
  refine ⟨v', _, ⟨c2.w, c2.fz, c.ρ⟩, _, _, rfl, e1, hK _ _ hpost, ?_, hrep2.any hr0 rfl rfl⟩
  refine Step.lift hI hn hi rfl stA (fun l => if l = i then some 0 else none) ?_ ?_ ?_ (fun _ _ => rfl) (fun l hl => hn.1 l hl) ?_ ?_ (.inl rfl)
  · intro l a hl
    by_cases e : l = i
    · rw [if_pos e] at hl; cases hl; exact .inl ⟨e, rfl⟩
    · rw [if_neg e] at hl; cases hl
  · intro l l' a hl hl'
    by_cases e : l = i
    · by_cases e' : l' = i
      · rw [e, e']
      · rw [if_neg e'] at hl'; cases hl'
    · rw [if_neg e] at hl; cases hl
  · intro l mb hl
    by_cases e : l = i
    · subst e; rw [upd_same] at hl; cases hl; exact .inl ⟨0, if_pos rfl, h0, hb2⟩
    · rw [upd_other _ _ e] at hl
      refine .inr ⟨if_neg e, e, ?_, hl⟩
      rintro rfl
      exact absurd (name_lt hI hn hl) (Nat.lt_irrefl _)
  · intro a ha
    rw [if_neg (by omega)] at ha; cases ha
  · intro v hv; rw [hn.1 n (Nat.le_refl _)] at hv; cases hv
/-- .. where what is written, and what comes back, is told by functions. -/
def wrtF {α : Type} (e : TypeId) (s : Nat) (args : α → List PV) (B : α → List (List PV)) (pre : α → Prop) (out : α → PV) (E : α → List (List PV)) : AC := fun as mem n K =>
  ∃ x i, as = .own i :: args x ∧ mem i = some (.row e s (B x)) ∧ pre x ∧ K (out x) (upd mem i (some (.row e s (E x)))) n
theorem wrtF_ok {f : FuncId} {e : TypeId} {s : Nat} {B : α → List (List PV)} {out : α → PV} {E : α → List (List PV)} (h : ACok P f (wrtO e s args B pre fun x r es => r = out x ∧ es = E x)) : ACok P f (wrtF e s args B pre out E) :=
  ⟨h.fn, fun c mem n as vs K hI hn hr hC => h.run c mem n as vs K hI hn hr (by
    obtain ⟨x, i, e1, e2, hp, hK⟩ := hC
    exact ⟨x, i, e1, e2, hp, by rintro r es ⟨rfl, rfl⟩; exact hK⟩)⟩
end
end Go.Proofs.Ytcagfbgplpokkaa
