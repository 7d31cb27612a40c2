/- Regions: operations in the text's order; operations in an order that is drawn. -/
import Derived.Test.YtoocbpendccngaaUF8

namespace Go.Proofs.Ytoocbpendccngaa
set_option maxRecDepth 100000
set_option linter.unusedVariables false
set_option linter.unusedSimpArgs false
open Go.RowKit
structure AS where
  tmp : Nat → PV
  mem : Mem
  nx : Nat
def evT (tmp : Nat → PV) : Operand → PV
  | .tmp t => tmp t
  | .const v => pvOf v
  | .global _ => .undef
  | .func f => .clo f []
def putT (tmp : Nat → PV) (dst : Option Tmp) (r : PV) : Nat → PV := match dst with
  | some d => upd tmp d r
  | none => tmp
def gdst (all : List Oper) (j : Nat) : Option Tmp := (all[j]?).bind (·.dst)
def aG (all : List Oper) (tmp : Nat → PV) (g : Option (Nat × Bool)) (p q : Prop) : Prop :=
  match g with
  | none => p
  | some (j, want) => match gdst all j with
    | some d => (match tmp d with
      | .bool b => (b = want → p) ∧ (b ≠ want → q)
      | .tup [] => q
      | _ => False)
    | none => False
def arun (P : Program) (Γ : Ctr) (all : List Oper) : List Oper → AS → (AS → Prop) → Prop
  | [], σ, K => K σ
  | o :: rest, σ, K => aG all σ.tmp o.guard (aop P Γ (evT σ.tmp) o.op σ.mem σ.nx fun r m n => arun P Γ all rest ⟨putT σ.tmp o.dst r, m, n⟩ K) (arun P Γ all rest ⟨putT σ.tmp o.dst (.tup []), σ.mem, σ.nx⟩ K)
section
variable {P : Program}
/-- The frame and the world, as the abstract state has them. -/
def Inv (c0 : Cx) (mem0 : Mem) (n0 N : Nat) (σ : AS) (a : Act) (w : World) : Prop :=
  ∃ c, c.w = w ∧ Step c0 mem0 n0 c σ.mem σ.nx ∧ (∀ j, Rep (σ.tmp j) c (a.tmps.getD j undef)) ∧ a.tmps.size = N ∧ a.defers = []
theorem rep_evT {c : Cx} {tmp : Nat → PV} {a : Act} (h : ∀ j, Rep (tmp j) c (a.tmps.getD j undef)) : ∀ x, Rep (evT tmp x) c (a.eval x)
  | .tmp t => h t
  | .const v => rep_pvOf c v
  | .global _ => by unfold evT Rep; trivial
  | .func f => by unfold evT Rep; exact ⟨#[], rfl, by simp [RepL.nil_iff]⟩
theorem getD_put {a : Act} {d j : Nat} {v : Value} (hd : d < a.tmps.size) : (a.put (some d) v).tmps.getD j undef = if j = d then v else a.tmps.getD j undef := by
  simp only [Act.put, Array.getD_eq_getD_getElem?, Array.getElem?_setIfInBounds]
  by_cases e : d = j
  · subst e; simp [hd]
  · rw [if_neg e, if_neg (fun e' => e e'.symm)]
theorem rep_put {c c' : Cx} {tmp : Nat → PV} {a : Act} {N : Nat} (h : ∀ j, Rep (tmp j) c (a.tmps.getD j undef)) (hle : c.Le c') (hN : a.tmps.size = N) {dst : Option Tmp} (hd : ∀ d, dst = some d → d < N) {r : PV} {v : Value} (hr : Rep r c' v) :
    (∀ j, Rep (putT tmp dst r j) c' ((a.put dst v).tmps.getD j undef)) ∧ (a.put dst v).tmps.size = N := by
  cases dst with
  | none => exact ⟨fun j => Rep.mono _ hle (h j), hN⟩
  | some d =>
    have hlt := hd d rfl
    refine ⟨fun j => ?_, by simp [Act.put, hN]⟩
    rw [getD_put (a := a) (d := d) (by rw [hN]; exact hlt)]
    simp only [putT, upd]
    split
    · exact hr
    · exact Rep.mono _ hle (h j)
theorem rep_skip (c : Cx) : Rep (.tup []) c undef := by unfold Rep; exact ⟨#[], rfl, by simp [RepL.nil_iff]⟩
theorem yielded_none {ops : Array Oper} {a : Act} {c : Cx} {tmp : Nat → PV} {j d : Nat} (hg : gdst ops.toList j = some d) (h : ∀ j, Rep (tmp j) c (a.tmps.getD j undef)) (ht : tmp d = .tup []) : yielded ops a.tmps j = none := by
  have hr := h d
  rw [ht] at hr
  unfold Rep at hr
  obtain ⟨vs, hv, _⟩ := hr
  have hd : (ops[j]?).bind (·.dst) = some d := by simpa [gdst] using hg
  unfold yielded
  rw [hd]
  simp only [Option.bind_some]
  cases hq : a.tmps[d]? with
  | none => rfl
  | some x =>
    rw [Array.getD_eq_getD_getElem?, hq] at hv
    simp only [Option.getD_some] at hv
    rw [hv]
theorem yielded_of {ops : Array Oper} {a : Act} {c : Cx} {tmp : Nat → PV} {j d : Nat} {b : Bool} (hg : gdst ops.toList j = some d) (h : ∀ j, Rep (tmp j) c (a.tmps.getD j undef)) (ht : tmp d = .bool b) : yielded ops a.tmps j = some b := by
  have hr := h d
  rw [ht] at hr
  unfold Rep at hr
  have hd : (ops[j]?).bind (·.dst) = some d := by simpa [gdst] using hg
  have hx : a.tmps[d]? = some (.bool b) := by
    cases hq : a.tmps[d]? with
    | none => rw [Array.getD_eq_getD_getElem?, hq] at hr; cases hr
    | some x => rw [Array.getD_eq_getD_getElem?, hq] at hr; simp at hr; rw [hr]
  simp [yielded, hd, hx]
theorem arun_sound {Γ : Ctr} (hΓ : ∀ f C, Γ f = some C → ACok P f C) {c0 : Cx} {mem0 : Mem} {n0 N : Nat} {ops : Array Oper} (hN : ∀ (i : Nat) (o : Oper), ops[i]? = some o → ∀ d, o.dst = some d → d < N) {Q : Exit → Act → World → Prop} {K : AS → Prop}
    (hK : ∀ σ a w, K σ → Inv c0 mem0 n0 N σ a w → Q .normal a w) : ∀ (rest : List Oper) (k : Nat) (σ : AS) (a : Act) (w : World), ops.toList.drop k = rest → arun P Γ ops.toList rest σ K → Inv c0 mem0 n0 N σ a w →
    wpOps P ops Q (List.range' k rest.length) a w
  | [], k, σ, a, w, _, h, hI => by
    simp only [List.length_nil, List.range'_zero, wpOps]
    exact hK σ a w h hI
  | o :: rest, k, σ, a, w, hd, h, hI => by
    have hk : ops[k]? = some o := by
      have := congrArg (·[0]?) hd
      simpa [List.getElem?_drop] using this
    have hd' : ops.toList.drop (k + 1) = rest := by
      have := congrArg List.tail hd
      simpa using this
    obtain ⟨c, rfl, hst, hrep, hsz, hdf⟩ := hI
    simp only [List.length_cons, List.range'_succ, wpOps, hk]
    simp only [arun] at h
    have hop : (aop P Γ (evT σ.tmp) o.op σ.mem σ.nx fun r m n => arun P Γ ops.toList rest ⟨putT σ.tmp o.dst r, m, n⟩ K) → o.wp P a c.w (wpOps P ops Q (List.range' (k + 1) rest.length)) Q := by
      intro h
      refine op_sound hΓ h (rep_evT hrep) hst.inv hst.free (fun r c' m n v h1 h2 h3 => ?_)
      obtain ⟨g1, g2⟩ := rep_put hrep h2.le hsz (hN k o hk) h3
      exact arun_sound hΓ hN hK rest (k + 1) _ _ _ hd' h1 ⟨c', rfl, hst.trans h2, g1, g2, by cases o.dst <;> exact hdf⟩
    have hskip : arun P Γ ops.toList rest ⟨putT σ.tmp o.dst (.tup []), σ.mem, σ.nx⟩ K → wpOps P ops Q (List.range' (k + 1) rest.length) (a.put o.dst undef) c.w := by
      intro h
      obtain ⟨g1, g2⟩ := rep_put (r := .tup []) (v := undef) hrep (.refl c) hsz (hN k o hk) (rep_skip c)
      exact arun_sound hΓ hN hK rest (k + 1) _ _ _ hd' h ⟨c, rfl, hst, g1, g2, by cases o.dst <;> exact hdf⟩
    unfold aG at h
    cases hg : o.guard with
    | none =>
      rw [hg] at h
      have hw : Region.wanted o (yielded ops a.tmps) = true := by simp [Region.wanted, hg]
      rw [if_pos hw]
      exact .inl (hop h)
    | some q =>
      obtain ⟨j, want⟩ := q
      rw [hg] at h
      simp only at h
      cases hgd : gdst ops.toList j with
      | none => rw [hgd] at h; exact h.elim
      | some d =>
        rw [hgd] at h
        simp only at h
        cases ht : σ.tmp d with
        | bool b =>
          rw [ht] at h
          simp only at h
          have hy := yielded_of hgd hrep ht
          by_cases hb : b = want
          · have hw : Region.wanted o (yielded ops a.tmps) = true := by simp [Region.wanted, hg, hy, hb]
            rw [if_pos hw]
            exact .inl (hop (h.1 hb))
          · have hw : Region.wanted o (yielded ops a.tmps) = false := by simp [Region.wanted, hg, hy, hb]
            rw [hw]
            exact hskip (h.2 hb)
        | tup xs =>
          rw [ht] at h
          cases xs with
          | nil =>
            have hy := yielded_none hgd hrep ht
            have hw : Region.wanted o (yielded ops a.tmps) = false := by simp [Region.wanted, hg, hy]
            rw [hw]
            exact hskip h
          | cons _ _ => exact h.elim
        | _ => rw [ht] at h; exact h.elim
/-- The operation comes to one value, whatever is asked of it. -/
def Fun (f : (PV → Prop) → Prop) : Prop := ∀ K, f K → ∃ r, K r ∧ ∀ K', K' r → f K'
theorem Fun.mono {f : (PV → Prop) → Prop} (h : Fun f) {K K' : PV → Prop} (hk : ∀ r, K r → K' r) (hf : f K) : f K' := by
  obtain ⟨r, h1, h2⟩ := h K hf
  exact h2 K' (hk r h1)
/-- Contracts of functions that only compute. -/
abbrev PC := List PV → (PV → Prop) → Prop
structure PureOk (P : Program) (f : FuncId) (R : PC) : Prop where
  fn : ∃ fn, P.funcs[f]? = some fn ∧ fn.body.isNone = false ∧ (fn.name == "runtime.NumGoroutine") = false
  fun_ : ∀ args, Fun (R args)
  run : ∀ (c : Cx) (args : List PV) (vs : List Value) (K : PV → Prop), FzOk c → RepL args c.data vs → R args K →
    Calls P f vs.toArray c.w (fun e w' => ∃ v r, e = .returned v ∧ K r ∧ Below c.w.heap.size c.w w' ∧ Rep r ⟨w', fun b => c.fz b ∨ c.w.heap.size ≤ b ∧ b < w'.heap.size, fun _ => none⟩ v)
abbrev PCtr := FuncId → Option PC
def pureC (R : PC) : AC := fun args mem n K => nmbL 0 (args.map (res mem)) = true ∧ R (args.map (res mem)) fun r => K r (frz mem (args.flatMap owns)) n
def Γof (G : PCtr) : Ctr := fun f => (G f).map pureC
theorem pure_ok {f : FuncId} {R : PC} (h : PureOk P f R) : ACok P f (pureC R) := by
  refine ⟨h.fn, fun c mem n args vs K hI hn hr hC => ?_⟩
  obtain ⟨hsc, hR⟩ := hC
  obtain ⟨c1, w1, r1, st⟩ := Step.frz (args.flatMap owns) hI hn
  have hr1 : RepL (args.map (res mem)) c1 vs := repL_map _ (fun u hu v hv => rep_res st.inv (fun i hi es => frz_fits mem _ i (by simp only [List.mem_flatMap]; exact ⟨u, hu, hi⟩) es) hv) (RepL.mono _ st.le hr)
  have := h.run c1 _ vs _ st.inv.1 (hr1.to_data hsc) hR
  rw [w1] at this
  refine this.mono ?_
  rintro e w' ⟨v, r, rfl, hK, hb, hrep⟩
  have hb1 : Below c1.w.heap.size c1.w w' := by rw [w1]; exact hb
  let c2 : Cx := ⟨w', fun b => c1.fz b ∨ c.w.heap.size ≤ b ∧ b < w'.heap.size, c1.ρ⟩
  have st2 : Step c1 (frz mem (args.flatMap owns)) n c2 (frz mem (args.flatMap owns)) n := Step.later st.inv st.free rfl (fun _ h => .inl h) hb1 (fun b hb => hb.imp (fun x => x) (fun x => by rw [w1]; exact x))
  refine ⟨v, r, c2, _, n, rfl, rfl, hK, st.trans st2, Rep.mono _ ?_ hrep⟩
  exact ⟨fun _ h => h, fun _ _ _ => rfl, fun _ _ h => by cases h⟩
def isFro (mem : Mem) (i : Nat) : Bool := match mem i with
  | some (.fro _) => true
  | _ => false
def aCallC (P : Program) (G : PCtr) (ev : Operand → PV) (cl : Call) (mem : Mem) (K : PV → Prop) : Prop :=
  match cl.callee with
  | .builtin .len => aLenL P mem (cl.args.toList.map ev) cl.argTypes.toList K
  | .builtin .max => aMax max (cl.args.toList.map ev) K
  | .builtin .min => aMax min (cl.args.toList.map ev) K
  | .value f => (match ev f with
    | .clo g [] => (match G g with
      | some R => ((cl.args.toList.map ev).flatMap owns).all (isFro mem) = true ∧ nmbL 0 ((cl.args.toList.map ev).map (res mem)) = true ∧ R ((cl.args.toList.map ev).map (res mem)) K
      | none => False)
    | _ => False)
  | _ => False
def aSliceC (P : Program) (t : TypeId) (mem : Mem) (x : PV) (lo hi : Option PV) (K : PV → Prop) : Prop :=
  match x with
  | .str _ => aSlice P t mem 0 x lo hi fun r _ _ => K r
  | .seq _ => aSlice P t mem 0 x lo hi fun r _ _ => K r
  | _ => False
def aopc (P : Program) (G : PCtr) (ev : Operand → PV) (op : Op) (mem : Mem) (K : PV → Prop) : Prop :=
  match op with
  | .move x => K (ev x)
  | .assign x => K (ev x)
  | .pick c a b => aPick (ev c) (ev a) (ev b) K
  | .build t ps => aBuild P t (ps.toList.map fun p => (p.1, ev p.2)) K
  | .load t a => aLoad P t mem (ev a) K
  | .nilCheck x => aNil (ev x) K
  | .binOp op t x y _ => aBin' P op t (ev x) (ev y) K
  | .unOp op _ x => aUn op (ev x) K
  | .convert s d x => aConv P s d mem (ev x) K
  | .slice t x lo hi none => aSliceC P t mem (ev x) (lo.map ev) (hi.map ev) K
  | .fieldAddr t x f => aFld P t f (ev x) K
  | .field t x f => aField P t (ev x) f K
  | .indexAddr t x ix => aIdx P t mem (ev x) (ev ix) K
  | .index t x ix => aIndex P t (ev x) (ev ix) K
  | .extract x i => aExtract (ev x) i K
  | .call cl => aCallC P G ev cl mem K
  | _ => False
theorem frz_all_fro {mem : Mem} : ∀ {is : List Nat}, is.all (isFro mem) = true → frz mem is = mem
  | [], _ => rfl
  | i :: is, h => by
    simp only [List.all_cons, Bool.and_eq_true] at h
    have h1 : frz1 mem i = mem := by
      unfold frz1
      unfold isFro at h
      cases hm : mem i with
      | none => rfl
      | some mb => rw [hm] at h; cases mb <;> first | rfl | (exact absurd h.1 (by simp))
    show frz (frz1 mem i) is = mem
    rw [h1]
    exact frz_all_fro h.2
/-- A calm operation is an operation that leaves the named memory as it is. -/
theorem aop_of_calm {G : PCtr} {ev : Operand → PV} {op : Op} {mem : Mem} {n : Nat} {K : PV → Prop} (h : aopc P G ev op mem K) : aop P (Γof G) ev op mem n fun r m k => K r ∧ m = mem ∧ k = n := by
  have triv : ∀ {f : (PV → Prop) → Prop}, f K → (∀ K', (∀ r, K r → K' r) → f K') → f (fun r => K r ∧ mem = mem ∧ n = n) := fun _ hm => hm _ fun r hr => ⟨hr, rfl, rfl⟩
  have ek : (fun r => K r ∧ mem = mem ∧ n = n) = K := by funext r; simp
  cases op <;> simp only [aopc] at h <;> (try exact h.elim) <;> (try (simp only [aop, and_true]; exact h))
  case convert s d x => exact convX_of h
  case slice t x lo hi mx =>
    cases mx <;> simp only [aopc] at h <;> (try exact h.elim)
    simp only [aop]
    unfold aSliceC at h
    cases hx : ev x <;> rw [hx] at h <;> simp only at h <;> (try exact h.elim)
    all_goals
      unfold aSlice at h ⊢
      simpa using h
  case call cl =>
    obtain ⟨callee, args, argTypes⟩ := cl
    unfold aCallC at h
    simp only [aop]
    unfold aCall
    cases callee <;> simp only at h ⊢ <;> (try exact h.elim)
    case value f =>
      cases hc : ev f with
      | clo g caps =>
        rw [hc] at h
        cases caps with
        | cons _ _ => exact h.elim
        | nil =>
          simp only at h ⊢
          cases hg : G g with
          | none => rw [hg] at h; exact h.elim
          | some R =>
            rw [hg] at h
            obtain ⟨h1, h2, h3⟩ := h
            simp only [Γof, hg, Option.map_some, List.append_nil, pureC]
            rw [frz_all_fro h1]
            exact ⟨h2, by simpa using h3⟩
      | _ => rw [hc] at h; exact h.elim
    case builtin b =>
      cases b <;> simp only at h ⊢ <;> (try exact h.elim)
      all_goals (simp only [and_true]; exact h)
theorem fun_pick (t a b : PV) : Fun (aPick t a b) := by
  intro K h
  unfold aPick at *
  cases t with
  | bool x => cases x with
    | true => exact ⟨a, h.1 rfl, fun K' hk => ⟨fun _ => hk, fun h => by cases h⟩⟩
    | false => exact ⟨b, h.2 rfl, fun K' hk => ⟨fun h => (by cases h), fun _ => hk⟩⟩
  | _ => exact h.elim
theorem fun_nil (x : PV) : Fun (aNil x) := by
  intro K h
  unfold aNil at *
  cases x <;> first | exact h.elim | exact ⟨_, h, fun _ h => h⟩
theorem fun_build (t : TypeId) (ps : List (Nat × PV)) : Fun (aBuild P t ps) := by
  intro K h
  unfold aBuild at *
  split at h
  · split at h
    · exact ⟨_, h, fun _ h => h⟩
    · exact h.elim
  · exact h.elim
theorem fun_load (t : TypeId) (mem : Mem) (p : PV) : Fun (aLoad P t mem p) := by
  intro K h
  unfold aLoad at *
  split at h
  · split at h
    · exact ⟨_, h, fun _ h => h⟩
    · exact h.elim
  · split at h
    · exact ⟨_, h.2, fun _ h' => ⟨h.1, h'⟩⟩
    · exact h.elim
  · exact h.elim
theorem fun_un (op : UnOp) (x : PV) : Fun (aUn op x) := by
  intro K h
  unfold aUn at *
  split at h
  · exact ⟨_, h, fun _ h => h⟩
  · exact ⟨_, h.2, fun _ h' => ⟨h.1, h'⟩⟩
  · exact h.elim
theorem fun_bin0 (op : BinOp) (t : TypeId) (x y : PV) : Fun (aBin P op t x y) := by
  intro K h
  unfold aBin at *
  split at h <;> first
    | exact h.elim
    | exact ⟨_, h, fun _ h => h⟩
    | exact ⟨_, h.2, fun _ h' => ⟨h.1, h'⟩⟩
    | exact ⟨_, h.2.2, fun _ h' => ⟨h.1, h.2.1, h'⟩⟩
    | exact ⟨_, h.2.2.2, fun _ h' => ⟨h.1, h.2.1, h.2.2.1, h'⟩⟩
    | exact ⟨_, h.2.2.2.2, fun _ h' => ⟨h.1, h.2.1, h.2.2.1, h.2.2.2.1, h'⟩⟩
    | exact ⟨_, h.2.2.2.2.2, fun _ h' => ⟨h.1, h.2.1, h.2.2.1, h.2.2.2.1, h.2.2.2.2.1, h'⟩⟩
    | exact ⟨_, h.2.2.2.2.2.2, fun _ h' => ⟨h.1, h.2.1, h.2.2.1, h.2.2.2.1, h.2.2.2.2.1, h.2.2.2.2.2.1, h'⟩⟩
theorem fun_bin (op : BinOp) (t : TypeId) (x y : PV) : Fun (aBin' P op t x y) := by
  intro K h
  unfold aBin' at *
  split at h
  · split at h
    · split at h
      · exact ⟨_, h, fun _ h => h⟩
      · exact h.elim
    · exact h.elim
  · split at h
    · split at h
      · exact ⟨_, h, fun _ h => h⟩
      · exact h.elim
    · exact h.elim
  · exact fun_bin0 _ _ _ _ K h
theorem fun_conv (s d : TypeId) (mem : Mem) (x : PV) : Fun (aConv P s d mem x) := by
  intro K h
  unfold aConv aConvInt at *
  split at h
  · split at h
    · exact ⟨_, h.2, fun _ h' => ⟨h.1, h'⟩⟩
    · exact h.elim
  · split at h
    · exact ⟨_, h, fun _ h' => h'⟩
    · exact h.elim
  · split at h
    · exact ⟨_, h.2, fun _ h' => ⟨h.1, h'⟩⟩
    · exact h.elim
  · split at h
    · exact ⟨_, h, fun _ h' => h'⟩
    · obtain ⟨l, e, h⟩ := h; exact ⟨_, h, fun _ h' => ⟨l, e, h'⟩⟩
    · split at h
      · obtain ⟨e1, e2, l, e, h⟩ := h; exact ⟨_, h, fun _ h' => ⟨e1, e2, l, e, h'⟩⟩
      · obtain ⟨l, e, h⟩ := h; exact ⟨_, h, fun _ h' => ⟨l, e, h'⟩⟩
      · exact h.elim
    · exact h.elim
  · exact h.elim
theorem fun_fld (s : TypeId) (f : Nat) (p : PV) : Fun (aFld P s f p) := by
  intro K h
  unfold aFld at *
  split at h
  · split at h <;> first | exact h.elim | exact ⟨_, h, fun _ h => h⟩
  · exact h.elim
theorem fun_field (s : TypeId) (p : PV) (f : Nat) : Fun (aField P s p f) := by
  intro K h
  unfold aField at *
  split at h
  · split at h <;> first | exact h.elim | exact ⟨_, h, fun _ h => h⟩
  · exact h.elim
theorem fun_idx (t : TypeId) (mem : Mem) (x ix : PV) : Fun (aIdx P t mem x ix) := by
  intro K h
  unfold aIdx at *
  split at h
  · obtain ⟨h0, h⟩ := h
    split at h
    · obtain ⟨y, e1, e2, h⟩ := h; exact ⟨_, h, fun _ h' => ⟨h0, y, e1, e2, h'⟩⟩
    · split at h
      · obtain ⟨e1, e2, h⟩ := h; exact ⟨_, h, fun _ h' => ⟨h0, e1, e2, h'⟩⟩
      · obtain ⟨y, e1, e2, h⟩ := h; exact ⟨_, h, fun _ h' => ⟨h0, y, e1, e2, h'⟩⟩
      · exact h.elim
    · exact h.elim
  · exact h.elim
theorem fun_index (t : TypeId) (x ix : PV) : Fun (aIndex P t x ix) := by
  intro K h
  unfold aIndex at *
  split at h
  · obtain ⟨e0, e1, e2, h⟩ := h; exact ⟨_, h, fun _ h' => ⟨e0, e1, e2, h'⟩⟩
  · exact h.elim
theorem fun_extract (x : PV) (i : Nat) : Fun (aExtract x i) := by
  intro K h
  unfold aExtract at *
  split at h
  · split at h <;> first | exact h.elim | exact ⟨_, h, fun _ h => h⟩
  · exact h.elim
theorem fun_slice (t : TypeId) (mem : Mem) (x : PV) (lo hi : Option PV) : Fun (aSliceC P t mem x lo hi) := by
  intro K h
  unfold aSliceC at *
  split at h <;> (try exact h.elim)
  all_goals
    unfold aSlice at *
    obtain ⟨e0, h⟩ := h
    simp only
    split at h <;> (try exact h.elim)
  · obtain ⟨e1, e2, e3, h⟩ := h; exact ⟨_, h, fun _ h' => ⟨e0, e1, e2, e3, h'⟩⟩
  · obtain ⟨e1, e2, e3, e4, h⟩ := h; exact ⟨_, h, fun _ h' => ⟨e0, e1, e2, e3, e4, h'⟩⟩
theorem fun_len (t : TypeId) (mem : Mem) (x : PV) : Fun (aLen P t mem x) := by
  intro K h
  unfold aLen at *
  split at h
  · exact ⟨_, h.2, fun _ h' => ⟨h.1, h'⟩⟩
  · exact ⟨_, h.2, fun _ h' => ⟨h.1, h'⟩⟩
  · exact ⟨_, h.2, fun _ h' => ⟨h.1, h'⟩⟩
  · obtain ⟨e0, h⟩ := h
    split at h <;> first | exact h.elim | exact ⟨_, h, fun _ h' => ⟨e0, h'⟩⟩
  · exact h.elim
theorem fun_max (f : Int → Int → Int) (xs : List PV) : Fun (aMax f xs) := by
  intro K h
  unfold aMax at *
  split at h <;> first | exact h.elim | exact ⟨_, h, fun _ h => h⟩
theorem fun_callC {G : PCtr} (hG : ∀ f R, G f = some R → PureOk P f R) (ev : Operand → PV) (cl : Call) (mem : Mem) : Fun (aCallC P G ev cl mem) := by
  intro K h
  unfold aCallC at *
  split at h
  · unfold aLenL at *
    split at h
    · exact fun_len _ _ _ K h
    · exact h.elim
  · exact fun_max _ _ K h
  · exact fun_max _ _ K h
  · split at h
    · split at h
      · rename_i R hg
        obtain ⟨e1, e2, h⟩ := h
        obtain ⟨r, h1, h2⟩ := (hG _ _ hg).fun_ _ K h
        exact ⟨r, h1, fun K' hk => ⟨e1, e2, h2 K' hk⟩⟩
      · exact h.elim
    · exact h.elim
  · exact h.elim
theorem fun_opc {G : PCtr} (hG : ∀ f R, G f = some R → PureOk P f R) (ev : Operand → PV) (op : Op) (mem : Mem) : Fun (aopc P G ev op mem) := by
  intro K h
  cases op <;> simp only [aopc] at h <;> (try exact h.elim)
  case move x => exact ⟨_, h, fun _ h => h⟩
  case assign x => exact ⟨_, h, fun _ h => h⟩
  case pick t a b => exact fun_pick _ _ _ K h
  case build t ps => exact fun_build _ _ K h
  case load t a => exact fun_load _ _ _ K h
  case nilCheck x => exact fun_nil _ K h
  case binOp op t x y _ => exact fun_bin _ _ _ _ K h
  case unOp op _ x => exact fun_un _ _ K h
  case convert s d x => exact fun_conv _ _ _ _ K h
  case slice t x lo hi mx =>
    cases mx with
    | none => exact fun_slice _ _ _ _ _ K h
    | some _ => exact h.elim
  case fieldAddr t x f => exact fun_fld _ _ _ K h
  case field t x f => exact fun_field _ _ _ K h
  case indexAddr t x ix => exact fun_idx _ _ _ _ K h
  case index t x ix => exact fun_index _ _ _ K h
  case extract x i => exact fun_extract _ _ K h
  case call cl => exact fun_callC hG _ _ _ K h
end
end Go.Proofs.Ytoocbpendccngaa
