/- Contracts; one operation; regions; the whole code: the abstract reading of code, and that the model does what it says. -/
import Derived.Test.YtoocbpendccngaaUF7
import Derived.Laws.MakeOwn
import Derived.Scope
import Derived.Orders
import Derived.Laws.IdiomStrings

namespace Go.Proofs.Ytoocbpendccngaa
set_option maxRecDepth 100000
set_option linter.unusedVariables false
set_option linter.unusedSimpArgs false
open Go.RowKit
abbrev AC := List PV → Mem → Nat → (PV → Mem → Nat → Prop) → Prop
abbrev Ctr := FuncId → Option AC
section
variable {P : Program}
structure ACok (P : Program) (f : FuncId) (C : AC) : Prop where
  fn : ∃ fn, P.funcs[f]? = some fn ∧ fn.body.isNone = false ∧ (fn.name == "runtime.NumGoroutine") = false
  run : ∀ (c : Cx) (mem : Mem) (n : Nat) (args : List PV) (vs : List Value) (K : PV → Mem → Nat → Prop), InvM c mem → Names c n → RepL args c vs → C args mem n K →
    Calls P f vs.toArray c.w (fun e w' => ∃ v r c' mem' n', e = .returned v ∧ c'.w = w' ∧ K r mem' n' ∧ Step c mem n c' mem' n' ∧ Rep r c' v)
def aPick (t a b : PV) (K : PV → Prop) : Prop :=
  match t with
  | .bool x => (x = true → K a) ∧ (x = false → K b)
  | _ => False
def aNil (x : PV) (K : PV → Prop) : Prop :=
  match x with
  | .ref .. | .rref .. | .eref _ | .clo .. => K x
  | _ => False
def aMk (P : Program) (t : TypeId) (l cp : PV) (mem : Mem) (n : Nat) (K : PV → Mem → Nat → Prop) : Prop :=
  match elOf P t, l, cp with
  | some (e, s, by_), .int _ k, .int _ k' => k = k' ∧ 0 ≤ k ∧ (by_ : Int) * k ≤ 281474976710656 ∧ k ≤ 9223372036854775807 ∧ (match zeroOf P e with
    | some zs => ((zs.map (resC fun _ => none)).all fun u => u.isCell && u.nmb 0) = true ∧ K (.own n) (upd mem n (some (.row e s (List.replicate k.toNat (zs.map (resC fun _ => none)))))) (n + 1)
    | none => False)
  | _, _, _ => False
def aLenL (P : Program) (mem : Mem) (xs : List PV) (ts : List TypeId) (K : PV → Prop) : Prop :=
  match xs, ts with
  | [x], [t] => aLen P t mem x K
  | _, _ => False
def aCall (P : Program) (Γ : Ctr) (ev : Operand → PV) (cl : Call) (mem : Mem) (n : Nat) (K : PV → Mem → Nat → Prop) : Prop :=
  match cl.callee with
  | .builtin .len => aLenL P mem (cl.args.toList.map ev) cl.argTypes.toList fun r => K r mem n
  | .builtin .append => (match cl.args.toList.map ev, cl.argTypes.toList with
    | [x, y], [t, t'] => t = t' ∧ aApp P t x y mem n K
    | _, _ => False)
  | .builtin .max => aMax max (cl.args.toList.map ev) fun r => K r mem n
  | .builtin .min => aMax min (cl.args.toList.map ev) fun r => K r mem n
  | .value f => (match ev f with
    | .clo g caps => (match Γ g with
      | some C => C (cl.args.toList.map ev ++ caps) mem n K
      | none => False)
    | _ => False)
  | _ => False
def aConvX (P : Program) (s d : TypeId) (x : PV) (mem : Mem) (n : Nat) (K : PV → Mem → Nat → Prop) : Prop :=
  match kindOf P s, kindOf P d, x with
  | some (.inr .bytes), some (.inr .bytes), .own i => (match mem i with
    | some (.row _ _ es) => s = d ∧ 0 < es.length ∧ K (.own i) (upd mem i (some (.fro es))) n
    | _ => False)
  | _, _, _ => aConv P s d mem x fun r => K r mem n
def aop (P : Program) (Γ : Ctr) (ev : Operand → PV) (op : Op) (mem : Mem) (n : Nat) (K : PV → Mem → Nat → Prop) : Prop :=
  match op with
  | .move x => K (ev x) mem n
  | .assign x => K (ev x) mem n
  | .pick c a b => aPick (ev c) (ev a) (ev b) fun r => K r mem n
  | .alloc t => aAlloc P t mem n K
  | .box _ x => aBox mem n (ev x) K
  | .build t ps => aBuild P t (ps.toList.map fun p => (p.1, ev p.2)) fun r => K r mem n
  | .buildSlice t len ps => aBSlice P t len (ps.toList.map fun p => (p.1, ev p.2)) mem n K
  | .load t a => aLoad P t mem (ev a) fun r => K r mem n
  | .store t a x => aStore P t mem (ev a) (ev x) fun m => K .undef m n
  | .nilCheck x => aNil (ev x) fun r => K r mem n
  | .binOp op t x y _ => aBin' P op t (ev x) (ev y) fun r => K r mem n
  | .unOp op _ x => aUn op (ev x) fun r => K r mem n
  | .convert s d x => aConvX P s d (ev x) mem n K
  | .makeFunc (.func f) first caps => first.size = 0 ∧ K (.clo f (caps.toList.map ev)) mem n
  | .makeSlice t l cp => aMk P t (ev l) (ev cp) mem n K
  | .slice t x lo hi none => aSlice P t mem n (ev x) (lo.map ev) (hi.map ev) K
  | .fieldAddr t x f => aFld P t f (ev x) fun r => K r mem n
  | .field t x f => aField P t (ev x) f fun r => K r mem n
  | .indexAddr t x ix => aIdx P t mem (ev x) (ev ix) fun r => K r mem n
  | .index t x ix => aIndex P t (ev x) (ev ix) fun r => K r mem n
  | .extract x i => aExtract (ev x) i fun r => K r mem n
  | .call cl => aCall P Γ ev cl mem n K
  | _ => False
theorem repL_ev {c : Cx} {ev : Operand → PV} {av : Operand → Value} (hev : ∀ x, Rep (ev x) c (av x)) : ∀ xs : List Operand, RepL (xs.map ev) c (xs.map av)
  | [] => by simp [RepL.nil_iff]
  | x :: xs => by rw [List.map_cons, List.map_cons, RepL.cons_iff]; exact ⟨_, _, rfl, hev x, repL_ev hev xs⟩
theorem repP_ev {c : Cx} {ev : Operand → PV} {av : Operand → Value} (hev : ∀ x, Rep (ev x) c (av x)) : ∀ xs : List (Nat × Operand), RepP c (xs.map fun p => (p.1, ev p.2)) (xs.map fun p => (p.1, av p.2))
  | [] => by simp [RepP]
  | x :: xs => by simp only [List.map_cons, RepP]; exact ⟨trivial, hev x.2, repP_ev hev xs⟩
theorem mk_sound {c : Cx} {mem : Mem} {n : Nat} {t : TypeId} {l cp : PV} {lv cv : Value} {K : PV → Mem → Nat → Prop} (h : aMk P t l cp mem n K) (hl : Rep l c lv) (hc : Rep cp c cv) (hI : InvM c mem) (hn : Names c n) :
    Out P (Instr.makeSlice t lv cv) c mem n K := by
  unfold aMk at h
  cases he : elOf P t with
  | none => rw [he] at h; exact h.elim
  | some q =>
  obtain ⟨e, s, by_⟩ := q
  rw [he] at h
  cases l with
  | int kl k =>
    cases cp with
    | int kc k' =>
      simp only at h
      obtain ⟨rfl, h0, h1, h2, h⟩ := h
      cases hz : zeroOf P e with
      | none => rw [hz] at h; exact h.elim
      | some zs =>
      rw [hz] at h
      obtain ⟨hall, hK⟩ := h
      obtain ⟨inf, z, k1, k2, k3, k4, k5, k6, k7⟩ := elOf_run he
      unfold Rep at hl hc
      subst hl hc
      have hzs : zs = z.cells.toList.map pvOf := by
        unfold zeroOf at hz
        rw [k2] at hz
        simp only [Option.bind_some, k3] at hz
        split at hz
        · simp only [Option.some.injEq] at hz; exact hz.symm
        · cases hz
      have hrun := run_make (P := P) c.w t e inf z k1 k2 k3 kl kc k k h0 (Int.le_refl _) (by rw [k5]; exact h1) h2
      rw [k4] at hrun
      have hrep : RepL (zs.map (resC fun _ => none)) c z.cells.toList := by
        rw [hzs, List.map_map]
        have := repL_map (c := c) (resC fun _ => none) (us := z.cells.toList.map pvOf) (vs := z.cells.toList) (fun u hu v hv => by
          obtain ⟨x, hx, rfl⟩ := List.mem_map.1 hu
          unfold pvOf at hv ⊢
          split at hv <;> first | exact hv | exact rep_nil hv) (repL_pvOf c _)
        simpa using this
      simp only [List.all_eq_true, Bool.and_eq_true] at hall
      have hlen : (zs.map (resC fun _ => none)).length = s := by rw [hzs]; simp [k6]
      have hmade : (madeCells z.cells (k.toNat * s)).toList = (List.replicate k.toNat z.cells.toList).flatten := by
        have hcy : ∀ (m : Nat), (List.range (m * s)).map (fun i => z.cells[i % z.cells.size]!) = (List.replicate m z.cells.toList).flatten := by
          intro m
          induction m with
          | zero => simp
          | succ m ih =>
            rw [Nat.add_mul, Nat.one_mul, List.range_add, List.map_append, ih, List.replicate_succ', List.flatten_append]
            congr 1
            simp only [List.flatten_cons, List.flatten_nil, List.append_nil, List.map_map]
            apply List.ext_getElem?
            intro j
            by_cases hj : j < s
            · have e1 : (m * s + j) % s = j := by rw [Nat.mul_comm, Nat.mul_add_mod, Nat.mod_eq_of_lt hj]
              have hjz : j < z.cells.size := by omega
              simp [hj, k6, e1, hjz]
            · rw [List.getElem?_eq_none (by simp; omega), List.getElem?_eq_none (by simp; omega)]
        have := hcy k.toNat
        simp only [madeCells, Array.toList_map, Array.toList_range]
        exact this
      have hfl : RepL (List.replicate k.toNat (zs.map (resC fun _ => none))).flatten c (List.replicate k.toNat z.cells.toList).flatten := by
        generalize k.toNat = m
        induction m with
        | zero => simp [RepL.nil_iff]
        | succ m ih => rw [List.replicate_succ, List.replicate_succ, List.flatten_cons, List.flatten_cons]; exact hrep.append ih
      have hown := World.ownsRow_lit (base := 0) (e := e) (size := s) c.w (madeCells z.cells (k.toNat * s)) k.toNat (Nat.zero_le _) (by unfold maxLen; omega) (size_madeCells _ _)
      obtain ⟨c', q1, q2, q3, q4⟩ := new_row hI hn none (w' := c.w.alloc (.cells (madeCells z.cells (k.toNat * s)) e)) (v := .slice (some ⟨c.w.heap.size, 0, none⟩) k.toNat k.toNat) (e := e) (s := s)
        (es := List.replicate k.toNat (zs.map (resC fun _ => none))) (vs := (madeCells z.cells (k.toNat * s)).toList) rfl rfl rfl (by simp)
        (fun i hi => by cases hi) (fun b hb _ => heap_alloc_lt _ _ hb) (by rw [List.length_replicate]; exact hown)
        (by rw [hmade]; exact hfl.to_data (by
          rw [nmbL_all]
          intro u hu
          simp only [List.mem_flatten, List.mem_replicate] at hu
          obtain ⟨y, ⟨_, rfl⟩, hu⟩ := hu
          exact (hall u hu).2))
        ⟨fun x hx => by rw [(List.mem_replicate.1 hx).2]; exact hlen, fun u hu => by
          simp only [List.mem_flatten, List.mem_replicate] at hu
          obtain ⟨y, ⟨_, rfl⟩, hu⟩ := hu
          exact (hall u hu).1⟩
        (fun b hb => .inr (by simp only [Value.ownBlock, Option.some.injEq] at hb; omega))
      exact ⟨_, _, c', _, _, by rw [q1]; exact hrun, hK, q2, q3⟩
    | _ => exact h.elim
  | _ => exact h.elim
theorem freeze_heap (w : World) (g k : Nat) {b : Nat} (h : b ≠ g) : (w.freeze ⟨g, k, none⟩ 1).heap[b]? = w.heap[b]? := by
  unfold World.freeze
  rw [if_neg (by decide)]
  simp [Array.getElem?_modify, Ne.symm h]
theorem freeze_cell (w : World) (g k : Nat) (b o : Nat) : (w.freeze ⟨g, k, none⟩ 1).cell? ⟨b, o, none⟩ = w.cell? ⟨b, o, none⟩ := by
  by_cases h : b = g
  · subst h
    unfold World.freeze
    rw [if_neg (by decide)]
    simp only [World.cell?, Array.getElem?_modify, if_true]
    cases hq : w.heap[b]? with
    | none => rfl
    | some x => cases x <;> rfl
  · exact cell_of_block (freeze_heap w g k h) o
/-- A row of bytes, 'turned' to its own type: from there on it never changes. -/
theorem convX_sound {c : Cx} {mem : Mem} {n : Nat} {s d : TypeId} {x : PV} {v : Value} {K : PV → Mem → Nat → Prop} (h : aConvX P s d x mem n K) (hx : Rep x c v) (hI : InvM c mem) (hn : Names c n) :
    Out P (convert s d v) c mem n K := by
  have plain : (aConv P s d mem x fun r => K r mem n) → Out P (convert s d v) c mem n K := by
    intro h
    obtain ⟨v', r, c', h1, h2, h3, h4⟩ := conv_sound (n := n) h hx hI hn
    exact ⟨v', r, c', mem, n, h1, h3, h4, h2⟩
  unfold aConvX at h
  split at h
  · rename_i i hs hd
    split at h
    · rename_i e sz es hm
      obtain ⟨rfl, hpos, hK⟩ := h
      obtain ⟨e0, k1, k2⟩ := kindOf_bytes hs
      obtain ⟨u, hu, hI1, hle1, hseq, hmine, hmine1⟩ := hI.freeze hm
      obtain ⟨_, S, g1, _, _⟩ := id hI
      obtain ⟨u', vs, hu', hown, hrl, hcs, hS⟩ := g1 i _ hm
      rw [hu] at hu'
      cases hu'
      unfold Rep at hx
      rw [hu] at hx
      cases hx
      have hstep1 : Step c mem n ⟨c.w, fun b => c.fz b ∨ v.ownBlock = some b, c.ρ⟩ (upd mem i (some (.fro es))) n :=
        ⟨hI1, hle1, rfl, rfl, rfl, Nat.le_refl _, fun _ _ _ => rfl, fun b hb => .inl (hmine1 b hb), fun b hb => hb.imp id (fun hb => .inl (hmine b hb)), Nat.le_refl _, fun _ _ => rfl, hn⟩
      rcases hown.2 with ⟨rfl, h0⟩ | ⟨g, cap, cur, rfl, hg0, hh, hrest⟩
      · omega
      · have hfz1 : (fun b => c.fz b ∨ (Value.slice (some ⟨g, 0, none⟩) es.length cap).ownBlock = some b) g := .inr rfl
        let w' := c.w.freeze ⟨g, cur.size, none⟩ 1
        have hrun : (convert s s (.slice (some ⟨g, 0, none⟩) es.length cap)).run P c.w = .ok (.slice (some ⟨g, 0, none⟩) es.length cap) w' := by
          have hsh : c.w.shape? g = some (e, cur.size) := by simp [World.shape?, hh]
          simp [convert, run_underlying k1, run_underlying k2, markStringish, hsh, w']
        let c1 : Cx := ⟨c.w, fun b => c.fz b ∨ (Value.slice (some ⟨g, 0, none⟩) es.length cap).ownBlock = some b, c.ρ⟩
        let c2 : Cx := ⟨w', c1.fz, c.ρ⟩
        have hsz : c.w.heap.size ≤ w'.heap.size := by simp [w', World.freeze]
        have hsz2 : w'.heap.size = c.w.heap.size := by simp [w', World.freeze]
        have hle2 : c1.Le c2 := ⟨fun _ h => h, fun b _ o => freeze_cell c.w g cur.size b o, fun _ _ h => h⟩
        obtain ⟨hf1, S1, q1, q2, q3⟩ := id hI1
        have hkeep : ∀ j mb, upd mem i (some (.fro es)) j = some mb → MRep c2 j (S1 j) mb := fun j mb hj =>
          MRep.mono hle2 (fun b hb => freeze_heap c.w g cur.size (fun e => q3 j b (by rw [hj]; simp) hb (by rw [e]; exact hfz1))) (q1 j mb hj)
        have hI2 : InvM c2 (upd mem i (some (.fro es))) := ⟨hf1.mono hle2 (fun b hb => by rw [hsz2]; exact hf1.lt b hb), S1, hkeep, q2, q3⟩
        have hstep2 : Step c mem n c2 (upd mem i (some (.fro es))) n := by
          refine ⟨hI2, hle1.trans hle2, ?_, ?_, ?_, hsz, fun b hb hb' => ?_, fun b hb => ?_, hstep1.fzNew, Nat.le_refl _, fun _ _ => rfl, hn⟩
          · simp [c2, w', World.freeze]
          · simp [c2, w', World.freeze]
          · simp [c2, w', World.freeze]
          · exact freeze_heap c.w g cur.size (fun e => hb' (by rw [e]; exact hmine g rfl))
          · obtain ⟨j, T, mb, hj, hT, hb'⟩ := hb
            have e := MRep.det hT (hkeep j mb hj)
            subst e
            exact .inl (hmine1 b ⟨j, _, mb, hj, q1 j mb hj, hb'⟩)
        exact ⟨_, _, c2, _, _, hrun, hK, hstep2, by unfold Rep; exact hu⟩
    · exact h.elim
  · exact plain h
theorem convX_of {s d : TypeId} {x : PV} {mem : Mem} {n : Nat} {K : PV → Prop} (h : aConv P s d mem x K) : aConvX P s d x mem n fun r m k => K r ∧ m = mem ∧ k = n := by
  unfold aConvX
  split
  · rename_i i hs hd
    unfold aConv at h
    rw [hs, hd] at h
    exact h.elim
  · simpa using h
theorem wp_val {o : Oper} {a : Act} {c : Cx} {mem : Mem} {n : Nat} {K : PV → Mem → Nat → Prop} {next : Act → World → Prop} {Q : Exit → Act → World → Prop} (s : Sem Value)
    (hx : execOp a.eval o = (do pure (.value (← s)))) (h : Out P s c mem n K)
    (hK : ∀ r c' mem' n' v, K r mem' n' → Step c mem n c' mem' n' → Rep r c' v → next (a.put o.dst v) c'.w) : o.wp P a c.w next Q := by
  obtain ⟨v, r, c', mem', n', h1, h2, h3, h4⟩ := h
  unfold Oper.wp
  rw [hx]
  simp only [Sem.run_bind, h1, Result.andThen_ok, Sem.run_pure, Oper.upon_value]
  exact hK r c' mem' n' v h2 h3 h4
theorem op_sound {Γ : Ctr} (hΓ : ∀ f C, Γ f = some C → ACok P f C) {o : Oper} {a : Act} {c : Cx} {mem : Mem} {n : Nat} {ev : Operand → PV} {K : PV → Mem → Nat → Prop} {next : Act → World → Prop} {Q : Exit → Act → World → Prop}
    (h : aop P Γ ev o.op mem n K) (hev : ∀ x, Rep (ev x) c (a.eval x)) (hI : InvM c mem) (hn : Names c n)
    (hK : ∀ r c' mem' n' v, K r mem' n' → Step c mem n c' mem' n' → Rep r c' v → next (a.put o.dst v) c'.w) : o.wp P a c.w next Q := by
  obtain ⟨dst, op, type, pos, after, guard⟩ := o
  have st : Step c mem n c mem n := .refl hI hn
  have quiet : ∀ {s : Sem Value}, (∃ v r, s.run P c.w = .ok v c.w ∧ Rep r c v ∧ K r mem n) → Out P s c mem n K := fun ⟨v, r, h1, h2, h3⟩ => Out.here hI hn h1 h2 h3
  cases op <;> simp only [aop] at h <;> (try exact h.elim)
  case move x =>
    show Oper.upon P _ a next Q ((execOp a.eval _).run P c.w)
    simp only [execOp, Sem.run_pure, Oper.upon_value]
    exact hK _ c mem n _ h st (hev x)
  case assign x =>
    show Oper.upon P _ a next Q ((execOp a.eval _).run P c.w)
    simp only [execOp, Sem.run_pure, Oper.upon_value]
    exact hK _ c mem n _ h st (hev x)
  case pick t x y =>
    unfold aPick at h
    cases hc : ev t with
    | bool b =>
      rw [hc] at h
      have ht := hev t
      rw [hc] at ht
      unfold Rep at ht
      show Oper.upon P _ a next Q ((execOp a.eval _).run P c.w)
      simp only [execOp, ht, asBool, Sem.run_bind, Sem.run_pure, Result.andThen_ok, Oper.upon_value]
      cases b with
      | true => exact hK _ c mem n _ (h.1 rfl) st (hev x)
      | false => exact hK _ c mem n _ (h.2 rfl) st (hev y)
    | _ => rw [hc] at h; exact h.elim
  case alloc t => exact wp_val _ rfl (alloc_sound h hI hn) hK
  case box t x => exact wp_val _ rfl (box_sound h (hev x) hI hn) hK
  case build t ps =>
    refine wp_val _ rfl (quiet (build_sound hn h ?_)) hK
    have := repP_ev hev ps.toList
    simpa using this
  case buildSlice t len ps =>
    refine wp_val _ rfl (bslice_sound h ?_ hI hn) hK
    have := repP_ev hev ps.toList
    simpa using this
  case load t x => exact wp_val _ rfl (quiet (load_sound h (hev x) hI)) hK
  case store t x y =>
    obtain ⟨c', mem', h1, h2, h3, h4⟩ := store_sound (n := n) h (hev x) (hev y) hI hn
    show Oper.upon P _ a next Q ((execOp a.eval _).run P c.w)
    simp only [execOp, Sem.run_bind, h1, Result.andThen_ok, Sem.run_pure, Oper.upon_skip]
    exact hK .undef c' mem' n _ h2 h3 (by unfold Rep; trivial)
  case nilCheck x =>
    have hx := hev x
    unfold aNil at h
    show Oper.upon P _ a next Q ((execOp a.eval _).run P c.w)
    cases hc : ev x <;> rw [hc] at h hx <;> simp only at h <;> first | exact h.elim | skip
    all_goals
      unfold Rep at hx
    · obtain ⟨u, b, e1, e2, e3⟩ := hx
      simp only [execOp, e3, Sem.run_pure, Oper.upon_value]
      exact hK _ c mem n _ h st (by unfold Rep; exact ⟨u, b, e1, e2, rfl⟩)
    · obtain ⟨u, b, e1, e2, e3⟩ := hx
      simp only [execOp, e3, Sem.run_pure, Oper.upon_value]
      exact hK _ c mem n _ h st (by unfold Rep; exact ⟨u, b, e1, e2, rfl⟩)
    · obtain ⟨b, o, e1, e2⟩ := hx
      simp only [execOp, e1, Sem.run_pure, Oper.upon_value]
      exact hK _ c mem n _ h st (by unfold Rep; exact ⟨b, o, rfl, e2⟩)
    · obtain ⟨vs, e1, e2⟩ := hx
      simp only [execOp, e1, Sem.run_pure, Oper.upon_value]
      exact hK _ c mem n _ h st (by unfold Rep; exact ⟨vs, rfl, e2⟩)
  case binOp op t x y t' => exact wp_val _ rfl (quiet (bin_sound h (hev x) (hev y) x y)) hK
  case unOp op t x => exact wp_val _ rfl (quiet (un_sound h (hev x))) hK
  case convert s d x => exact wp_val _ rfl (convX_sound h (hev x) hI hn) hK
  case makeFunc fn first caps =>
    cases fn <;> simp only [aop] at h <;> (try exact h.elim)
    rename_i f
    show Oper.upon P _ a next Q ((execOp a.eval _).run P c.w)
    have hf : first = #[] := Array.eq_empty_of_size_eq_zero h.1
    subst hf
    simp only [execOp, Instr.makeFunc, Sem.run_bind, Sem.run_pure, Result.andThen_ok, Oper.upon_value]
    refine hK _ c mem n _ h.2 st ?_
    unfold Rep
    refine ⟨_, by simp; rfl, ?_⟩
    have := repL_ev hev caps.toList
    simpa using this
  case makeSlice t l cp => exact wp_val _ rfl (mk_sound h (hev l) (hev cp) hI hn) hK
  case slice t x lo hi mx =>
    cases mx <;> simp only [aop] at h <;> (try exact h.elim)
    refine wp_val (Instr.sliceAt t (a.eval x) (lo.map a.eval) (hi.map a.eval) none) rfl (slice_sound h (hev x) ?_ ?_ ?_ ?_ hI hn) hK
    · intro u hu
      cases lo with
      | none => cases hu
      | some y => cases hu; exact ⟨_, rfl, hev y⟩
    · intro hu; cases lo with
      | none => rfl
      | some y => cases hu
    · intro u hu
      cases hi with
      | none => cases hu
      | some y => cases hu; exact ⟨_, rfl, hev y⟩
    · intro hu; cases hi with
      | none => rfl
      | some y => cases hu
  case fieldAddr t x f => exact wp_val _ rfl (quiet (fld_sound h (hev x))) hK
  case field t x f => exact wp_val _ rfl (quiet (field_sound h (hev x))) hK
  case indexAddr t x ix => exact wp_val _ rfl (quiet (idx_sound h (hev x) (hev ix) hI)) hK
  case index t x ix => exact wp_val _ rfl (quiet (index_sound h (hev x) (hev ix))) hK
  case extract x i => exact wp_val _ rfl (quiet (extract_sound h (hev x))) hK
  case call cl =>
    obtain ⟨callee, args, argTypes⟩ := cl
    have hargs := repL_ev hev args.toList
    unfold aCall at h
    cases callee <;> simp only at h <;> (try exact h.elim)
    case value f =>
      cases hc : ev f with
      | clo g caps =>
        rw [hc] at h
        simp only at h
        cases hg : Γ g with
        | none => rw [hg] at h; exact h.elim
        | some C =>
          rw [hg] at h
          simp only at h
          obtain ⟨⟨fn, f1, f2, f3⟩, hrun⟩ := hΓ g C hg
          have hf := hev f
          rw [hc] at hf
          unfold Rep at hf
          obtain ⟨vs, hv, hcaps⟩ := hf
          have hc' := hrun c mem n _ _ K hI hn (hargs.append hcaps) h
          show Oper.upon P _ a next Q ((execOp a.eval _).run P c.w)
          have e1 : (args.toList.map a.eval ++ vs.toList).toArray = args.map a.eval ++ vs := by
            apply Array.ext'
            simp
          rw [e1] at hc'
          simp only [execOp, resolve, hv, Deferred.ofValue, invoke, callFunc, Sem.run_bind, Sem.run_pure, Result.andThen_ok, run_program, f1, f2, f3, Bool.false_eq_true, if_false, Array.empty_append, Oper.upon_enter]
          refine hc'.mono ?_
          rintro e w' ⟨v, r, c', mem', n', rfl, rfl, g1, g2, g3⟩
          exact hK r c' mem' n' v g1 g2 g3
      | _ => rw [hc] at h; exact h.elim
    case builtin b =>
      have hea : (args.toList.map a.eval).toArray = args.map a.eval := by apply Array.ext'; simp
      have hblt : ∀ (s : Sem Value), (∀ cs, builtin b argTypes type cs (args.map a.eval) = (do pure (.value (← s)))) → Out P s c mem n K →
          Oper.wp P ⟨dst, .call ⟨.builtin b, args, argTypes⟩, type, pos, after, guard⟩ a c.w next Q := by
        intro s hs ho
        obtain ⟨v, r, c', mem', n', h1, h2, h3, h4⟩ := ho
        show Oper.upon P _ a next Q ((execOp a.eval _).run P c.w)
        simp only [execOp, resolve, invoke, Sem.run_bind, Sem.run_pure, Result.andThen_ok, hs, h1, Oper.upon_value]
        exact hK r c' mem' n' v h2 h3 h4
      cases b <;> simp only at h <;> (try exact h.elim)
      case append =>
        match hx : args.toList, ht : argTypes.toList with
        | [x, y], [t, t'] =>
          rw [hx, ht] at h
          simp only [List.map_cons, List.map_nil] at h
          obtain ⟨rfl, h⟩ := h
          have ea : args = #[x, y] := by rw [← Array.toArray_toList (xs := args), hx]
          have et : argTypes = #[t, t] := by rw [← Array.toArray_toList (xs := argTypes), ht]
          subst ea et
          exact hblt _ (fun _ => rfl) (by simpa using app_sound (ty := type) h (hev x) (hev y) hI hn)
        | [], _ => rw [hx] at h; exact h.elim
        | [_], _ => rw [hx] at h; exact h.elim
        | _ :: _ :: _ :: _, _ => rw [hx] at h; exact h.elim
        | [_, _], [] => rw [hx, ht] at h; exact h.elim
        | [_, _], [_] => rw [hx, ht] at h; exact h.elim
        | [_, _], _ :: _ :: _ :: _ => rw [hx, ht] at h; exact h.elim
      case len =>
        unfold aLenL at h
        match hx : args.toList, ht : argTypes.toList with
        | [x], [t] =>
          rw [hx, ht] at h
          simp only [List.map_cons, List.map_nil] at h
          have ea : args = #[x] := by rw [← Array.toArray_toList (xs := args), hx]
          have et : argTypes = #[t] := by rw [← Array.toArray_toList (xs := argTypes), ht]
          subst ea et
          exact hblt _ (fun _ => rfl) (quiet (by simpa using len_sound hI (ty := type) h (hev x)))
        | [], _ => rw [hx] at h; exact h.elim
        | _ :: _ :: _, _ => rw [hx] at h; exact h.elim
        | [_], [] => rw [hx, ht] at h; exact h.elim
        | [_], _ :: _ :: _ => rw [hx, ht] at h; exact h.elim
      case max => exact hblt _ (fun _ => rfl) (quiet (by rw [← hea]; exact max_sound h hargs argTypes type))
      case min => exact hblt _ (fun _ => rfl) (quiet (by rw [← hea]; exact min_sound h hargs argTypes type))
end
end Go.Proofs.Ytoocbpendccngaa
