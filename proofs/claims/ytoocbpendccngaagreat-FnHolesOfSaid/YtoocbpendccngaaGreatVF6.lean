/- Abstract operations: cuts, operators, structs, slices made and appended to. -/
import Derived.Test.YtoocbpendccngaaGreatVF5
import Derived.Laws.Tables

namespace Go.Proofs.YtoocbpendccngaaGreat
set_option maxRecDepth 100000
set_option linter.unusedVariables false
set_option linter.unusedSimpArgs false
open Go.RowKit
section
variable {P : Program}
theorem Names.upd {c : Cx} {n : Nat} (hn : Names c n) {c' : Cx} {v : Value} (h : c'.ρ = Proofs.YtoocbpendccngaaGreat.upd c.ρ n (some v)) (hv : v.oneCell' = true) : Names c' (n + 1) := by
  refine ⟨fun i hi => ?_, fun i u hi => ?_⟩
  · rw [h, upd_other _ _ (by omega)]; exact hn.1 i (by omega)
  · rw [h] at hi
    by_cases e : i = n
    · subst e; rw [upd_same] at hi; cases hi; exact hv
    · rw [upd_other _ _ e] at hi; exact hn.2 i u hi
theorem free_mem {c : Cx} {mem : Mem} {n : Nat} (hI : InvM c mem) (hn : Names c n) : mem n = none := by
  cases hm : mem n with
  | none => rfl
  | some mb =>
    obtain ⟨_, S, h1, _, _⟩ := hI
    obtain ⟨v, hv⟩ := (h1 n mb hm).ρ
    rw [hn.1 n (Nat.le_refl _)] at hv
    cases hv
def drp (mem : Mem) : Option Nat → Mem
  | some i => upd mem i none
  | none => mem
/-- A new row under a new name, in the place of an old one or of none. -/
theorem new_row {c : Cx} {mem : Mem} {n : Nat} (hI : InvM c mem) (hn : Names c n) (old : Option Nat) {w' : World} {v : Value} {e : TypeId} {s : Nat} {es : List (List PV)} {vs : List Value}
    (hos : w'.os = c.w.os) (htp : w'.tape = c.w.tape) (hou : w'.output = c.w.output) (hsz : c.w.heap.size ≤ w'.heap.size)
    (hold : ∀ i, old = some i → mem i ≠ none)
    (hw : ∀ b, b < c.w.heap.size → (∀ i mb S, old = some i → mem i = some mb → MRep c i S mb → ¬ S b) → w'.heap[b]? = c.w.heap[b]?)
    (hown : w'.ownsRow 0 e s v es.length vs) (hr : RepL es.flatten c.data vs) (hc : cellsOk es s)
    (hS : ∀ b, v.ownBlock = some b → (∃ i mb S, old = some i ∧ mem i = some mb ∧ MRep c i S mb ∧ S b) ∨ c.w.heap.size ≤ b) :
    ∃ c', c'.w = w' ∧ Step c mem n c' (upd (drp mem old) n (some (.row e s es))) (n + 1) ∧ Rep (.own n) c' v ∧ v.oneCell' = true := by
  have hmn := free_mem hI hn
  have hone : v.oneCell' = true := by
    rcases hown.2 with ⟨rfl, _⟩ | ⟨g, cap, cur, rfl, _⟩ <;> rfl
  let c' : Cx := ⟨w', c.fz, upd c.ρ n (some v)⟩
  have hmk : ∀ k, k ≠ n → (upd (drp mem old) n (some (MB.row e s es))) k = mem k ∨ (upd (drp mem old) n (some (MB.row e s es))) k = none := by
    intro k hk
    rw [upd_other _ _ hk]
    cases old with
    | none => exact .inl rfl
    | some i =>
      by_cases e : k = i
      · subst e; exact .inr (upd_same _ _ _)
      · exact .inl (upd_other (f := mem) _ e)
  have hne : ∀ i, old = some i → i ≠ n := by rintro i hi rfl; exact hold i hi hmn
  obtain ⟨h1, h2, h3⟩ := InvM.put (c := c) (c' := c') (mem := mem) (mem' := upd (drp mem old) n (some (.row e s es))) (j := n) (S' := fun b => v.ownBlock = some b) hI old rfl (fun k hk => upd_other _ _ hk) (.inl (hn.1 n (Nat.le_refl _)))
    (upd_same _ _ _) hmk (fun i hi => ⟨hold i hi, .inr (by subst hi; rw [upd_other _ _ (hne i rfl)]; exact upd_same _ _ _)⟩) (.inr hmn) hsz hw
    (fun hle => ⟨v, vs, upd_same _ _ _, hown, RepL.mono _ hle.data hr, hc, rfl⟩) hS
  refine ⟨c', rfl, ⟨h1, h2, hos, htp, hou, hsz, fun b hb hm => hw b hb (fun i mb S hi hmi hr' hs => hm ⟨i, S, mb, hmi, hr', hs⟩), h3, fun _ h => .inl h, by omega, fun i hi => upd_other _ _ (by omega), hn.upd rfl hone⟩, ?_, hone⟩
  unfold Rep
  exact upd_same _ _ _
theorem str_extract (l : List UInt8) (a b : Nat) (h1 : a ≤ b) (h2 : b ≤ l.length) : (ByteArray.mk l.toArray).extract a b = ⟨((l.take b).drop a).toArray⟩ := by
  have : ((ByteArray.mk l.toArray).extract a b).data = ((l.take b).drop a).toArray := by
    rw [ByteArray.data_extract]
    show l.toArray.extract a b = _
    apply Array.ext'
    simp [List.extract_eq_take_drop, List.drop_take]
  rw [← this]
theorem slice_sound {c : Cx} {mem : Mem} {n : Nat} {t : TypeId} {x : PV} {v : Value} {lo hi : Option PV} {lv hv : Option Value} {K : PV → Mem → Nat → Prop} (h : aSlice P t mem n x lo hi K) (hx : Rep x c v)
    (h1 : ∀ u, lo = some u → ∃ x, lv = some x ∧ Rep u c x) (h1' : lo = none → lv = none) (h2 : ∀ u, hi = some u → ∃ x, hv = some x ∧ Rep u c x) (h2' : hi = none → hv = none) (hI : InvM c mem) (hn : Names c n) :
    Out P (Instr.sliceAt t v lv hv none) c mem n K := by
  unfold aSlice at h
  cases x with
  | str l =>
    obtain ⟨hu, h⟩ := h
    cases ha : boundOf 0 lo with
    | none => rw [ha] at h; exact h.elim
    | some a =>
    cases hb : boundOf l.length hi with
    | none => rw [ha, hb] at h; exact h.elim
    | some b =>
    rw [ha, hb] at h
    obtain ⟨b0, b1, b2, hK⟩ := h
    unfold Rep at hx
    subst hx
    have e1 := Rep.bound h1 h1' ha
    have e2 := Rep.bound h2 h2' hb
    have hsz : (ByteArray.mk l.toArray).size = l.length := by show l.toArray.size = _; simp
    have hr := run_bounds (P := P) (isS := false) (len := l.length) (cap := l.length) (lo := lv) (hi := hv) (a := a) (b := b)
      (e1.imp (fun e => ⟨e.1, e.2.2⟩) id) (e2.imp (fun e => ⟨e.1, e.2.2⟩) id) b0 b1 b2 c.w
    refine Out.here (v := .string ⟨((l.take b.toNat).drop a.toNat).toArray⟩) hI hn ?_ (by unfold Rep; rfl) hK
    simp only [Instr.sliceAt, Instr.slice, Sem.run_bind, run_underlying hu, Result.andThen_ok, Option.isSome_none, Bool.false_eq_true, if_false, hsz, hr, Sem.run_pure]
    rw [str_extract l _ _ (by omega) (by omega)]
  | seq es =>
    obtain ⟨he, h⟩ := h
    obtain ⟨⟨e, s, by_⟩, he⟩ := Option.isSome_iff_exists.1 he
    rw [he] at h
    cases ha : boundOf 0 lo with
    | none => rw [ha] at h; exact h.elim
    | some a =>
    cases hb : boundOf es.length hi with
    | none => rw [ha, hb] at h; exact h.elim
    | some b =>
    rw [ha, hb] at h
    obtain ⟨b0, b1, b2, hs, hK⟩ := h
    simp only [Option.getD_some] at hs
    obtain ⟨inf, z, k1, k2, k3, k4, k5, k6, k7⟩ := elOf_run he
    have hx' := hx
    unfold Rep at hx
    obtain ⟨ad, cap, rfl, hlc, hcm, _⟩ := hx
    have e1 := Rep.bound h1 h1' ha
    have e2 := Rep.bound h2 h2' hb
    have hr := run_bounds (P := P) (isS := true) (len := es.length) (cap := cap) (lo := lv) (hi := hv) (a := a) (b := b)
      (e1.imp (fun e => ⟨e.1, e.2.2⟩) id) (e2.imp (fun e => ⟨e.1, e.2.2⟩) id) b0 b1 (by omega) c.w
    refine Out.here (v := .slice (if cap = a.toNat then ad else ad.map (·.add (a.toNat * s))) (b.toNat - a.toNat) (cap - a.toNat)) hI hn ?_ (rep_seq_cut he rfl hx' (by omega) (by omega) hs) hK
    simp only [Instr.sliceAt, Instr.slice, Sem.run_bind, run_underlying k1, Result.andThen_ok, hr, Sem.run_pure, sizeOf, typeInfo, run_program, k2, k4]
  | own id =>
    simp only at h
    cases hm : mem id with
    | none => rw [hm] at h; exact h.elim
    | some mb =>
      rw [hm] at h
      cases mb with
      | row e s es =>
        simp only at h
        cases he : elOf P t with
        | none => rw [he] at h; exact h.elim
        | some q =>
        obtain ⟨e', s', by_⟩ := q
        cases lo with
        | some _ => rw [he] at h; exact h.elim
        | none =>
        cases hb : boundOf es.length hi with
        | none => rw [he, hb] at h; exact h.elim
        | some b =>
        rw [he, hb] at h
        obtain ⟨rfl, b0, b2, hK⟩ := h
        obtain ⟨inf, z, k1, k2, k3, k4, k5, k6, k7⟩ := elOf_run he
        have hI' := hI
        obtain ⟨hf, S, g1, g2, g3⟩ := hI'
        obtain ⟨u, vs, e1, e2, e3, e4, e5⟩ := g1 id _ hm
        unfold Rep at hx
        rw [e1] at hx
        cases hx
        have hlv := h1' rfl
        subst hlv
        have e6 := Rep.bound h2 h2' hb
        have hfl := flatten_length e4.1
        have htk : (es.take b.toNat).flatten = es.flatten.take (b.toNat * s) := by
          have := flatten_length (s := s) (es := es.take b.toNat) (fun x hx => e4.1 x (List.mem_of_mem_take hx))
          have h3 : es.flatten = (es.take b.toNat).flatten ++ (es.drop b.toNat).flatten := by rw [← List.flatten_append, List.take_append_drop]
          have hA : (es.take b.toNat).flatten.length = b.toNat * s := by rw [this, List.length_take, Nat.min_eq_left (by omega)]
          rw [h3, ← hA, List.take_left]
        have hbl : (es.take b.toNat).length = b.toNat := by rw [List.length_take]; omega
        have hcut : ∃ v', (Instr.sliceAt t v none hv none).run P c.w = .ok v' c.w ∧ c.w.ownsRow 0 e s v' b.toNat (vs.take (b.toNat * s)) ∧ v'.ownBlock = v.ownBlock := by
          have hl0 : vs.length = es.length * s := e2.1
          have hml : b.toNat * s ≤ es.length * s := Nat.mul_le_mul_right _ (by omega)
          have hlen2 : (vs.take (b.toNat * s)).length = b.toNat * s := by rw [List.length_take]; omega
          rcases e2.2 with ⟨rfl, hz⟩ | ⟨g, cap, cur, rfl, w1, w2, w3, w4, w5, w6⟩
          · have hb0 : b = 0 := by omega
            have hr := run_bounds (P := P) (isS := true) (len := 0) (cap := 0) (lo := none) (hi := hv) (a := 0) (b := b) (.inl ⟨rfl, rfl⟩)
              (e6.imp (fun e => ⟨e.1, by rw [e.2.2, hz]⟩) (fun x => x)) (by omega) (by omega) (by omega) c.w
            refine ⟨.slice none 0 0, ?_, ⟨hlen2, .inl ⟨rfl, by omega⟩⟩, rfl⟩
            simp only [Instr.sliceAt, Instr.slice, Sem.run_bind, run_underlying k1, Result.andThen_ok, hr, Sem.run_pure, sizeOf, typeInfo, run_program, k2, k4]
            simp [hb0]
          · have hr := run_bounds (P := P) (isS := true) (len := es.length) (cap := cap) (lo := none) (hi := hv) (a := 0) (b := b) (.inl ⟨rfl, rfl⟩)
              (e6.imp (fun e => ⟨e.1, e.2.2⟩) (fun x => x)) (by omega) (by omega) (by omega) c.w
            refine ⟨.slice (some ⟨g, 0, none⟩) b.toNat cap, ?_, ⟨hlen2, .inr ⟨g, cap, cur, rfl, w1, w2, by omega, w4, w5, ?_⟩⟩, rfl⟩
            · simp only [Instr.sliceAt, Instr.slice, Sem.run_bind, run_underlying k1, Result.andThen_ok, hr, Sem.run_pure, sizeOf, typeInfo, run_program, k2, k4]
              simp [Addr.add]
            · rw [← w6, List.take_take, Nat.min_eq_left hml]
        obtain ⟨v', hrun, how, hob⟩ := hcut
        obtain ⟨c', q1, q2, q3, q4⟩ := new_row hI hn (some id) (w' := c.w) (v := v') (e := e) (s := s) (es := es.take b.toNat) (vs := vs.take (b.toNat * s)) rfl rfl rfl (Nat.le_refl _)
          (fun i hi => by cases hi; simp [hm]) (fun _ _ _ => rfl) (by rw [hbl]; exact how) (by rw [htk]; exact e3.take _)
          ⟨fun x hx => e4.1 x (List.mem_of_mem_take hx), fun x hx => by rw [htk] at hx; exact e4.2 x (List.mem_of_mem_take hx)⟩
          (fun b hb => .inl ⟨id, _, _, rfl, hm, g1 id _ hm, by rw [e5]; exact hob ▸ hb⟩)
        exact ⟨v', _, c', _, _, by rw [q1]; exact hrun, hK, q2, q3⟩
      | _ => exact h.elim
  | _ => exact h.elim
inductive EK where
  | i | s | b
  deriving DecidableEq
def ekOf (P : Program) (t : TypeId) : Option EK :=
  match P.underlying t with
  | some (.int _) => some .i
  | some .string => some .s
  | some .bool => some .b
  | _ => none
def eksFrom (P : Program) : Nat → List Field → Option (List EK)
  | _, [] => some []
  | o, f :: fs => if f.name ≠ "_" ∧ f.offset = o then (match ekOf P f.type, eksFrom P (o + 1) fs with
    | some k, some ks => some (k :: ks)
    | _, _ => none) else none
/-- The kinds of the fields of a struct that is compared field by field. -/
def eksOf (P : Program) (t : TypeId) : Option (List EK) :=
  match P.underlying t with
  | some (.struct fs) => if P.stoodInHeld t || P.eqGuardType P.depth t then none else eksFrom P 0 fs.toList
  | _ => none
def eqPV : EK → PV → PV → Option Bool
  | .i, .int k n, .int k' m => if k = k' then some (decide (n = m)) else none
  | .s, .str l, .str m => some (decide (l = m))
  | .b, .bool a, .bool b => some (a == b)
  | _, _, _ => none
def eqPVs : List EK → List PV → List PV → Option Bool
  | [], [], [] => some true
  | k :: ks, x :: xs, y :: ys => match eqPV k x y, eqPVs ks xs ys with
    | some a, some b => some (a && b)
    | _, _ => none
  | _, _, _ => none
def aBin' (P : Program) (op : BinOp) (t : TypeId) (x y : PV) (K : PV → Prop) : Prop :=
  match op, x, y with
  | .eql, .agg xs, .agg ys => (match eksOf P t with
    | some ks => (match eqPVs ks xs ys with
      | some b => K (.bool b)
      | none => False)
    | none => False)
  | .neq, .agg xs, .agg ys => (match eksOf P t with
    | some ks => (match eqPVs ks xs ys with
      | some b => K (.bool (!b))
      | none => False)
    | none => False)
  | op, x, y => aBin P op t x y K
theorem mk_toList' (l : List UInt8) : (⟨l.toArray⟩ : ByteArray).toList = l := by rw [toList_data]
theorem eqPV_run {k : EK} {t : TypeId} (hk : ekOf P t = some k) {x y : PV} {c : Cx} {v u : Value} {b : Bool} (h : eqPV k x y = some b) (hx : Rep x c v) (hy : Rep y c u) (d : Nat) :
    (Op.equalIn (d + 1) t v u).run P c.w = .ok b c.w := by
  unfold ekOf at hk
  cases hu : P.underlying t with
  | none => rw [hu] at hk; cases hk
  | some td =>
    rw [hu] at hk
    cases td <;> simp only at hk <;> first | (cases hk; done) | (simp only [Option.some.injEq] at hk; subst hk)
    case bool =>
      cases x <;> cases y <;> simp only [eqPV] at h <;> first | (cases h; done) | skip
      unfold Rep at hx hy
      subst hx hy
      rw [run_equalIn_bool' _ _ _ _ _ hu]
      cases h; rfl
    case int =>
      cases x <;> cases y <;> simp only [eqPV] at h <;> first | (cases h; done) | skip
      unfold Rep at hx hy
      subst hx hy
      split at h
      · rename_i hkk
        subst hkk
        rw [run_equalIn_int _ _ _ _ _ _ _ hu]
        cases h; rfl
      · cases h
    case string =>
      cases x <;> cases y <;> simp only [eqPV] at h <;> first | (cases h; done) | skip
      unfold Rep at hx hy
      subst hx hy
      rw [run_equalIn_string _ _ _ _ _ hu, mk_toList', mk_toList']
      cases h
      congr 1
      rw [Bool.eq_iff_iff]
      simp
theorem ekOf_one {t : TypeId} {k : EK} (hk : ekOf P t = some k) (w : World) : (isAgg t).run P w = .ok false w := by
  unfold ekOf at hk
  cases hu : P.underlying t with
  | none => rw [hu] at hk; cases hk
  | some td =>
    rw [hu] at hk
    cases td <;> simp only at hk <;> first | (cases hk; done) | simp [isAgg, run_underlying hu]
theorem eqPVs_run {c : Cx} (d : Nat) {vs us : Array Value} : ∀ (fs : List Field) (o : Nat) {ks : List EK} {xs ys : List PV} {b : Bool}, eksFrom P o fs = some ks → eqPVs ks xs ys = some b →
    RepL xs c (vs.toList.drop o) → RepL ys c (us.toList.drop o) → (Op.eqFields (d + 1) vs us fs).run P c.w = .ok b c.w
  | [], o, ks, xs, ys, b, hk, hb, hx, hy => by
    simp only [eksFrom, Option.some.injEq] at hk
    subst hk
    cases xs <;> cases ys <;> simp only [eqPVs] at hb <;> first | (cases hb; done) | skip
    cases hb
    simp [Op.eqFields]
  | f :: fs, o, ks, xs, ys, b, hk, hb, hx, hy => by
    simp only [eksFrom] at hk
    split at hk
    · rename_i hf
      obtain ⟨hf1, hf2⟩ := hf
      cases h1 : ekOf P f.type with
      | none => rw [h1] at hk; cases hk
      | some k =>
      cases h2 : eksFrom P (o + 1) fs with
      | none => rw [h1, h2] at hk; cases hk
      | some ks' =>
      rw [h1, h2] at hk
      simp only [Option.some.injEq] at hk
      subst hk
      cases xs with
      | nil => cases ys <;> simp [eqPVs] at hb
      | cons x xs =>
      cases ys with
      | nil => simp [eqPVs] at hb
      | cons y ys =>
      simp only [eqPVs] at hb
      cases h3 : eqPV k x y with
      | none => rw [h3] at hb; cases hb
      | some a =>
      cases h4 : eqPVs ks' xs ys with
      | none => rw [h3, h4] at hb; cases hb
      | some r =>
      rw [h3, h4] at hb
      simp only [Option.some.injEq] at hb
      subst hb
      rw [RepL.cons_iff] at hx hy
      obtain ⟨v, vr, e1, r1, r2⟩ := hx
      obtain ⟨u, ur, e2, r3, r4⟩ := hy
      have hv : vs[f.offset]? = some v := by
        rw [hf2, ← Array.getElem?_toList]
        have := congrArg (·[0]?) e1
        simpa [List.getElem?_drop] using this
      have hu : us[f.offset]? = some u := by
        rw [hf2, ← Array.getElem?_toList]
        have := congrArg (·[0]?) e2
        simpa [List.getElem?_drop] using this
      have hvr : vr = vs.toList.drop (o + 1) := by
        have := congrArg List.tail e1
        simpa using this.symm
      have hur : ur = us.toList.drop (o + 1) := by
        have := congrArg List.tail e2
        simpa using this.symm
      subst hvr hur
      have ih := eqPVs_run d fs (o + 1) h2 h4 r2 r4
      have hp := ekOf_one h1 c.w
      have heq := eqPV_run h1 h3 r1 r3 d
      simp only [Op.eqFields, if_pos hf1, Sem.run_bind, part, hp, Result.andThen_ok, Bool.false_eq_true, if_false, hv, hu, Sem.run_pure, heq, Sem.run_ite, ih]
      cases a <;> simp
    · cases hk
theorem and15 (a : Int) (h1 : 0 ≤ a) (h2 : a < 256) : IntKind.u8.wrap ((BitVec.ofInt 8 a &&& BitVec.ofInt 8 15).toNat : Nat) = a % 16 := by
  obtain ⟨n, rfl⟩ := Int.eq_ofNat_of_zero_le h1
  have h : ∀ n < 256, IntKind.u8.wrap ((BitVec.ofInt 8 (n : Nat) &&& BitVec.ofInt 8 15).toNat : Nat) = ((n : Nat) : Int) % 16 := by decide +kernel
  exact h n (by omega)
theorem xor64 (a b : Int) (h1 : 0 ≤ a) (h2 : 0 ≤ b) (h3 : a ≤ 9223372036854775807) (h4 : b ≤ 9223372036854775807) : IntKind.i64.wrap ((BitVec.ofInt 64 a ^^^ BitVec.ofInt 64 b).toNat : Nat) = ((a.toNat ^^^ b.toNat : Nat) : Int) := by
  obtain ⟨n, rfl⟩ := Int.eq_ofNat_of_zero_le h1
  obtain ⟨m, rfl⟩ := Int.eq_ofNat_of_zero_le h2
  have e : (BitVec.ofInt 64 (n : Int) ^^^ BitVec.ofInt 64 (m : Int)).toNat = n ^^^ m := by
    rw [BitVec.toNat_xor, BitVec.toNat_ofInt, BitVec.toNat_ofInt]
    congr 1 <;> omega
  have hx : n ^^^ m < 2 ^ 63 := Nat.xor_lt_two_pow (by omega) (by omega)
  rw [e]
  simp only [Int.toNat_natCast]
  exact inR.wrap (k := .i64) (by unfold inR; omega)
theorem bin_sound {c : Cx} {op : BinOp} {t : TypeId} {x y : PV} {v u : Value} {K : PV → Prop} (h : aBin' P op t x y K) (hx : Rep x c v) (hy : Rep y c u) (ox oy : Operand) :
    ∃ v' r, (do eqGuard op t ox oy v u; binOp op t v u : Sem Value).run P c.w = .ok v' c.w ∧ Rep r c v' ∧ K r := by
  have agg : ∀ {xs ys : List PV} {b : Bool}, (match eksOf P t with | some ks => (match eqPVs ks xs ys with | some b' => some b' | none => none) | none => none) = some b → Rep (.agg xs) c v → Rep (.agg ys) c u →
      ∃ vs us, v = .agg vs ∧ u = .agg us ∧ (Op.equalIn 10000 t v u).run P c.w = .ok b c.w ∧ (eqGuard op t ox oy v u).run P c.w = .ok () c.w := by
    intro xs ys b hb hx2 hy2
    unfold Rep at hx2 hy2
    obtain ⟨vs, hv2, hx2⟩ := hx2
    obtain ⟨us, hu2, hy2⟩ := hy2
    cases hk : eksOf P t with
    | none => rw [hk] at hb; cases hb
    | some ks =>
      rw [hk] at hb
      simp only at hb
      unfold eksOf at hk
      cases hu : P.underlying t with
      | none => rw [hu] at hk; cases hk
      | some td =>
        rw [hu] at hk
        cases td <;> simp only at hk <;> first | (cases hk; done) | skip
        rename_i fs
        split at hk
        · cases hk
        · rename_i hg
          simp only [Bool.or_eq_true, not_or, Bool.not_eq_true] at hg
          cases he : eqPVs ks xs ys with
          | none => rw [he] at hb; cases hb
          | some b' =>
            rw [he] at hb
            simp only [Option.some.injEq] at hb
            subst hb
            have hfs : P.fieldsOf t = fs := by simp [Program.fieldsOf, hu]
            refine ⟨vs, us, hv2, hu2, ?_, by rw [hv2, hu2]; exact run_eqGuard_agg _ _ _ _ _ _ _ hg.2⟩
            rw [hv2, hu2, run_equalIn_agg _ 9999 t vs us (by rw [hfs, hu]) hg.1, hfs]
            exact eqPVs_run 9998 fs.toList 0 hk he (by simpa using hx2) (by simpa using hy2)
  have base : aBin P op t x y K → ∃ v' r, (do eqGuard op t ox oy v u; binOp op t v u : Sem Value).run P c.w = .ok v' c.w ∧ Rep r c v' ∧ K r := by
    intro hB
    cases x <;> cases y <;> (try (cases op <;> simp only [aBin] at hB <;> done))
    case int.int k a k' b =>
      unfold Rep at hx hy
      subst hx hy
      cases op <;> simp only [aBin] at hB <;> first | (exact hB.elim) | skip
      case add =>
        obtain ⟨rfl, h1, h2⟩ := hB
        exact ⟨_, _, by simp [eqGuard_add, binOp_add, Op.intArith, h1.wrap]; rfl, by unfold Rep; rfl, h2⟩
      case sub =>
        obtain ⟨rfl, h1, h2⟩ := hB
        exact ⟨_, _, by simp [eqGuard_sub, binOp_sub, Op.intArith, h1.wrap]; rfl, by unfold Rep; rfl, h2⟩
      case mul =>
        obtain ⟨rfl, h1, h2⟩ := hB
        exact ⟨_, _, by simp [eqGuard_mul, binOp_mul, Op.intArith, h1.wrap]; rfl, by unfold Rep; rfl, h2⟩
      case shr =>
        obtain ⟨rfl, rfl, h4⟩ := hB
        refine ⟨_, _, ?_, by unfold Rep; rfl, h4⟩
        have e : a.fdiv 16 = a / 16 := Int.fdiv_eq_ediv_of_nonneg a (by decide)
        simp [eqGuard_shr, binOp_shr, Op.shift, IntKind.bits, e]
      case and =>
        obtain ⟨rfl, rfl, h1, h2, rfl, h4⟩ := hB
        refine ⟨_, _, ?_, by unfold Rep; rfl, h4⟩
        have e := and15 a h1 h2
        simp only [eqGuard_and, binOp_and, Op.intBits, Sem.run_bind, Sem.run_pure, Result.andThen_ok]
        rw [show IntKind.u8.bits = 8 from rfl, e]
      case xor =>
        obtain ⟨rfl, rfl, h1, h2, h3, h4, h5⟩ := hB
        refine ⟨_, _, ?_, by unfold Rep; rfl, h5⟩
        have e := xor64 a b h1 h2 h3 h4
        simp only [eqGuard_xor, binOp_xor, Op.intBits, Sem.run_bind, Sem.run_pure, Result.andThen_ok]
        rw [show IntKind.i64.bits = 64 from rfl, e]
      case quo =>
        obtain ⟨rfl, h1, h2, h3, h4⟩ := hB
        refine ⟨_, _, ?_, by unfold Rep; rfl, h4⟩
        have hb : b ≠ 0 := by omega
        have e : a.tdiv b = a / b := Int.tdiv_eq_ediv_of_nonneg h1
        simp [eqGuard_quo, binOp_quo, Op.intDiv, hb, e, h3.wrap]
      case rem =>
        obtain ⟨rfl, h1, h2, h4⟩ := hB
        refine ⟨_, _, ?_, by unfold Rep; rfl, h4⟩
        have hb : b ≠ 0 := by omega
        have e : a.tmod b = a % b := Int.tmod_eq_emod_of_nonneg h1
        simp [eqGuard_rem, binOp_rem, Op.intDiv, hb, e]
      all_goals
        obtain ⟨rfl, hB⟩ := hB
        refine ⟨_, _, ?_, by unfold Rep; rfl, hB⟩
        first
        | (simp [eqGuard_at_int, binOp_eql]; done)
        | (simp [eqGuard_at_int, binOp_neq]; done)
        | (simp [eqGuard_at_int, binOp_lss]; done)
        | (simp [eqGuard_at_int, binOp_leq]; done)
        | (simp [eqGuard_at_int, binOp_gtr]; done)
        | (simp [eqGuard_at_int, binOp_geq]; done)
        | (simp [eqGuard_at_int, binOp, Op.intCmp]; rfl)
    case str.str l m =>
      unfold Rep at hx hy
      subst hx hy
      have hsl : (ByteArray.mk l.toArray).size = l.length := by show l.toArray.size = _; simp
      have hsm : (ByteArray.mk m.toArray).size = m.length := by show m.toArray.size = _; simp
      have happ : ByteArray.mk l.toArray ++ ByteArray.mk m.toArray = ⟨(l ++ m).toArray⟩ := by
        have : (ByteArray.mk l.toArray ++ ByteArray.mk m.toArray).data = (l ++ m).toArray := by rw [ByteArray.data_append]; simp
        rw [← this]
      cases op <;> simp only [aBin] at hB <;> first | (exact hB.elim) | skip
      case add =>
        refine ⟨.string ⟨(l ++ m).toArray⟩, _, ?_, by unfold Rep; rfl, hB.2⟩
        have : ¬ ((l.length : Int) + (m.length : Int) > 9223372036854775807) := by have := hB.1; omega
        simp [eqGuard_at_string, binOp, Op.stringOp, hsl, hsm, happ]
        omega
      all_goals
        refine ⟨_, _, ?_, by unfold Rep; rfl, hB⟩
        simp [eqGuard_at_string, binOp, Op.stringOp, mk_toList']
        try (rw [Bool.eq_iff_iff]; simp; done)
    case bool.bool a b =>
      unfold Rep at hx hy
      subst hx hy
      cases op <;> simp only [aBin] at hB <;> first | (exact hB.elim) | skip
      all_goals
        obtain ⟨hu, hB⟩ := hB
        refine ⟨_, _, ?_, by unfold Rep; rfl, hB⟩
        have he : (Op.equalIn 10000 t (.bool a) (.bool b)).run P c.w = .ok (a == b) c.w := run_equalIn_bool' _ _ _ _ _ hu
        simp [eqGuard_at_bool, binOp, Op.equal, Op.maxDepth, he]
    all_goals (cases op <;> exact hB.elim)
  cases op <;> (try exact base h)
  · -- eql
    cases x <;> cases y <;> (try exact base h)
    rename_i xs ys
    simp only [aBin'] at h
    cases hk : eksOf P t with
    | none => rw [hk] at h; exact h.elim
    | some ks =>
      rw [hk] at h
      simp only at h
      cases he : eqPVs ks xs ys with
      | none => rw [he] at h; exact h.elim
      | some b =>
        rw [he] at h
        obtain ⟨vs, us, rfl, rfl, h1, h2⟩ := agg (b := b) (by rw [hk]; simp only [he]) hx hy
        exact ⟨.bool b, _, by simp only [Sem.run_bind, h2, Result.andThen_ok, run_eql_struct, h1], by unfold Rep; rfl, h⟩
  · -- neq
    cases x <;> cases y <;> (try exact base h)
    rename_i xs ys
    simp only [aBin'] at h
    cases hk : eksOf P t with
    | none => rw [hk] at h; exact h.elim
    | some ks =>
      rw [hk] at h
      simp only at h
      cases he : eqPVs ks xs ys with
      | none => rw [he] at h; exact h.elim
      | some b =>
        rw [he] at h
        obtain ⟨vs, us, rfl, rfl, h1, h2⟩ := agg (b := b) (by rw [hk]; simp only [he]) hx hy
        exact ⟨.bool (!b), _, by simp only [Sem.run_bind, h2, Result.andThen_ok, run_neq_struct, h1], by unfold Rep; rfl, h⟩
def aUn (op : UnOp) (x : PV) (K : PV → Prop) : Prop :=
  match op, x with
  | .not, .bool b => K (.bool (!b))
  | .neg, .int k n => inR k (-n) ∧ K (.int k (-n))
  | _, _ => False
theorem un_sound {c : Cx} {op : UnOp} {x : PV} {v : Value} {K : PV → Prop} (h : aUn op x K) (hx : Rep x c v) : ∃ v' r, (Op.unary op v).run P c.w = .ok v' c.w ∧ Rep r c v' ∧ K r := by
  cases op <;> cases x <;> simp only [aUn] at h <;> first | (exact h.elim) | skip
  all_goals
    unfold Rep at hx
    subst hx
  · exact ⟨_, _, by simp [Op.unary, Op.intArith, h.1.wrap]; rfl, by unfold Rep; rfl, h.2⟩
  · exact ⟨_, _, by simp [Op.unary]; rfl, by unfold Rep; rfl, h⟩
end
end Go.Proofs.YtoocbpendccngaaGreat
