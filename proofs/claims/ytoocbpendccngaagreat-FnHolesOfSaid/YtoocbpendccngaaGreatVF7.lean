/- Abstract operations: structs built, slices made and appended to, lengths, parts of values. -/
import Derived.Test.YtoocbpendccngaaGreatVF6

namespace Go.Proofs.YtoocbpendccngaaGreat
set_option maxRecDepth 100000
set_option linter.unusedVariables false
set_option linter.unusedSimpArgs false
open Go.RowKit
section
variable {P : Program}
def RepP (c : Cx) : List (Nat × PV) → List (Nat × Value) → Prop
  | [], [] => True
  | (i, u) :: us, (j, v) :: vs => i = j ∧ Rep u c v ∧ RepP c us vs
  | _, _ => False
def plOf (P : Program) (t : TypeId) : Option (List (Nat × Nat)) :=
  match P.underlying t with
  | some (.struct fields) => fields.toList.mapM (fun f => (P.info? f.type).map fun i => (f.offset, i.size))
  | _ => none
def bldPV (pl : List (Nat × Nat)) : List PV → List (Nat × PV) → Option (List PV)
  | zs, [] => some zs
  | zs, (i, u) :: rest => match pl[i]? with
    | some (off, 1) => if u.isCell = true ∧ off < zs.length then bldPV pl (zs.set off u) rest else none
    | _ => none
def aBuild (P : Program) (t : TypeId) (parts : List (Nat × PV)) (K : PV → Prop) : Prop :=
  match zeroOf P t, plOf P t with
  | some zs, some pl => (match bldPV pl zs parts with
    | some cs => K (.agg cs)
    | none => False)
  | _, _ => False
theorem fill_sound {c : Cx} {n : Nat} (hn : Names c n) (pl : List (Nat × Nat)) : ∀ (us : List (Nat × PV)) (vs : List (Nat × Value)) (zs : List PV) (cells : Array Value) {cs : List PV}, RepP c us vs → RepL zs c cells.toList → bldPV pl zs us = some cs →
    ∃ cells', Instr.fill (pl.toArray[·]?) cells vs = some cells' ∧ RepL cs c cells'.toList
  | [], [], zs, cells, cs, _, hz, hb => by
    simp only [bldPV, Option.some.injEq] at hb
    subst hb
    exact ⟨cells, rfl, hz⟩
  | [], _ :: _, _, _, _, h, _, _ => by simp [RepP] at h
  | _ :: _, [], _, _, _, h, _, _ => by simp [RepP] at h
  | (i, u) :: us, (j, v) :: vs, zs, cells, cs, h, hz, hb => by
    simp only [RepP] at h
    obtain ⟨rfl, hu, h⟩ := h
    simp only [bldPV] at hb
    cases hp : pl[i]? with
    | none => rw [hp] at hb; cases hb
    | some q =>
      obtain ⟨off, sz⟩ := q
      rw [hp] at hb
      have hsz : sz = 1 := by
        match sz, hb with
        | 1, _ => rfl
      subst hsz
      simp only at hb
      split at hb
      · rename_i hc
        have ho := oneCell_of_rep hc.1 hn.2 hu
        have hv : v.cells = #[v] := by cases v <;> first | rfl | cases ho
        have hl := hz.length
        have hlt : off < cells.size := by have := hc.2; simp at hl; omega
        obtain ⟨cells', h1, h2⟩ := fill_sound hn pl us vs (zs.set off u) (cells.setIfInBounds off v) h (by rw [Array.toList_setIfInBounds]; exact hz.set off hu) hb
        refine ⟨cells', ?_, h2⟩
        have hp' : pl.toArray[i]? = some (off, 1) := by simpa using hp
        rw [← h1]
        simp only [Instr.fill, hp', hv]
        rw [if_neg (by simp; omega)]
        simp
      · cases hb
theorem build_sound {c : Cx} {n : Nat} (hn : Names c n) {t : TypeId} {us : List (Nat × PV)} {vs : Array (Nat × Value)} {K : PV → Prop} (h : aBuild P t us K) (hp : RepP c us vs.toList) :
    ∃ v r, (Instr.build t vs).run P c.w = .ok v c.w ∧ Rep r c v ∧ K r := by
  unfold aBuild at h
  cases hz : zeroOf P t with
  | none => rw [hz] at h; exact h.elim
  | some zs =>
  cases hl : plOf P t with
  | none => rw [hz, hl] at h; exact h.elim
  | some pl =>
  rw [hz, hl] at h
  simp only at h
  cases hb : bldPV pl zs us with
  | none => rw [hb] at h; exact h.elim
  | some cs =>
  rw [hb] at h
  unfold zeroOf at hz
  cases hi : P.info? t with
  | none => rw [hi] at hz; cases hz
  | some i =>
  rw [hi] at hz
  simp only [Option.bind_some] at hz
  cases hiz : i.zero with
  | none => rw [hiz] at hz; cases hz
  | some z =>
  rw [hiz] at hz
  simp only at hz
  split at hz
  · simp only [Option.some.injEq] at hz
    subst hz
    unfold plOf at hl
    cases hu : P.underlying t with
    | none => rw [hu] at hl; cases hl
    | some d =>
      rw [hu] at hl
      cases d <;> simp only at hl <;> first | (cases hl; done) | skip
      rename_i fields
      obtain ⟨cells', h1, h2⟩ := fill_sound hn pl us vs.toList _ z.cells hp (repL_pvOf c z.cells.toList) hb
      refine ⟨.agg cells', .agg cs, run_build c.w t vs cells' ?_, by unfold Rep; exact ⟨cells', rfl, h2⟩, h⟩
      unfold Program.built
      simp only [hi, hu, hiz, hl, h1]
  · cases hz
theorem foldl_zip (off : Nat) : ∀ (xs : List Value) (j : Nat) (A : Array Value), off + j + xs.length ≤ A.size →
    (xs.zipIdx j).foldl (fun cs (p : Value × Nat) => cs.setIfInBounds (off + p.2) p.1) A = (A.toList.take (off + j) ++ xs ++ A.toList.drop (off + j + xs.length)).toArray
  | [], j, A, _ => by simp
  | x :: xs, j, A, h => by
    have ih := foldl_zip off xs (j + 1) (A.setIfInBounds (off + j) x) (by simp at h ⊢; omega)
    have e := list_seg_step A.toList (off + j) x xs (by simp at h ⊢; omega)
    simp only [List.zipIdx_cons, List.foldl_cons, ih]
    congr 1
    rw [show (x :: xs).length = xs.length + 1 from rfl, ← e]
    simp [Nat.add_assoc]
theorem fill_rows {s : Nat} : ∀ (ps : List (Nat × Value)) (k : Nat) (A : Array Value), (∀ j p, ps[j]? = some p → p.1 = k + j ∧ p.2.cells.size = s) → (k + ps.length) * s = A.size →
    Instr.fill (fun i => some (i * s, s)) A ps = some (A.toList.take (k * s) ++ ps.flatMap (fun p => p.2.cells.toList)).toArray
  | [], k, A, _, h => by
    simp only [Instr.fill, List.flatMap_nil, List.append_nil]
    rw [List.take_of_length_le (by simp at h ⊢; omega)]
  | (i, v) :: ps, k, A, hp, h => by
    obtain ⟨rfl, hv⟩ := hp 0 (i, v) rfl
    simp only at hv
    have e1 : (i + (((i, v) :: ps).length)) * s = i * s + (s + ps.length * s) := by
      rw [List.length_cons, Nat.add_mul, Nat.add_mul]; omega
    simp only [Nat.add_zero] at h
    rw [e1] at h
    have hf := foldl_zip (i * s) v.cells.toList 0 A (by simp [hv]; omega)
    simp only [Nat.add_zero, Array.length_toList, hv] at hf
    have hsz : ((A.toList.take (i * s) ++ v.cells.toList ++ A.toList.drop (i * s + s)).toArray).size = A.size := by simp [hv]; omega
    have ih := fill_rows ps (i + 1) (A.toList.take (i * s) ++ v.cells.toList ++ A.toList.drop (i * s + s)).toArray (fun j p hj => by
      have := hp (j + 1) p (by simpa using hj)
      simp only [Nat.add_zero] at this
      exact ⟨by omega, this.2⟩) (by rw [hsz, Nat.add_mul, Nat.add_mul]; omega)
    simp only [Instr.fill, Nat.add_zero, hv, ne_eq, not_true_eq_false, decide_false, Bool.false_or]
    rw [if_neg (by simp; omega)]
    have hz : v.cells.zipIdx.foldl (fun cs x => match x with | (c, j) => cs.setIfInBounds (i * s + j) c) A = (A.toList.take (i * s) ++ v.cells.toList ++ A.toList.drop (i * s + s)).toArray := by
      rw [← hf, ← Array.foldl_toList, Array.toList_zipIdx]
    rw [hz, ih]
    congr 2
    have l1 : (A.toList.take (i * s) ++ v.cells.toList).length = (i + 1) * s := by rw [List.length_append, List.length_take]; simp [hv, Nat.add_mul]; omega
    rw [← l1, List.take_left, List.flatMap_cons, List.append_assoc]
def bsPV (s : Nat) : Nat → List (Nat × PV) → Option (List (List PV))
  | _, [] => some []
  | k, (i, u) :: rest => if i = k then (match cellsPV u, bsPV s (k + 1) rest with
    | some us, some es => if us.length = s then some (us :: es) else none
    | _, _ => none) else none
theorem bsPV_sound {c : Cx} {n : Nat} (hn : Names c n) {s : Nat} : ∀ {us : List (Nat × PV)} {vs : List (Nat × Value)} {k : Nat} {es : List (List PV)}, RepP c us vs → bsPV s k us = some es →
    (∀ j p, vs[j]? = some p → p.1 = k + j ∧ p.2.cells.size = s) ∧ RepL es.flatten c (vs.flatMap fun p => p.2.cells.toList) ∧ cellsOk es s ∧ es.length = vs.length
  | [], [], k, es, _, hb => by
    simp only [bsPV, Option.some.injEq] at hb
    subst hb
    exact ⟨by simp, by simp [RepL.nil_iff], ⟨by simp, by simp⟩, rfl⟩
  | [], _ :: _, _, _, h, _ => by simp [RepP] at h
  | _ :: _, [], _, _, h, _ => by simp [RepP] at h
  | (i, u) :: us, (j, v) :: vs, k, es, h, hb => by
    simp only [RepP] at h
    obtain ⟨rfl, hu, h⟩ := h
    simp only [bsPV] at hb
    split at hb
    · rename_i hik
      subst hik
      cases hc : cellsPV u with
      | none => rw [hc] at hb; cases hb
      | some ws =>
      cases hr : bsPV s (i + 1) us with
      | none => rw [hc, hr] at hb; cases hb
      | some es' =>
      rw [hc, hr] at hb
      simp only at hb
      split at hb
      · rename_i hl
        simp only [Option.some.injEq] at hb
        subst hb
        obtain ⟨g1, g2, g3⟩ := cellsPV_sound hc hn.2 hu
        obtain ⟨i1, i2, i3, i4⟩ := bsPV_sound hn h hr
        have hlen := g1.length
        refine ⟨fun j p hj => ?_, ?_, ⟨?_, ?_⟩, by simp [i4]⟩
        · cases j with
          | zero =>
            obtain rfl : (i, v) = p := by simpa using hj
            exact ⟨rfl, by simp at hlen; simp; omega⟩
          | succ j =>
            obtain ⟨a1, a2⟩ := i1 j p (by simpa using hj)
            exact ⟨by omega, a2⟩
        · rw [List.flatten_cons, List.flatMap_cons]
          exact g1.append i2
        · intro x hx
          rcases List.mem_cons.1 hx with rfl | hx
          · exact hl
          · exact i3.1 x hx
        · intro x hx
          rw [List.flatten_cons, List.mem_append] at hx
          rcases hx with hx | hx
          · exact g3 x hx
          · exact i3.2 x hx
      · cases hb
    · cases hb
def aBSlice (P : Program) (t : TypeId) (len : Nat) (parts : List (Nat × PV)) (mem : Mem) (n : Nat) (K : PV → Mem → Nat → Prop) : Prop :=
  match elOf P t with
  | some (e, s, _) => (match bsPV s 0 parts with
    | some es => parts.length = len ∧ len * s ≤ 16777216 ∧ ((es.map (·.map (resC mem))).all fun x => x.all fun u => u.isCell && u.nmb 0) = true ∧
        K (.own n) (upd (frz mem (es.flatten.flatMap ownsC)) n (some (.row e s (es.map (·.map (resC mem)))))) (n + 1)
    | none => False)
  | none => False
theorem flatten_map_map {α β : Type} (f : α → β) : ∀ es : List (List α), (es.map (·.map f)).flatten = es.flatten.map f :=
  fun _ => List.map_flatten.symm
theorem bslice_sound {c : Cx} {mem : Mem} {n : Nat} {t : TypeId} {len : Nat} {us : List (Nat × PV)} {vs : Array (Nat × Value)} {K : PV → Mem → Nat → Prop} (h : aBSlice P t len us mem n K) (hp : RepP c us vs.toList) (hI : InvM c mem) (hn : Names c n) :
    Out P (Instr.buildSlice t len vs) c mem n K := by
  unfold aBSlice at h
  cases he : elOf P t with
  | none => rw [he] at h; exact h.elim
  | some q =>
  obtain ⟨e, s, by_⟩ := q
  rw [he] at h
  simp only at h
  cases hb : bsPV s 0 us with
  | none => rw [hb] at h; exact h.elim
  | some es =>
  rw [hb] at h
  obtain ⟨hlen, hle, hall, hK⟩ := h
  obtain ⟨inf, z, k1, k2, k3, k4, k5, k6, k7⟩ := elOf_run he
  obtain ⟨i1, i2, i3, i4⟩ := bsPV_sound hn hp hb
  obtain ⟨c1, w1, r1, st⟩ := Step.frz (es.flatten.flatMap ownsC) hI hn
  have hvl : vs.toList.length = us.length := by
    have : ∀ {us : List (Nat × PV)} {vs : List (Nat × Value)}, RepP c us vs → vs.length = us.length := by
      intro us
      induction us with
      | nil => intro vs h; cases vs with
        | nil => rfl
        | cons v vs => simp [RepP] at h
      | cons u us ih => intro vs h; cases vs with
        | nil => simp [RepP] at h
        | cons v vs => simp only [RepP] at h; simp [ih h.2.2]
    exact this hp
  have i2' : RepL (es.flatten.map (resC mem)) c1 (vs.toList.flatMap fun p => p.2.cells.toList) := by
    refine repL_map _ (fun u hu v hv => rep_resC st.inv (fun i hi es' => frz_fits mem _ i (by simp only [List.mem_flatMap]; exact ⟨u, hu, hi⟩) es') hv) (RepL.mono _ st.le i2)
  simp only [List.all_eq_true, Bool.and_eq_true] at hall
  have hcells : cellsOk (es.map (·.map (resC mem))) s := by
    refine ⟨fun x hx => ?_, fun u hu => ?_⟩
    · obtain ⟨y, hy, rfl⟩ := List.mem_map.1 hx
      rw [List.length_map]; exact i3.1 y hy
    · obtain ⟨x, hx, hu⟩ := List.mem_flatten.1 hu
      exact (hall x hx u hu).1
  have hnmb : nmbL 0 (es.flatten.map (resC mem)) = true := by
    rw [nmbL_all]
    intro u hu
    rw [← flatten_map_map] at hu
    obtain ⟨x, hx, hu⟩ := List.mem_flatten.1 hu
    exact (hall x hx u hu).2
  have hlen2 : (vs.toList.flatMap fun p => p.2.cells.toList).length = len * s := by
    rw [i2'.length, List.length_map, flatten_length i3.1, i4, hvl, hlen]
  let cells : Array Value := (vs.toList.flatMap fun p => p.2.cells.toList).toArray
  have hcz : cells.size = len * s := by simpa [cells] using hlen2
  have hown := World.ownsRow_lit (base := 0) (e := e) (size := s) c1.w cells len (Nat.zero_le _) (by
    unfold maxLen
    have : len ≤ len * s := Nat.le_mul_of_pos_right _ k7
    omega) hcz
  have hel : (es.map (·.map (resC mem))).length = len := by rw [List.length_map, i4, hvl, hlen]
  obtain ⟨c', q1, q2, q3, q4⟩ := new_row st.inv st.free none (w' := c1.w.alloc (.cells cells e)) (v := .slice (some ⟨c1.w.heap.size, 0, none⟩) len len) (e := e) (s := s) (es := es.map (·.map (resC mem))) (vs := cells.toList) rfl rfl rfl (by simp)
    (fun i hi => by cases hi) (fun b hb _ => heap_alloc_lt _ _ hb) (by rw [hel]; exact hown) (by rw [flatten_map_map]; simpa [cells] using i2'.to_data hnmb) hcells
    (fun b hb => .inr (by simp only [Value.ownBlock, Option.some.injEq] at hb; omega))
  refine ⟨_, _, c', _, _, ?_, hK, st.trans q2, q3⟩
  rw [q1]
  have hfill : ∀ A : Array Value, A.size = len * s → Instr.fill (fun i => some (i * s, s)) A vs.toList = some cells := by
    intro A hA
    have := fill_rows (s := s) vs.toList 0 A i1 (by rw [hvl, hlen, hA, Nat.zero_add])
    simpa using this
  have hle' : ¬ (len * s > 2 ^ 24) := by omega
  have hz : (zeroValue e).run P c.w = .ok z c.w := by simp [zeroValue, typeInfo, k2, k3]
  by_cases h0 : len * s = 0
  · simp only [Instr.buildSlice, Sem.run_bind, run_underlying k1, Result.andThen_ok, sizeOf, typeInfo, run_program, k2, k4, Sem.run_pure, Sem.run_ite, if_neg hle', if_pos h0]
    rw [hfill _ (by simp)]
    simp only [newRow, Sem.run_bind, run_newObj, Result.andThen_ok, Sem.run_pure, w1]
    rfl
  · simp only [Instr.buildSlice, Sem.run_bind, run_underlying k1, Result.andThen_ok, sizeOf, typeInfo, run_program, k2, k4, Sem.run_pure, Sem.run_ite, if_neg hle', if_neg h0, hz]
    rw [hfill _ (by simp)]
    simp only [newRow, Sem.run_bind, run_newObj, Result.andThen_ok, Sem.run_pure, w1]
    rfl
def newsOf (mem : Mem) : PV → Option (List (List PV))
  | .nil => some []
  | .seq ns => some ns
  | .own i => match mem i with
    | some (.row _ _ ns) => some ns
    | some (.fro ns) => some ns
    | _ => none
  | _ => none
def destOf (mem : Mem) (e : TypeId) (s : Nat) : PV → Option (Option Nat × List (List PV))
  | .nil => some (none, [])
  | .own i => match mem i with
    | some (.row e' s' es) => if e' = e ∧ s' = s then some (some i, es) else none
    | _ => none
  | _ => none
def aApp (P : Program) (t : TypeId) (x y : PV) (mem : Mem) (n : Nat) (K : PV → Mem → Nat → Prop) : Prop :=
  match elOf P t with
  | some (e, s, by_) => (match destOf mem e s x, newsOf mem y with
    | some (old, es), some ns => (∀ z ∈ ns, z.length = s) ∧ es.length + ns.length ≤ 9223372036854775807 ∧ (es.length + ns.length) * by_ ≤ 140737488355328 ∧
        K (.own n) (upd (drp mem old) n (some (.row e s (es ++ ns)))) (n + 1)
    | _, _ => False)
  | none => False
theorem one_of_data {c : Cx} : ∀ {us : List PV} {vs : List Value}, (∀ u ∈ us, u.isCell = true) → RepL us c.data vs → ∀ v ∈ vs, v.oneCell' = true
  | [], vs, _, h => by rw [RepL.nil_iff] at h; subst h; simp
  | u :: us, vs, hc, h => by
    rw [RepL.cons_iff] at h
    obtain ⟨x, xs, rfl, h1, h2⟩ := h
    intro v hv
    rcases List.mem_cons.1 hv with rfl | hv
    · exact oneCell_of_rep (hc u (by simp)) (fun i v hi => by cases hi) h1
    · exact one_of_data (fun t ht => hc t (by simp [ht])) h2 v hv
theorem seq_reads {c : Cx} {mem : Mem} (hI : InvM c mem) {ns : List (List PV)} {v : Value} (hr : Rep (.seq ns) c v) {s : Nat} (hs : ∀ z ∈ ns, z.length = s) :
    ∃ A cap vals, v = .slice A ns.length cap ∧ RepL ns.flatten c.data vals ∧ (∀ u ∈ ns.flatten, u.isCell = true) ∧ Reads c.w c.w.heap.size s A ns.length vals := by
  unfold Rep at hr
  obtain ⟨a, cap, rfl, h1, h2, h3⟩ := hr
  rcases h3 with rfl | ⟨b, o, s', rfl, hb, hE⟩
  · exact ⟨a, cap, [], rfl, by simp [RepL.nil_iff], by simp, ⟨by simp, fun h => absurd h (by simp)⟩⟩
  · obtain ⟨g1, g2⟩ := RepE.flat.1 hE
    obtain ⟨vals, g3, g4, g5⟩ := g2.vals
    refine ⟨_, cap, vals, rfl, g3, g5, ⟨?_, fun _ => ⟨⟨b, o, none⟩, rfl, hI.1.lt b hb, fun j u hj => by rw [addr_add]; exact g4 j u hj⟩⟩⟩
    rw [g3.length, flatten_length hs]
theorem news_sound {c : Cx} {mem : Mem} (hI : InvM c mem) {y : PV} {ns : List (List PV)} {v : Value} (h : newsOf mem y = some ns) (hr : Rep y c v) {s : Nat} (hs : ∀ z ∈ ns, z.length = s) :
    ∃ A cap vals, v = .slice A ns.length cap ∧ RepL ns.flatten c.data vals ∧ (∀ u ∈ ns.flatten, u.isCell = true) ∧ Reads c.w c.w.heap.size s A ns.length vals := by
  cases y with
  | nil => simp only [newsOf, Option.some.injEq] at h; subst h; exact seq_reads hI (rep_nil hr) hs
  | seq ms => simp only [newsOf, Option.some.injEq] at h; subst h; exact seq_reads hI hr hs
  | own i =>
    simp only [newsOf] at h
    cases hm : mem i with
    | none => rw [hm] at h; cases h
    | some mb =>
      rw [hm] at h
      cases mb with
      | fro ms => simp only [Option.some.injEq] at h; subst h; exact seq_reads hI (rep_fro hI hm hr) hs
      | row e s' ms =>
        simp only [Option.some.injEq] at h
        subst h
        obtain ⟨_, S, h1, _, _⟩ := hI
        obtain ⟨u, vs, e1, e2, e3, e4, _⟩ := h1 i _ hm
        unfold Rep at hr
        rw [e1] at hr
        cases hr
        have hlen := flatten_length hs
        have hvl := e3.length
        rcases e2.2 with ⟨rfl, hz⟩ | ⟨g, cap, cur, rfl, w1, w2, w3, w4, w5, w6⟩
        · refine ⟨none, 0, vs, by rw [hz], e3, e4.2, ⟨by rw [hvl, hlen], fun hp => by omega⟩⟩
        · refine ⟨_, cap, vs, rfl, e3, e4.2, ⟨by rw [hvl, hlen], fun _ => ⟨⟨g, 0, none⟩, rfl, (Array.getElem?_eq_some_iff.1 w2).1, e2.cells rfl⟩⟩⟩
      | _ => cases h
  | _ => simp [newsOf] at h
theorem app_sound {c : Cx} {mem : Mem} {n : Nat} {t ty : TypeId} {x y : PV} {v u : Value} {K : PV → Mem → Nat → Prop} (h : aApp P t x y mem n K) (hx : Rep x c v) (hy : Rep y c u) (hI : InvM c mem) (hn : Names c n) :
    Out P (Builtin.append_ #[t, t] ty #[v, u]) c mem n K := by
  unfold aApp at h
  cases he : elOf P t with
  | none => rw [he] at h; exact h.elim
  | some q =>
  obtain ⟨e, s, by_⟩ := q
  rw [he] at h
  simp only at h
  cases hd : destOf mem e s x with
  | none => rw [hd] at h; exact h.elim
  | some q =>
  obtain ⟨old, es⟩ := q
  cases hns : newsOf mem y with
  | none => rw [hd, hns] at h; exact h.elim
  | some ns =>
  rw [hd, hns] at h
  obtain ⟨hs, hl1, hl2, hK⟩ := h
  obtain ⟨inf, z, k1, k2, k3, k4, k5, k6, k7⟩ := elOf_run he
  obtain ⟨A, cap, vals, rfl, g1, g2, g3⟩ := news_sound hI hns hy hs
  have hv1 := one_of_data g2 g1
  have hdest : ∃ xs, c.w.ownsRow 0 e s v es.length xs ∧ RepL es.flatten c.data xs ∧ cellsOk es s ∧ (∀ i, old = some i → mem i ≠ none) ∧
      (∀ b, v.ownBlock = some b → ∃ i mb S, old = some i ∧ mem i = some mb ∧ MRep c i S mb ∧ S b) := by
    cases x with
    | nil =>
      simp only [destOf, Option.some.injEq, Prod.mk.injEq] at hd
      obtain ⟨rfl, rfl⟩ := hd
      unfold Rep at hx
      subst hx
      exact ⟨[], World.ownsRow_nil _ _ _ _, by simp [RepL.nil_iff], ⟨by simp, by simp⟩, by simp, by simp [Value.ownBlock]⟩
    | own i =>
      simp only [destOf] at hd
      cases hm : mem i with
      | none => rw [hm] at hd; cases hd
      | some mb =>
        rw [hm] at hd
        cases mb with
        | row e' s' es' =>
          simp only at hd
          split at hd
          · rename_i hh
            obtain ⟨rfl, rfl⟩ := hh
            simp only [Option.some.injEq, Prod.mk.injEq] at hd
            obtain ⟨rfl, rfl⟩ := hd
            obtain ⟨_, S, h1, _, _⟩ := hI
            obtain ⟨u', vs, e1, e2, e3, e4, e5⟩ := h1 i _ hm
            unfold Rep at hx
            rw [e1] at hx
            cases hx
            exact ⟨vs, e2, e3, e4, fun j hj => by cases hj; simp [hm], fun b hb => ⟨i, _, _, rfl, hm, h1 i _ hm, by rw [e5]; exact hb⟩⟩
          · cases hd
        | _ => cases hd
    | _ => simp [destOf] at hd
  obtain ⟨xs, d1, d2, d3, d4, d5⟩ := hdest
  obtain ⟨v', w', hrun, o1, o2, o3⟩ := run_append_any (P := P) c.w 0 t ty e inf z s by_ k1 k2 k3 k4 k5 k6 k7 v es.length xs d1 c.w.heap.size A ns.length cap vals g3 hv1 (by unfold maxLen; omega) hl2 (Nat.zero_le _)
  obtain ⟨c', q1, q2, q3, q4⟩ := new_row hI hn old (w' := w') (v := v') (e := e) (s := s) (es := es ++ ns) (vs := xs ++ vals) o2.os o2.tape o2.output o2.size d4
    (fun b hb hno => o2.block b hb (fun hbe => by
      obtain ⟨i, mb, S, a1, a2, a3, a4⟩ := d5 b hbe.symm
      exact hno i mb S a1 a2 a3 a4))
    (by rw [List.length_append]; exact o1) (by rw [List.flatten_append]; exact d2.append g1)
    ⟨fun x hx => (List.mem_append.1 hx).elim (d3.1 x) (hs x), fun u hu => by
      rw [List.flatten_append] at hu
      exact (List.mem_append.1 hu).elim (d3.2 u) (g2 u)⟩
    (fun b hb => o3.elim (fun h => .inl (d5 b (h ▸ hb))) (fun h => .inr (by rw [h] at hb; cases hb; exact Nat.le_refl _)))
  exact ⟨v', _, c', _, _, by rw [q1]; exact hrun, hK, q2, q3⟩
def aLen (P : Program) (t : TypeId) (mem : Mem) (x : PV) (K : PV → Prop) : Prop :=
  match x with
  | .str l => P.underlying t = some .string ∧ K (.int .i64 l.length)
  | .nil => (elOf P t).isSome = true ∧ K (.int .i64 0)
  | .seq es => (elOf P t).isSome = true ∧ K (.int .i64 es.length)
  | .own i => (elOf P t).isSome = true ∧ (match mem i with
    | some (.row _ _ es) => K (.int .i64 es.length)
    | some (.fro es) => K (.int .i64 es.length)
    | _ => False)
  | _ => False
theorem len_sound {c : Cx} {mem : Mem} (hI : InvM c mem) {t ty : TypeId} {x : PV} {v : Value} {K : PV → Prop} (h : aLen P t mem x K) (hx : Rep x c v) :
    ∃ v' r, (Builtin.len_ #[t] ty #[v]).run P c.w = .ok v' c.w ∧ Rep r c v' ∧ K r := by
  have hsl : ∀ {a n cap}, (elOf P t).isSome = true → (Builtin.len_ #[t] ty #[.slice a n cap]).run P c.w = .ok (.int .i64 n) c.w := by
    intro a n cap he
    obtain ⟨⟨e, s, b⟩, he⟩ := Option.isSome_iff_exists.1 he
    obtain ⟨inf, z, k1, _⟩ := elOf_run he
    simp [Builtin.len_, run_underlying k1, goInt]
  unfold aLen at h
  cases x with
  | str l =>
    unfold Rep at hx
    subst hx
    refine ⟨.int .i64 l.length, _, ?_, by unfold Rep; rfl, h.2⟩
    have : (ByteArray.mk l.toArray).size = l.length := by show l.toArray.size = _; simp
    simp [Builtin.len_, run_underlying h.1, goInt, this]
  | nil =>
    unfold Rep at hx
    subst hx
    exact ⟨.int .i64 0, _, hsl h.1, by unfold Rep; rfl, h.2⟩
  | seq es =>
    unfold Rep at hx
    obtain ⟨a, cap, rfl, _⟩ := hx
    exact ⟨.int .i64 es.length, _, hsl h.1, by unfold Rep; rfl, h.2⟩
  | own i =>
    obtain ⟨he, h⟩ := h
    cases hm : mem i with
    | none => rw [hm] at h; exact h.elim
    | some mb =>
      rw [hm] at h
      cases mb with
      | row e s es =>
        obtain ⟨_, S, h1, _, _⟩ := hI
        obtain ⟨u, vs, e1, e2, _⟩ := h1 i _ hm
        unfold Rep at hx
        rw [e1] at hx
        cases hx
        have : ∃ a cap, v = .slice a es.length cap := by
          rcases e2.2 with ⟨rfl, hz⟩ | ⟨g, cap, cur, rfl, _⟩
          · exact ⟨none, 0, by rw [hz]⟩
          · exact ⟨_, _, rfl⟩
        obtain ⟨a, cap, rfl⟩ := this
        exact ⟨.int .i64 es.length, _, hsl he, by unfold Rep; rfl, h⟩
      | fro es =>
        have hx := rep_fro hI hm hx
        unfold Rep at hx
        obtain ⟨a, cap, rfl, _⟩ := hx
        exact ⟨.int .i64 es.length, _, hsl he, by unfold Rep; rfl, h⟩
      | _ => exact h.elim
  | _ => exact h.elim
def aMax (f : Int → Int → Int) : List PV → (PV → Prop) → Prop
  | [.int .i64 a, .int .i64 b], K => K (.int .i64 (f a b))
  | [.int .i64 a, .int .i64 b, .int .i64 d], K => K (.int .i64 (f (f a b) d))
  | _, _ => False
theorem max_sound {c : Cx} {xs : List PV} {vs : List Value} {K : PV → Prop} (h : aMax max xs K) (hx : RepL xs c vs) (ts : Array TypeId) (ty : TypeId) :
    ∃ v' r, (Builtin.max_ ts ty vs.toArray).run P c.w = .ok v' c.w ∧ Rep r c v' ∧ K r := by
  have hm : ∀ a b : Int, (if b > a then b else a) = max a b := by intro a b; rw [Int.max_def]; split <;> split <;> omega
  match xs, h with
  | [.int .i64 a, .int .i64 b], h =>
    simp only [RepL.cons_iff, RepL.nil_iff] at hx
    obtain ⟨x, xs, rfl, h1, y, ys, rfl, h2, rfl⟩ := hx
    unfold Rep at h1 h2
    subst h1 h2
    exact ⟨_, _, by simp [Builtin.max_, Builtin.max2, hm]; rfl, by unfold Rep; rfl, h⟩
  | [.int .i64 a, .int .i64 b, .int .i64 d], h => 
    simp only [RepL.cons_iff, RepL.nil_iff] at hx
    obtain ⟨x, xs, rfl, h1, y, ys, rfl, h2, z, zs, rfl, h3, rfl⟩ := hx
    unfold Rep at h1 h2 h3
    subst h1 h2 h3
    exact ⟨.int .i64 (max (max a b) d), _, by simp [Builtin.max_, Builtin.max2, hm, Int.max_assoc], by unfold Rep; rfl, h⟩
theorem min_sound {c : Cx} {xs : List PV} {vs : List Value} {K : PV → Prop} (h : aMax min xs K) (hx : RepL xs c vs) (ts : Array TypeId) (ty : TypeId) :
    ∃ v' r, (Builtin.min_ ts ty vs.toArray).run P c.w = .ok v' c.w ∧ Rep r c v' ∧ K r := by
  have hm : ∀ a b : Int, (if b < a then b else a) = min a b := by intro a b; rw [Int.min_def]; split <;> split <;> omega
  match xs, h with
  | [.int .i64 a, .int .i64 b], h =>
    simp only [RepL.cons_iff, RepL.nil_iff] at hx
    obtain ⟨x, xs, rfl, h1, y, ys, rfl, h2, rfl⟩ := hx
    unfold Rep at h1 h2
    subst h1 h2
    exact ⟨_, _, by simp [Builtin.min_, Builtin.min2, hm]; rfl, by unfold Rep; rfl, h⟩
  | [.int .i64 a, .int .i64 b, .int .i64 d], h => 
    simp only [RepL.cons_iff, RepL.nil_iff] at hx
    obtain ⟨x, xs, rfl, h1, y, ys, rfl, h2, z, zs, rfl, h3, rfl⟩ := hx
    unfold Rep at h1 h2 h3
    subst h1 h2 h3
    exact ⟨.int .i64 (min (min a b) d), _, by simp [Builtin.min_, Builtin.min2, hm, Int.min_assoc], by unfold Rep; rfl, h⟩
def aExtract (x : PV) (i : Nat) (K : PV → Prop) : Prop :=
  match x with
  | .tup xs => (match xs[i]? with
    | some u => K u
    | none => False)
  | _ => False
theorem extract_sound {c : Cx} {x : PV} {v : Value} {i : Nat} {K : PV → Prop} (h : aExtract x i K) (hx : Rep x c v) : ∃ v' r, (Instr.extract v i).run P c.w = .ok v' c.w ∧ Rep r c v' ∧ K r := by
  cases x with
  | tup xs =>
    simp only [aExtract] at h
    unfold Rep at hx
    obtain ⟨vs, rfl, hx⟩ := hx
    cases hu : xs[i]? with
    | none => rw [hu] at h; exact h.elim
    | some u =>
      rw [hu] at h
      obtain ⟨v', h1, h2⟩ := hx.get i u hu
      have : vs[i]? = some v' := by rw [← Array.getElem?_toList]; exact h1
      exact ⟨v', u, by simp [Instr.extract, this], h2, h⟩
  | _ => exact h.elim
def aField (P : Program) (t : TypeId) (x : PV) (f : Nat) (K : PV → Prop) : Prop :=
  match fldOf P t f, x with
  | some (off, true), .agg cs => (match cs[off]? with
    | some u => K u
    | none => False)
  | _, _ => False
theorem field_sound {c : Cx} {t : TypeId} {x : PV} {v : Value} {f : Nat} {K : PV → Prop} (h : aField P t x f K) (hx : Rep x c v) : ∃ v' r, (Instr.field t v f).run P c.w = .ok v' c.w ∧ Rep r c v' ∧ K r := by
  unfold aField at h
  cases hf : fldOf P t f with
  | none => rw [hf] at h; exact h.elim
  | some q =>
    obtain ⟨off, b⟩ := q
    rw [hf] at h
    cases b with
    | false => exact h.elim
    | true =>
      cases x with
      | agg cs =>
        simp only at h
        unfold Rep at hx
        obtain ⟨vs, rfl, hx⟩ := hx
        obtain ⟨fs, fd, i, h1, h2, h3, h4, h5, h6⟩ := fldOf_run hf
        obtain ⟨_, d, _, h7⟩ := h6 rfl
        cases hu : cs[off]? with
        | none => rw [hu] at h; exact h.elim
        | some u =>
          rw [hu] at h
          obtain ⟨v', g1, g2⟩ := hx.get off u hu
          have : vs[off]? = some v' := by rw [← Array.getElem?_toList]; exact g1
          exact ⟨v', u, by simp [Instr.field, run_underlying h1, h2, asAgg, part, h7, h3, this], g2, h⟩
      | _ => exact h.elim
end
end Go.Proofs.YtoocbpendccngaaGreat
