/- Regions whose order is drawn, with operations that change named memory in more than one order: a tree of orders. No program. -/
import Derived.Test.YtnbjogilidfkdaaVFX

namespace Go.Proofs.Ytnbjogilidfkdaa
set_option maxRecDepth 100000
set_option linter.unusedVariables false
set_option linter.unusedSimpArgs false
open Go.RowKit
mutual
/-- Calm operations, then one of these that change memory. -/
inductive MN where
  | mk (cs : List Nat) (ch : MC)
inductive MC where
  | nil
  | cons (i : Nat) (t : MN) (r : MC)
end
def MC.mem (j : Nat) : MC → Prop
  | .nil => False
  | .cons i _ r => j = i ∨ r.mem j
def MC.isNil : MC → Bool
  | .nil => true
  | _ => false
def MC.memB (j : Nat) : MC → Bool
  | .nil => false
  | .cons i _ r => j == i || r.memB j
section
variable {P : Program} {G : PCtr}
mutual
def amixN (P : Program) (G : PCtr) (Γ : Ctr) (ops : Array Oper) (mc : Mem) : MN → AS → (AS → Prop) → Prop
  | .mk cs ch, σ, K => amix P G Γ ops.toList mc (cs.map fun i => (true, ops.getD i default)) σ fun σ' => amixC P G Γ ops mc ch σ' K
/-- Whichever comes next. -/
def amixC (P : Program) (G : PCtr) (Γ : Ctr) (ops : Array Oper) (mc : Mem) : MC → AS → (AS → Prop) → Prop
  | .nil, σ, K => K σ
  | .cons i t .nil, σ, K => gpe P Γ ops.toList (ops.getD i default) σ.tmp σ.mem σ.nx fun r m n => SubM mc m ∧ amixN P G Γ ops mc t ⟨putT σ.tmp (ops.getD i default).dst r, m, n⟩ K
  | .cons i t r, σ, K => (gpe P Γ ops.toList (ops.getD i default) σ.tmp σ.mem σ.nx fun r m n => SubM mc m ∧ amixN P G Γ ops mc t ⟨putT σ.tmp (ops.getD i default).dst r, m, n⟩ K) ∧ amixC P G Γ ops mc r σ K
end
/-- The child i has the tree t. -/
def MC.child (i : Nat) (t : MN) : MC → Prop
  | .nil => False
  | .cons j u r => (i = j ∧ t = u) ∨ r.child i t
theorem MC.child_of_mem {j : Nat} : ∀ {ch : MC}, ch.mem j → ∃ t, ch.child j t
  | .nil, h => h.elim
  | .cons i u r, h => by
    rcases h with rfl | h
    · exact ⟨u, .inl ⟨rfl, rfl⟩⟩
    · obtain ⟨t, ht⟩ := MC.child_of_mem h
      exact ⟨t, .inr ht⟩
theorem amixC_child {Γ : Ctr} {ops : Array Oper} {mc : Mem} {σ : AS} {K : AS → Prop} {i : Nat} {t : MN} : ∀ {ch : MC}, amixC P G Γ ops mc ch σ K → ch.child i t →
    gpe P Γ ops.toList (ops.getD i default) σ.tmp σ.mem σ.nx fun r m n => SubM mc m ∧ amixN P G Γ ops mc t ⟨putT σ.tmp (ops.getD i default).dst r, m, n⟩ K
  | .nil, _, h => h.elim
  | .cons j u .nil, h, hc => by
    rcases hc with ⟨rfl, rfl⟩ | hc
    · unfold amixC at h; exact h
    · exact hc.elim
  | .cons j u (.cons k v r), h, hc => by
    unfold amixC at h
    rcases hc with ⟨rfl, rfl⟩ | hc
    · exact h.1
    · exact amixC_child h.2 hc
theorem amix_append {Γ : Ctr} {all : List Oper} {mc : Mem} {K : AS → Prop} : ∀ (a b : List (Bool × Oper)) (σ : AS), amix P G Γ all mc (a ++ b) σ K ↔ amix P G Γ all mc a σ fun σ' => amix P G Γ all mc b σ' K
  | [], b, σ => Iff.rfl
  | (true, o) :: a, b, σ => by
    rw [List.cons_append, amix, amix]
    have : (fun r => amix P G Γ all mc (a ++ b) ⟨putT σ.tmp o.dst r, σ.mem, σ.nx⟩ K) = fun r => amix P G Γ all mc a ⟨putT σ.tmp o.dst r, σ.mem, σ.nx⟩ fun σ' => amix P G Γ all mc b σ' K := by
      funext r; exact propext (amix_append a b _)
    rw [this]
  | (false, o) :: a, b, σ => by
    rw [List.cons_append, amix, amix]
    have : (fun r m n => SubM mc m ∧ amix P G Γ all mc (a ++ b) ⟨putT σ.tmp o.dst r, m, n⟩ K) = fun r m n => SubM mc m ∧ amix P G Γ all mc a ⟨putT σ.tmp o.dst r, m, n⟩ fun σ' => amix P G Γ all mc b σ' K := by
      funext r m n; exact propext (and_congr_right fun _ => amix_append a b _)
    rw [this]
theorem amix_mono (hG : ∀ f R, G f = some R → PureOk P f R) {Γ : Ctr} {all : List Oper} {mc : Mem} {K K' : AS → Prop} (hk : ∀ σ, K σ → K' σ) : ∀ (a : List (Bool × Oper)) (σ : AS), (∀ x ∈ a, x.1 = true) → amix P G Γ all mc a σ K → amix P G Γ all mc a σ K'
  | [], σ, _, h => hk σ h
  | (true, o) :: a, σ, ha, h => by
    rw [amix] at h ⊢
    exact (fun_gpd hG all mc o σ.tmp).mono (fun r hr => amix_mono hG hk a _ (fun x hx => ha x (by simp [hx])) hr) h
  | (false, o) :: a, σ, ha, h => absurd (ha (false, o) (by simp)) (by simp)
/-- Calm ones: each stands behind what binds it, and those ahead of it are behind nothing or apart. -/
def csB (ops : Array Oper) (cal : Nat → Bool) : List Nat → List Nat → Bool
  | _, [] => true
  | ab, j :: r => decide (j < ops.size) && cal j && !ab.contains j &&
      (match ops[j]? with
        | some y => (y.after.all fun e => !Region.binds .any e || ab.contains e.on) &&
            ab.all fun i => !cal i || befB ops ops.size i j || match ops[i]? with
              | some x => x.apart ops y
              | none => false
        | none => false) && csB ops cal (ab ++ [j]) r
/-- One that changes memory, behind these. -/
def effB (ops : Array Oper) (cal : Nat → Bool) (ab : List Nat) (j : Nat) : Bool := decide (j < ops.size) && !cal j && !ab.contains j &&
  (match ops[j]? with
    | some y => (y.after.all fun e => !Region.binds .any e || ab.contains e.on) &&
        ab.all fun i => !cal i || befB ops ops.size i j || match ops[i]? with
          | some x => x.apart ops y
          | none => false
    | none => false)
mutual
def treeB (ops : Array Oper) (cal : Nat → Bool) : List Nat → MN → Bool
  | ab, .mk cs ch => csB ops cal ab cs &&
      ((List.range ops.size).all fun j => (ab ++ cs).contains j || ch.memB j || (List.range ops.size).any fun x => !(ab ++ cs).contains x && !cal x && befB ops ops.size x j) &&
      (!ch.isNil || (List.range ops.size).all fun j => (ab ++ cs).contains j) &&
      chB ops cal (ab ++ cs) ch
def chB (ops : Array Oper) (cal : Nat → Bool) : List Nat → MC → Bool
  | _, .nil => true
  | ab, .cons i t r => effB ops cal ab i && treeB ops cal (ab ++ [i]) t && chB ops cal ab r
end
def CsOk (ops : Array Oper) (cal : Nat → Bool) (ab : List Nat) (j : Nat) : Prop :=
  j < ops.size ∧ j ∉ ab ∧ (∀ i, Edge_ ops i j → i ∈ ab) ∧ ∀ i ∈ ab, cal i = true → Bef ops i j ∨ ∀ x y, ops[i]? = some x → ops[j]? = some y → x.apart ops y = true
theorem cs_one {ops : Array Oper} {cal : Nat → Bool} {ab : List Nat} {j : Nat} (h0 : j < ops.size) (h1 : ab.contains j = false)
    (h2 : (match ops[j]? with
        | some y => (y.after.all fun e => !Region.binds .any e || ab.contains e.on) &&
            ab.all fun i => !cal i || befB ops ops.size i j || match ops[i]? with
              | some x => x.apart ops y
              | none => false
        | none => false) = true) : CsOk ops cal ab j := by
  have hj : ops[j]? = some ops[j] := Array.getElem?_eq_getElem h0
  rw [hj] at h2
  simp only [Bool.and_eq_true, List.all_eq_true, Array.all_eq_true'] at h2
  obtain ⟨h3, h4⟩ := h2
  refine ⟨h0, by simpa using h1, fun i he => ?_, fun i hi hc => ?_⟩
  · obtain ⟨o, ho, e, hem, hb, rfl⟩ := he
    rw [hj] at ho
    cases ho
    have := h3 e hem
    rw [hb] at this
    simpa using this
  · have := h4 i hi
    rw [hc] at this
    simp only [Bool.not_true, Bool.false_or, Bool.or_eq_true] at this
    rcases this with h | h
    · exact .inl (befB_sound _ h)
    · refine .inr fun x y hx hy => ?_
      rw [hj] at hy
      cases hy
      rw [hx] at h
      exact h
theorem cs_all {ops : Array Oper} {cal : Nat → Bool} : ∀ (cs ab : List Nat), csB ops cal ab cs = true → ∀ pre j post, cs = pre ++ j :: post → cal j = true ∧ CsOk ops cal (ab ++ pre) j
  | [], ab, _, pre, j, post, e => by simp at e
  | c :: cs, ab, h, pre, j, post, e => by
    simp only [csB, Bool.and_eq_true, decide_eq_true_eq, Bool.not_eq_true'] at h
    obtain ⟨⟨⟨⟨h0, h1⟩, h2⟩, h3⟩, h4⟩ := h
    cases pre with
    | nil =>
      simp only [List.nil_append, List.cons.injEq] at e
      obtain ⟨rfl, rfl⟩ := e
      rw [List.append_nil]
      exact ⟨h1, cs_one h0 h2 h3⟩
    | cons p pre =>
      simp only [List.cons_append, List.cons.injEq] at e
      obtain ⟨rfl, rfl⟩ := e
      have := cs_all _ (ab ++ [c]) h4 pre j post rfl
      rw [List.append_assoc] at this
      simpa using this
theorem eff_one {ops : Array Oper} {cal : Nat → Bool} {ab : List Nat} {j : Nat} (h : effB ops cal ab j = true) : cal j = false ∧ CsOk ops cal ab j := by
  simp only [effB, Bool.and_eq_true, decide_eq_true_eq, Bool.not_eq_true'] at h
  obtain ⟨⟨⟨h0, h1⟩, h2⟩, h3⟩ := h
  exact ⟨h1, cs_one h0 h2 h3⟩
theorem ch_child {ops : Array Oper} {cal : Nat → Bool} {ab : List Nat} {i : Nat} {t : MN} : ∀ {ch : MC}, chB ops cal ab ch = true → ch.child i t → effB ops cal ab i = true ∧ treeB ops cal (ab ++ [i]) t = true
  | .nil, _, h => h.elim
  | .cons j u r, h, hc => by
    simp only [chB, Bool.and_eq_true] at h
    rcases hc with ⟨rfl, rfl⟩ | hc
    · exact h.1
    · exact ch_child h.2 hc
theorem memB_iff {j : Nat} : ∀ {ch : MC}, ch.memB j = true ↔ ch.mem j
  | .nil => by simp [MC.memB, MC.mem]
  | .cons i t r => by simp [MC.memB, MC.mem, memB_iff (ch := r)]
theorem filter_before {α : Type} {p : α → Bool} {i : α} : ∀ {l pre post : List α}, l.filter p = pre ++ i :: post → ∃ a b, l = a ++ i :: b ∧ pre = a.filter p
  | [], pre, post, h => by simp at h
  | x :: l, pre, post, h => by
    by_cases hx : p x = true
    · rw [List.filter_cons_of_pos hx] at h
      cases pre with
      | nil =>
        simp only [List.nil_append, List.cons.injEq] at h
        exact ⟨[], l, by rw [h.1]; rfl, rfl⟩
      | cons y pre =>
        simp only [List.cons_append, List.cons.injEq] at h
        obtain ⟨a, b, e1, e2⟩ := filter_before h.2
        exact ⟨x :: a, b, by rw [e1]; rfl, by rw [List.filter_cons_of_pos hx, ← e2, h.1]⟩
    · rw [List.filter_cons_of_neg hx] at h
      obtain ⟨a, b, e1, e2⟩ := filter_before h
      exact ⟨x :: a, b, by rw [e1]; rfl, by rw [List.filter_cons_of_neg hx, ← e2]⟩
theorem csB_nodup {ops : Array Oper} {cal : Nat → Bool} : ∀ (cs ab : List Nat), csB ops cal ab cs = true → ab.Nodup → (ab ++ cs).Nodup
  | [], ab, _, h => by simpa using h
  | c :: cs, ab, h, hn => by
    simp only [csB, Bool.and_eq_true, decide_eq_true_eq, Bool.not_eq_true'] at h
    obtain ⟨⟨⟨⟨h0, h1⟩, h2⟩, h3⟩, h4⟩ := h
    have : (ab ++ [c]).Nodup := by
      rw [List.nodup_append]
      refine ⟨hn, by simp, fun x hx y hy => ?_⟩
      obtain rfl := List.mem_singleton.1 hy
      rintro rfl
      simp only [List.contains_eq_mem, decide_eq_false_iff_not] at h2
      exact h2 hx
    have := csB_nodup cs (ab ++ [c]) h4 this
    rwa [List.append_assoc] at this
/-- The orders of the tree are all orders. -/
theorem tree_stage {Γ : Ctr} (hΓ : ∀ f C, Γ f = some C → ACok P f C) (hG : ∀ f R, G f = some R → PureOk P f R) {c0 : Cx} {mem0 : Mem} {n0 N : Nat} {ops : Array Oper} {cal : Nat → Bool} (hN : ∀ (i : Nat) (o : Oper), ops[i]? = some o → ∀ d, o.dst = some d → d < N)
    {Q : Exit → Act → World → Prop} {K : AS → Prop} (hK : ∀ σ a w, K σ → Inv c0 mem0 n0 N σ a w → Q .normal a w) {mc : Mem} :
    ∀ (fuel : Nat) (listed : Array Bool) (ab cs : List Nat) (ch : MC) (σ : AS) (a : Act) (w : World), fuel = (Un ops listed).length → listed.size = ops.size → Closed ops listed → SubM mc σ.mem →
      treeB ops cal ab (.mk cs ch) = true → (ab ++ cs).Nodup → (∀ x ∈ ab, x < ops.size) → (∀ x, Lst listed x → x ∈ ab ++ cs) → (∀ x ∈ ab, cal x = false → Lst listed x) →
      (∀ pre j post, ab = pre ++ j :: post → (∀ i, Edge_ ops i j → i ∈ pre) ∧ ∀ i ∈ pre, cal i = true → Bef ops i j ∨ ∀ x y, ops[i]? = some x → ops[j]? = some y → x.apart ops y = true) →
      amix P G Γ ops.toList mc (((ab ++ cs).filter fun i => !listed.getD i false).map fun i => (true, ops.getD i default)) σ (fun σ' => amixC P G Γ ops mc ch σ' K) → Inv c0 mem0 n0 N σ a w →
      wpAny P .any ops Q fuel listed a w := by
  intro fuel
  induction fuel with
  | zero =>
    intro listed ab cs ch σ a w hf hs hc hsub hT hnd hlt hL hE hB h hI
    have hU : Un ops listed = [] := List.eq_nil_of_length_eq_zero hf.symm
    have hall : ∀ i, i < ops.size → Lst listed i := fun i hi => Classical.byContradiction fun hn => by
      have := mem_Un.2 ⟨hi, hn⟩
      rw [hU] at this; simp at this
    simp only [treeB, Bool.and_eq_true] at hT
    obtain ⟨⟨⟨hT1, hT2⟩, hT4⟩, hT3⟩ := hT
    have hpend : ((ab ++ cs).filter fun i => !listed.getD i false) = [] := by
      apply List.filter_eq_nil_iff.2
      intro x hx
      have hxs : x < ops.size := by
        rcases List.mem_append.1 hx with h | h
        · exact hlt x h
        · obtain ⟨p, q, e⟩ := List.append_of_mem h
          exact (cs_all cs ab hT1 p x q e).2.1
      have := hall x hxs
      unfold Lst at this
      simp [this]
    rw [hpend] at h
    have hch : ch = .nil := by
      cases ch with
      | nil => rfl
      | cons i t r =>
        exfalso
        simp only [chB, Bool.and_eq_true] at hT3
        have := eff_one hT3.1.1
        exact this.2.2.1 (hL i (hall i this.2.1))
    subst hch
    refine ⟨?_, hK σ a w (by simpa [amix, amixC] using h) hI⟩
    apply List.eq_nil_iff_forall_not_mem.2
    intro i hi
    rw [mem_ready hs] at hi
    exact hi.2.1 (hall i hi.1)
  | succ fuel ih =>
    intro listed ab cs ch σ a w hf hs hc hsub hT hnd hlt hL hE hB h hI
    have hT0 := hT
    simp only [treeB, Bool.and_eq_true] at hT
    obtain ⟨⟨⟨hT1, hT2⟩, hT4⟩, hT3⟩ := hT
    have hcs := cs_all cs ab hT1
    have hin : ∀ x ∈ ab ++ cs, x < ops.size := by
      intro x hx
      rcases List.mem_append.1 hx with h | h
      · exact hlt x h
      · obtain ⟨p, q, e⟩ := List.append_of_mem h
        exact (hcs p x q e).2.1
    have hB2 : ∀ pre j post, ab ++ cs = pre ++ j :: post → (∀ i, Edge_ ops i j → i ∈ pre) ∧ ∀ i ∈ pre, cal i = true → Bef ops i j ∨ ∀ x y, ops[i]? = some x → ops[j]? = some y → x.apart ops y = true := by
      intro pre j post e
      rcases List.append_eq_append_iff.1 e with ⟨z, e1, e2⟩ | ⟨z, e1, e2⟩
      · have := (hcs z j post e2).2
        rw [← e1] at this
        exact ⟨this.2.2.1, this.2.2.2⟩
      · cases z with
        | nil =>
          simp only [List.append_nil, List.nil_append] at e1 e2
          have := (hcs [] j post (by simpa using e2.symm)).2
          simp only [List.append_nil] at this
          rw [e1] at this
          exact ⟨this.2.2.1, this.2.2.2⟩
        | cons y z =>
          simp only [List.cons_append, List.cons.injEq] at e2
          obtain ⟨rfl, e2⟩ := e2
          exact hB pre _ z e1
    have hready : ∀ i, i ∈ Region.ready .any ops listed → i ∈ ab ++ cs ∨ ch.mem i := by
      intro i hi
      obtain ⟨his, hil, hie⟩ := (mem_ready hs).1 hi
      rw [List.all_eq_true] at hT2
      have := hT2 i (List.mem_range.2 his)
      simp only [Bool.or_eq_true, List.any_eq_true, Bool.and_eq_true, Bool.not_eq_true', List.mem_range] at this
      rcases this with (h | h) | ⟨x, hx, ⟨h1, h2⟩, h3⟩
      · exact .inl (by simpa using h)
      · exact .inr (memB_iff.1 h)
      · exfalso
        have hb := befB_sound _ h3
        have hxl : Lst listed x := by
          cases hb with
          | one he => exact hie _ he
          | step hb' he => exact hc.bef hb' (hie _ he)
        have := hL x hxl
        simp only [List.contains_eq_mem, decide_eq_false_iff_not] at h1
        exact h1 this
    have hcalm : ∀ x ∈ ab ++ cs, ¬ Lst listed x → cal x = true := by
      intro x hx hl
      rcases List.mem_append.1 hx with h | h
      · cases hcx : cal x with
        | true => rfl
        | false => exact absurd (hE x h hcx) hl
      · obtain ⟨p, q, e⟩ := List.append_of_mem h
        exact (hcs p x q e).1
    have hget : ∀ x, x < ops.size → ops[x]? = some (ops.getD x default) := fun x hx => by
      rw [Array.getD_eq_getD_getElem?, Array.getElem?_eq_getElem hx]; rfl
    refine ⟨fun hr => ?_, fun i hi => ?_⟩
    · exfalso
      cases hp : ((ab ++ cs).filter fun i => !listed.getD i false) with
      | cons m rest =>
        have hm : m ∈ ab ++ cs ∧ ¬ Lst listed m := by
          have : m ∈ ((ab ++ cs).filter fun i => !listed.getD i false) := by rw [hp]; simp
          rw [List.mem_filter] at this
          refine ⟨this.1, ?_⟩
          unfold Lst; simpa using this.2
        obtain ⟨p, q, e, e'⟩ := filter_before (pre := []) (i := m) (post := rest) hp
        have : m ∈ Region.ready .any ops listed := by
          rw [mem_ready hs]
          refine ⟨hin m hm.1, hm.2, fun j he => ?_⟩
          have hjp := (hB2 p m q e).1 j he
          refine Classical.byContradiction fun hn => ?_
          have hjf : j ∈ p.filter (fun i => !listed.getD i false) := List.mem_filter.2 ⟨hjp, by unfold Lst at hn; simpa using hn⟩
          rw [← e'] at hjf
          simp at hjf
        rw [hr] at this
        simp at this
      | nil =>
        have hallL : ∀ x ∈ ab ++ cs, Lst listed x := by
          intro x hx
          refine Classical.byContradiction fun hn => ?_
          have : x ∈ ((ab ++ cs).filter fun i => !listed.getD i false) := List.mem_filter.2 ⟨hx, by unfold Lst at hn; simpa using hn⟩
          rw [hp] at this; simp at this
        cases ch with
        | cons j t r =>
          simp only [chB, Bool.and_eq_true] at hT3
          have hj := eff_one hT3.1.1
          have : j ∈ Region.ready .any ops listed := by
            rw [mem_ready hs]
            exact ⟨hj.2.1, fun hl => hj.2.2.1 (hL j hl), fun i he => hallL i (hj.2.2.2.1 i he)⟩
          rw [hr] at this
          simp at this
        | nil =>
          have : Un ops listed = [] := by
            apply List.eq_nil_iff_forall_not_mem.2
            intro x hx
            obtain ⟨hxs, hxl⟩ := mem_Un.1 hx
            simp only [MC.isNil, Bool.not_true, Bool.false_or, List.all_eq_true, List.mem_range] at hT4
            exact hxl (hallL x (by simpa using hT4 x hxs))
          rw [this] at hf
          simp at hf
    · obtain ⟨his, hil, hie⟩ := (mem_ready hs).1 hi
      have hio : ops[i]? = some ops[i] := Array.getElem?_eq_getElem his
      have hgd : ops.getD i default = ops[i] := by simp [Array.getD_eq_getD_getElem?, hio]
      have hnbef : ∀ j, ¬ Lst listed j → ¬ Bef ops j i := by
        intro j hjl hb
        apply hjl
        cases hb with
        | one he => exact hie _ he
        | step hb' he => exact hc.bef hb' (hie _ he)
      have hlen : fuel = (Un ops (listed.setIfInBounds i true)).length := by
        obtain ⟨p, q, e1, e2, _⟩ := filter_split (p := fun j => !listed.getD j false) (l := List.range ops.size) (i := i) List.nodup_range (List.mem_range.2 his) (by unfold Lst at hil; simpa using hil)
        have g1 : fuel + 1 = (p ++ i :: q).length := by rw [hf, ← e1]; rfl
        rw [Un_set (by omega), e2]
        rw [List.length_append, List.length_cons] at g1
        rw [List.length_append]
        omega
      have hcl : Closed ops (listed.setIfInBounds i true) := by
        intro x y he hy
        rw [lst_set (by omega)] at hy ⊢
        rcases hy with rfl | hy
        · exact .inr (hie x he)
        · exact .inr (hc x y he hy)
      have hsz' : (listed.setIfInBounds i true).size = ops.size := by simpa using hs
      have hset : ∀ j, (listed.setIfInBounds i true).getD j false = (decide (j = i) || listed.getD j false) := by
        intro j
        simp only [Array.getD_eq_getD_getElem?, Array.getElem?_setIfInBounds]
        by_cases e : i = j
        · subst e
          have : i < listed.size := by omega
          simp [this]
        · rw [if_neg e]
          have : ¬ j = i := fun h => e h.symm
          simp [this]
      obtain ⟨c, rfl, hst, hrep, hsz, hdf⟩ := hI
      unfold wpOp
      simp only [hio]
      -- what its test says
      have test : ∀ (A : Prop) (B : Prop), aG ops.toList σ.tmp ops[i].guard A B → (A → ops[i].wp P a c.w (wpAny P .any ops Q fuel (listed.setIfInBounds i true)) Q) → (B → wpAny P .any ops Q fuel (listed.setIfInBounds i true) (a.put ops[i].dst undef) c.w) →
          (if Region.wanted ops[i] (yielded ops a.tmps) = true then ops[i].wp P a c.w (wpAny P .any ops Q fuel (listed.setIfInBounds i true)) Q ∨ (ops[i].asks P a c.w ∧ LetsOut Q) else wpAny P .any ops Q fuel (listed.setIfInBounds i true) (a.put ops[i].dst undef) c.w) := by
        intro A B hq hA hB
        unfold aG at hq
        cases hg : ops[i].guard with
        | none =>
          rw [hg] at hq
          have hw : Region.wanted ops[i] (yielded ops a.tmps) = true := by simp [Region.wanted, hg]
          rw [if_pos hw]
          exact .inl (hA hq)
        | some q =>
          obtain ⟨j, want⟩ := q
          rw [hg] at hq
          simp only at hq
          cases hgd : gdst ops.toList j with
          | none => rw [hgd] at hq; exact hq.elim
          | some d =>
            rw [hgd] at hq
            simp only at hq
            cases htd : σ.tmp d with
            | bool b =>
              rw [htd] at hq
              simp only at hq
              have hy := yielded_of hgd hrep htd
              by_cases hb : b = want
              · have hw : Region.wanted ops[i] (yielded ops a.tmps) = true := by simp [Region.wanted, hg, hy, hb]
                rw [if_pos hw]
                exact .inl (hA (hq.1 hb))
              · have hw : Region.wanted ops[i] (yielded ops a.tmps) = false := by simp [Region.wanted, hg, hy, hb]
                rw [hw]
                exact hB (hq.2 hb)
            | tup xs =>
              rw [htd] at hq
              cases xs with
              | nil =>
                have hy := yielded_none hgd hrep htd
                have hw : Region.wanted ops[i] (yielded ops a.tmps) = false := by simp [Region.wanted, hg, hy]
                rw [hw]
                exact hB hq
              | cons _ _ => exact hq.elim
            | _ => rw [htd] at hq; exact hq.elim
      obtain ⟨s1, s2⟩ := rep_put (r := .tup []) (v := undef) hrep (.refl c) hsz (hN i _ hio) (rep_skip c)
      have hskI : Inv c0 mem0 n0 N ⟨putT σ.tmp ops[i].dst (.tup []), σ.mem, σ.nx⟩ (a.put ops[i].dst undef) c.w := ⟨c, rfl, hst, s1, s2, by cases ops[i].dst <;> exact hdf⟩
      rcases hready i hi with hmem | hmem
      · -- a calm one
        have hci := hcalm i hmem hil
        obtain ⟨pre, post, e1, e2, _⟩ := filter_split (p := fun j => !listed.getD j false) hnd hmem (by unfold Lst at hil; simpa using hil)
        obtain ⟨p, q, ep, epre⟩ := filter_before e1
        have hpre : ∀ j ∈ pre.map (fun i => (true, ops.getD i default)), j.1 = true ∧ j.2.apart ops ops[i] = true := by
          intro x hx
          obtain ⟨j, hj, rfl⟩ := List.mem_map.1 hx
          rw [epre, List.mem_filter] at hj
          obtain ⟨hjp, hjl⟩ := hj
          have hjl' : ¬ Lst listed j := by unfold Lst; simpa using hjl
          have hjin : j ∈ ab ++ cs := by rw [ep]; simp [hjp]
          have hjs := hin j hjin
          refine ⟨rfl, ?_⟩
          rcases (hB2 p i q ep).2 j hjp (hcalm j hjin hjl') with hb | hb
          · exact absurd hb (hnbef j hjl')
          · exact hb _ _ (hget j hjs) hio
        have hset2 : ((ab ++ cs).filter fun j => !(listed.setIfInBounds i true).getD j false) = pre ++ post := by
          rw [← e2]
          apply List.filter_congr
          intro j _
          rw [hset j]
          by_cases e : j = i <;> simp [e]
        have next : ∀ (σ' : AS) (w' : World) v, SubM mc σ'.mem → amix P G Γ ops.toList mc ((pre ++ post).map fun i => (true, ops.getD i default)) σ' (fun σ' => amixC P G Γ ops mc ch σ' K) →
            Inv c0 mem0 n0 N σ' (a.put ops[i].dst v) w' → wpAny P .any ops Q fuel (listed.setIfInBounds i true) (a.put ops[i].dst v) w' := by
          intro σ' w' v hsub' hh hI'
          refine ih _ ab cs ch _ _ _ hlen hsz' hcl hsub' hT0 hnd hlt (fun x hx => ?_) (fun x hx hcx => ?_) hB (by rw [hset2]; exact hh) hI'
          · rw [lst_set (by omega)] at hx
            rcases hx with rfl | hx
            · exact hmem
            · exact hL x hx
          · rw [lst_set (by omega)]
            exact .inr (hE x hx hcx)
        rw [e1, List.map_append, List.map_cons, hgd] at h
        have hfront := amix_frontC hG (i := ops[i]) (pre.map fun i => (true, ops.getD i default)) σ hpre h
        rw [← List.map_append] at hfront
        refine test _ _ hfront (fun hh => ?_) (fun hh => next ⟨putT σ.tmp ops[i].dst (.tup []), σ.mem, σ.nx⟩ c.w undef hsub hh hskI)
        refine opd_sound hG (mem := mc) (n := σ.nx) hh (rep_evT hrep) (hsub.inv hst.inv) hst.free (fun r c' v q1 q2 q3 => ?_)
        have st := Step.more hst.inv hsub q2
        obtain ⟨g1, g2⟩ := rep_put hrep st.le hsz (hN i _ hio) q3
        exact next ⟨putT σ.tmp ops[i].dst r, σ.mem, σ.nx⟩ c'.w v hsub q1 ⟨c', rfl, hst.trans st, g1, g2, by cases ops[i].dst <;> exact hdf⟩
      · -- one that changes memory
        obtain ⟨⟨cs', ch'⟩, hchild⟩ := MC.child_of_mem hmem
        obtain ⟨hef, htr⟩ := ch_child hT3 hchild
        obtain ⟨hci, _, hnin, hedge, hap⟩ := eff_one hef
        have hpend : ∀ j ∈ ((ab ++ cs).filter fun i => !listed.getD i false).map (fun i => (true, ops.getD i default)), j.1 = true ∧ j.2.apart ops ops[i] = true := by
          intro x hx
          obtain ⟨j, hj, rfl⟩ := List.mem_map.1 hx
          rw [List.mem_filter] at hj
          obtain ⟨hjin, hjl⟩ := hj
          have hjl' : ¬ Lst listed j := by unfold Lst; simpa using hjl
          refine ⟨rfl, ?_⟩
          rcases hap j hjin (hcalm j hjin hjl') with hb | hb
          · exact absurd hb (hnbef j hjl')
          · exact hb _ _ (hget j (hin j hjin)) hio
        have h1 := amix_mono hG (fun σ' hh => amixC_child hh hchild) _ σ (fun x hx => (hpend x hx).1) h
        rw [hgd] at h1
        have h2 : amix P G Γ ops.toList mc (((ab ++ cs).filter fun i => !listed.getD i false).map (fun i => (true, ops.getD i default)) ++ [(false, ops[i])]) σ (fun σ' => amixN P G Γ ops mc (.mk cs' ch') σ' K) := (amix_append _ _ σ).2 h1
        have hfront := amix_frontE hG (i := ops[i]) (post := []) _ σ hpend h2
        rw [List.append_nil] at hfront
        have hnd' : (ab ++ cs ++ [i] ++ cs').Nodup := by
          have htr' := htr
          simp only [treeB, Bool.and_eq_true] at htr'
          refine csB_nodup cs' _ htr'.1.1.1 ?_
          rw [List.nodup_append]
          refine ⟨hnd, by simp, fun x hx y hy => ?_⟩
          obtain rfl := List.mem_singleton.1 hy
          rintro rfl
          exact hnin hx
        have hLst' : ∀ x, Lst (listed.setIfInBounds i true) x → x ∈ ab ++ cs ++ [i] := by
          intro x hx
          rw [lst_set (by omega)] at hx
          rcases hx with rfl | hx
          · simp
          · exact List.mem_append.2 (.inl (hL x hx))
        have hset2 : ((ab ++ cs ++ [i] ++ cs').filter fun j => !(listed.setIfInBounds i true).getD j false) = ((ab ++ cs).filter fun j => !listed.getD j false) ++ cs' := by
          rw [List.filter_append, List.filter_append]
          congr 1
          · have e1 : [i].filter (fun j => !(listed.setIfInBounds i true).getD j false) = [] := by simp [hset]
            rw [e1, List.append_nil]
            apply List.filter_congr
            intro j hj
            have : ¬ j = i := by rintro rfl; exact hnin hj
            rw [hset j]; simp [this]
          · apply List.filter_eq_self.2
            intro x hx
            have hxl : ¬ Lst (listed.setIfInBounds i true) x := fun hl => by
              rw [List.nodup_append] at hnd'
              exact hnd'.2.2 x (hLst' x hl) x hx rfl
            unfold Lst at hxl
            simpa using hxl
        have next : ∀ (σ' : AS) (w' : World) v, SubM mc σ'.mem → amix P G Γ ops.toList mc (((ab ++ cs).filter fun i => !listed.getD i false).map (fun i => (true, ops.getD i default))) σ' (fun σ' => amixN P G Γ ops mc (.mk cs' ch') σ' K) →
            Inv c0 mem0 n0 N σ' (a.put ops[i].dst v) w' → wpAny P .any ops Q fuel (listed.setIfInBounds i true) (a.put ops[i].dst v) w' := by
          intro σ' w' v hsub' hh hI'
          refine ih _ (ab ++ cs ++ [i]) cs' ch' _ _ _ hlen hsz' hcl hsub' htr hnd' (fun x hx => ?_) (fun x hx => List.mem_append.2 (.inl (hLst' x hx))) (fun x hx hcx => ?_) (fun pre j post e => ?_) ?_ hI'
          · rcases List.mem_append.1 hx with hx | hx
            · exact hin x hx
            · obtain rfl := List.mem_singleton.1 hx; exact his
          · rw [lst_set (by omega)]
            rcases List.mem_append.1 hx with hx | hx
            · right
              refine Classical.byContradiction fun hn => ?_
              have := hcalm x hx hn
              rw [hcx] at this; cases this
            · exact .inl (List.mem_singleton.1 hx)
          · rcases List.append_eq_append_iff.1 e with ⟨z, e1, e2⟩ | ⟨z, e1, e2⟩
            · have hz : z = [] ∧ j = i := by
                cases z with
                | nil => simp only [List.nil_append, List.cons.injEq] at e2; exact ⟨rfl, e2.1.symm⟩
                | cons y z => simp at e2
              obtain ⟨rfl, rfl⟩ := hz
              rw [List.append_nil] at e1
              subst e1
              exact ⟨hedge, hap⟩
            · cases z with
              | nil =>
                simp only [List.nil_append, List.cons.injEq] at e2
                obtain ⟨rfl, _⟩ := e2
                rw [List.append_nil] at e1
                rw [← e1]
                exact ⟨hedge, hap⟩
              | cons y z =>
                simp only [List.cons_append, List.cons.injEq] at e2
                obtain ⟨rfl, e2⟩ := e2
                exact hB2 pre _ z e1
          · rw [hset2, List.map_append]
            refine (amix_append _ _ σ').2 ?_
            have e : (fun σ' => amixN P G Γ ops mc (.mk cs' ch') σ' K) = fun σ' => amix P G Γ ops.toList mc (cs'.map fun i => (true, ops.getD i default)) σ' fun σ' => amixC P G Γ ops mc ch' σ' K := by
              funext s; rw [amixN]
            rw [e] at hh
            exact hh
        refine test _ _ hfront (fun ⟨K0, hh, hK0⟩ => ?_) (fun hh => next ⟨putT σ.tmp ops[i].dst (.tup []), σ.mem, σ.nx⟩ c.w undef hsub hh.2 hskI)
        refine op_sound hΓ hh (rep_evT hrep) hst.inv hst.free (fun r c' m k v q1 q2 q3 => ?_)
        obtain ⟨g1, g2⟩ := rep_put hrep q2.le hsz (hN i _ hio) q3
        obtain ⟨hs', hn'⟩ := hK0 r m k q1
        exact next ⟨putT σ.tmp ops[i].dst r, m, k⟩ c'.w v hs' hn' ⟨c', rfl, hst.trans q2, g1, g2, by cases ops[i].dst <;> exact hdf⟩
/-- A region whose order is drawn, as it is read along a tree of orders. -/
def amixt (P : Program) (G : PCtr) (Γ : Ctr) (ops : Array Oper) (mc : Mem) (cal : Nat → Bool) (T : MN) (σ : AS) (K : AS → Prop) : Prop :=
  treeB ops cal [] T = true ∧ SubM mc σ.mem ∧ amixN P G Γ ops mc T σ K
theorem amixt_sound {Γ : Ctr} (hΓ : ∀ f C, Γ f = some C → ACok P f C) (hG : ∀ f R, G f = some R → PureOk P f R) {c0 : Cx} {mem0 : Mem} {n0 N : Nat} {ops : Array Oper} {id : Nat} {mc : Mem} {cal : Nat → Bool} {T : MN} (hN : ∀ (i : Nat) (o : Oper), ops[i]? = some o → ∀ d, o.dst = some d → d < N)
    {Q : Exit → Act → World → Prop} {K : AS → Prop} (hK : ∀ σ a w, K σ → Inv c0 mem0 n0 N σ a w → Q .normal a w) (hm : P.follows .mixedOrders = true) {σ : AS} {a : Act} {w : World} (h : amixt P G Γ ops mc cal T σ K) (hI : Inv c0 mem0 n0 N σ a w) :
    (Code.region id ops true).wp P Q a w := by
  obtain ⟨hB, hs, h⟩ := h
  obtain ⟨cs, ch⟩ := T
  refine wp_region_any hm ?_
  have hL : ∀ i, (Array.replicate ops.size false).getD i false = false := by
    intro i
    rw [Array.getD_eq_getD_getElem?, Array.getElem?_replicate]
    split <;> rfl
  have hnl : ∀ i, ¬ Lst (Array.replicate ops.size false) i := fun i => by unfold Lst; rw [hL]; decide
  have hlen : ops.size = (Un ops (Array.replicate ops.size false)).length := by
    unfold Un
    rw [List.filter_eq_self.2 (fun x _ => by rw [hL]; rfl)]
    simp
  obtain ⟨c, rfl, hst, hrep, hsz, hdf⟩ := hI
  have hdrew : Inv c0 mem0 n0 N σ a c.w.drew := by
    let c' : Cx := ⟨c.w.drew, c.fz, c.ρ⟩
    have st : Step c σ.mem σ.nx c' σ.mem σ.nx := Step.later hst.inv hst.free rfl (fun _ h => h) (Below.refl _ _).drew (fun b hb => .inl hb)
    exact ⟨c', rfl, hst.trans st, fun j => Rep.mono _ st.le (hrep j), hsz, hdf⟩
  have hB1 := hB
  simp only [treeB, Bool.and_eq_true] at hB1
  refine tree_stage hΓ hG hN hK (mc := mc) ops.size _ [] cs ch σ a c.w.drew hlen (by simp) (fun i j _ hj => absurd hj (hnl j)) hs hB (csB_nodup cs [] hB1.1.1.1 (by simp)) (by simp) (fun x hx => absurd hx (hnl x)) (by simp) (fun pre j post e => by simp at e) ?_ hdrew
  rw [List.nil_append, List.filter_eq_self.2 (fun x _ => by rw [hL]; rfl)]
  rw [amixN] at h
  exact h
end
end Go.Proofs.Ytnbjogilidfkdaa
