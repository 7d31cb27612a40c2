/- More on trees of rows: rows are forgotten, written over in place; results that may be nil, or fail. No program. -/
import Derived.Test.YtdedddmnacomfaaWFL

namespace Go.Proofs.Ytdedddmnacomfaa
set_option maxRecDepth 100000
set_option linter.unusedVariables false
set_option linter.unusedSimpArgs false
open Go.RowKit
/-- Rows of name 0 are forgotten. -/
theorem Step.dropH {c : Cx} {mem : Mem} {n : Nat} {N N' M : List Node} (hI : InvM c mem) (hn : Names c n) (h0 : mem 0 = some (.gen heapP [encL N])) (hp : (N' ++ M).Perm N) :
    Step c mem n ⟨c.w, c.fz, c.ρ⟩ (upd mem 0 (some (.gen heapP [encL N']))) n := by
  obtain ⟨hf, S, h1, h2, h3⟩ := id hI
  have hm0 : mem 0 ≠ none := by simp [h0]
  obtain ⟨v0, a1, N0, a2, a3⟩ := h1 0 _ h0
  rw [List.cons.injEq, encL_iff] at a2
  obtain ⟨rfl, _⟩ := a2
  let S0 : Nat → Prop := fun k => ∃ nd ∈ N', nd.v.ownBlock = some k
  have hsub : ∀ nd, nd ∈ N' → nd ∈ N := fun nd h => hp.mem_iff.1 (List.mem_append_left _ h)
  have hS0 : ∀ k, S0 k → S 0 k := by
    rintro k ⟨nd, h, h'⟩
    rw [a3.2.2]; exact ⟨nd, hsub nd h, h'⟩
  have hheap : HeapR N' c.w S0 := ⟨fun nd h => a3.1 nd (hsub nd h), (List.pairwise_append.1 ((List.Perm.pairwise_iff (fun h => apart_symm h) hp).2 a3.2.1)).1, rfl⟩
  let S' : Nat → Nat → Prop := fun l => if l = 0 then S0 else S l
  have hle' : ∀ l k, S' l k → S l k := by
    intro l k h
    simp only [S'] at h
    split at h
    · rename_i e; rw [e]; exact hS0 k h
    · exact h
  have hrep : ∀ l mb, upd mem 0 (some (.gen heapP [encL N'])) l = some mb → MRep ⟨c.w, c.fz, c.ρ⟩ l (S' l) mb := by
    intro l mb hl
    simp only [upd] at hl
    by_cases e1 : l = 0
    · rw [if_pos e1] at hl; cases hl
      simp only [S', if_pos e1]
      exact ⟨v0, by show c.ρ l = _; rw [e1]; exact a1, N', rfl, hheap⟩
    · rw [if_neg e1] at hl
      simp only [S', if_neg e1]
      exact h1 l mb hl
  have hkeep : ∀ l, upd mem 0 (some (.gen heapP [encL N'])) l ≠ none → mem l ≠ none := by
    intro l hl
    by_cases e1 : l = 0
    · rw [e1]; exact hm0
    · rwa [upd_other _ _ e1] at hl
  refine Step.re hn ⟨⟨hf.lt, hf.glob⟩, S', hrep, ?_, ?_⟩ (fun _ _ => rfl) hn (Nat.le_refl _) ?_
  · intro l l' k hl hl' hne hk hk'
    exact h2 l l' k (hkeep l hl) (hkeep l' hl') hne (hle' l k hk) (hle' l' k hk')
  · intro l k hl hk hb
    exact h3 l k (hkeep l hl) (hle' l k hk) hb
  · rintro k ⟨l, U, mb, hl, hR, hU⟩
    have := MRep.det hR (hrep l mb hl)
    subst this
    have hml := hkeep l (by simp [hl])
    obtain ⟨mb', hmb'⟩ := Option.ne_none_iff_exists'.1 hml
    exact ⟨l, S l, mb', hmb', h1 l mb' hmb', hle' l k hU⟩
/-- Memory seen in another way. -/
theorem Step.asG {c : Cx} {mem : Mem} {n i : Nat} {p q : OwnP} {d d' : List PV} (hI : InvM c mem) (hn : Names c n) (hi : mem i = some (.gen p d)) (h : ∀ v S, c.ρ i = some v → p.R d c.w v S → q.R d' c.w v S) :
    Step c mem n ⟨c.w, c.fz, c.ρ⟩ (upd mem i (some (.gen q d'))) n := by
  obtain ⟨hf, S, h1, h2, h3⟩ := id hI
  have hmi : mem i ≠ none := by simp [hi]
  have hrep : ∀ l mb, upd mem i (some (.gen q d')) l = some mb → MRep ⟨c.w, c.fz, c.ρ⟩ l (S l) mb := by
    intro l mb hl
    by_cases e1 : l = i
    · subst e1
      rw [upd_same] at hl; cases hl
      obtain ⟨v, hv, hR⟩ := h1 l _ hi
      exact ⟨v, hv, h v _ hv hR⟩
    · rw [upd_other _ _ e1] at hl
      exact h1 l mb hl
  have hkeep : ∀ l, upd mem i (some (.gen q d')) l ≠ none → mem l ≠ none := by
    intro l hl
    by_cases e1 : l = i
    · rw [e1]; exact hmi
    · rwa [upd_other _ _ e1] at hl
  refine Step.re hn ⟨⟨hf.lt, hf.glob⟩, S, hrep, ?_, ?_⟩ (fun _ _ => rfl) hn (Nat.le_refl _) ?_
  · intro l l' k hl hl' hne hk hk'
    exact h2 l l' k (hkeep l hl) (hkeep l' hl') hne hk hk'
  · intro l k hl hk hb
    exact h3 l k (hkeep l hl) hk hb
  · rintro k ⟨l, U, mb, hl, hR, hU⟩
    have := MRep.det hR (hrep l mb hl)
    subst this
    obtain ⟨mb', hmb'⟩ := Option.ne_none_iff_exists'.1 (hkeep l (by simp [hl]))
    exact ⟨l, S l, mb', hmb', h1 l mb' hmb', hU⟩
/-- One of the rows gets a name, wherever it stands. -/
theorem Step.splitP {c : Cx} {mem : Mem} {n : Nat} {nd : Node} {N N1 : List Node} (hI : InvM c mem) (hn : Names c n) (h0 : mem 0 = some (.gen heapP [encL N])) (hp : (nd :: N1).Perm N) :
    Step c mem n ⟨c.w, c.fz, upd c.ρ n (some nd.v)⟩ (upd (upd mem 0 (some (.gen heapP [encL N1]))) n (some (.row nd.e nd.s nd.es))) (n + 1) := by
  have st := Step.dropH (N' := nd :: N1) (M := []) hI hn h0 (by rw [List.append_nil]; exact hp)
  have st2 := Step.splitH st.inv st.free (upd_same _ _ _)
  have em : upd (upd (upd mem 0 (some (MB.gen heapP [encL (nd :: N1)]))) 0 (some (.gen heapP [encL N1]))) n (some (.row nd.e nd.s nd.es)) = upd (upd mem 0 (some (.gen heapP [encL N1]))) n (some (.row nd.e nd.s nd.es)) := by
    funext l
    simp only [upd]
    (repeat' split) <;> rfl
  rw [em] at st2
  exact st.trans st2
/-- A row joins those of name 0; some are forgotten. -/
theorem Step.joinD {c : Cx} {mem : Mem} {n j : Nat} {e : TypeId} {s : Nat} {es : List (List PV)} {N : List Node} (hI : InvM c mem) (hn : Names c n) (h0 : mem 0 = some (.gen heapP [encL N])) (hj : mem j = some (.row e s es)) (hp : es.all (·.all plainR) = true) :
    ∃ v, c.ρ j = some v ∧ v.oneCell' = true ∧ ∀ N' M, (N' ++ M).Perm (⟨v, e, s, es⟩ :: N) → Step c mem n ⟨c.w, c.fz, c.ρ⟩ (upd (upd mem j none) 0 (some (.gen heapP [encL N']))) n := by
  obtain ⟨v, hv, hone, hjoin⟩ := Step.joinH hI hn h0 hj hp
  refine ⟨v, hv, hone, fun N' M hp' => ?_⟩
  have st := hjoin (N' ++ M) hp'
  have st2 := Step.dropH (N' := N') (M := M) st.inv st.free (upd_same _ _ _) (List.Perm.refl _)
  have em : upd (upd (upd mem j none) 0 (some (MB.gen heapP [encL (N' ++ M)]))) 0 (some (.gen heapP [encL N'])) = upd (upd mem j none) 0 (some (.gen heapP [encL N'])) := by
    funext l
    simp only [upd]
    (repeat' split) <;> rfl
  rw [em] at st2
  exact st.trans st2
theorem rep_fail {c c' : Cx} {v : Value} (h : Rep (.tup [.nil, .bool false]) c v) : Rep (.tup [.nil, .bool false]) c' v := by
  unfold Rep at *
  obtain ⟨ws, e, h⟩ := h
  refine ⟨ws, e, ?_⟩
  rw [RepL.cons_iff] at h ⊢
  obtain ⟨x, xs, e2, h1, h2⟩ := h
  refine ⟨x, xs, e2, ?_, repL_plain rfl h2⟩
  unfold Rep at *
  exact h1
section
variable {P : Program} {Γ : Ctr} {G : PCtr} {α : Type} {args : α → List PV} {pre : α → Prop}
/-- A function that only computes, all that is one's own given up. -/
def pureT (R : PC) : AC := fun args mem n K => nmbL 0 (args.map (resT mem)) = true ∧ R (args.map (resT mem)) fun r => K r (fun _ => none) n
theorem pureT_ok {f : FuncId} {R : PC} (h : PureOk P f R) : ACok P f (pureT R) := by
  refine ⟨h.fn, fun c mem n args vs K hI hn hr hC => ?_⟩
  obtain ⟨hsc, hR⟩ := hC
  have hr1 : RepL (args.map (resT mem)) (c.lent mem) vs := repL_mapC _ (fun u hu v hv => rep_lent hI hv) hr
  have hfz := lent_fz hI
  refine (h.run (c.lent mem) _ vs _ hfz (hr1.to_data hsc) hR).mono ?_
  rintro e w' ⟨v, r, rfl, hK, hb, hrep⟩
  have hb1 : Below c.w.heap.size c.w w' := hb
  let c2 : Cx := ⟨w', fun b => (c.lent mem).fz b ∨ c.w.heap.size ≤ b ∧ b < w'.heap.size, c.ρ⟩
  have hle : c.Le c2 := ⟨fun _ h => .inl (.inl h), fun b hb' o => cell_of_block (hb1.block b (hI.1.lt b hb')) o, fun i v hi => hi⟩
  have hlt : ∀ b, c2.fz b → b < w'.heap.size := by
    rintro b (hb' | hb')
    · exact Nat.lt_of_lt_of_le (hfz.lt b hb') hb1.size
    · exact hb'.2
  have st : Step c mem n c2 (fun _ => none) n := by
    refine ⟨InvM.none_ (hI.1.mono hle hlt), hle, hb1.os, hb1.tape, hb1.output, hb1.size, fun b hb' _ => hb1.block b hb', ?_, ?_, Nat.le_refl _, fun _ _ => rfl, ⟨fun i hi => hn.1 i hi, fun i v hi => hn.2 i v hi⟩⟩
    · rintro b ⟨i, S, mb, h, _⟩; cases h
    · rintro b ((h | h) | h)
      · exact .inl h
      · exact .inr (.inl h)
      · exact .inr (.inr h.1)
  refine ⟨v, r, c2, _, n, rfl, rfl, hK, st, Rep.mono _ ?_ hrep⟩
  exact ⟨fun _ h => h, fun _ _ _ => rfl, fun _ _ h => by cases h⟩
/-- A function that makes rows and hands back one, or fails. -/
def jinB (e : TypeId) (s : Nat) (args : α → List PV) (pre : α → Prop) (post : α → List (List PV) → List Node → Prop) (fail : α → Prop) : AC := fun as mem n K =>
  ∃ x A, as = args x ∧ mem 0 = some (.gen heapP [encL A]) ∧ pre x ∧ (∀ v es N, v.oneCell' = true → (∃ a c, v = .slice a es.length c) → post x es N → K (.tup [.raw v, .bool true]) (upd mem 0 (some (.gen heapP [encL (A ++ ⟨v, e, s, es⟩ :: N)]))) n) ∧ (fail x → K (.tup [.nil, .bool false]) (upd mem 0 (some (.gen heapP [encL A]))) n)
def FinY (P : Program) (rs : List ResultVar) (A : List Node) (K : List (List PV) → List Node → Prop) (F : Prop) (e : TypeId) (s : Nat) : AX → AS → Prop := Fin P rs fun r mem _ =>
  (∃ j es N M N0, r = .tup [.own j, .bool true] ∧ mem j = some (.row e s es) ∧ mem 0 = some (.gen heapP [encL N0]) ∧ (A ++ N ++ M).Perm N0 ∧ es.all (·.all plainR) = true ∧ K es N) ∨ (∃ M N0, r = .tup [.nil, .bool false] ∧ mem 0 = some (.gen heapP [encL N0]) ∧ (A ++ M).Perm N0 ∧ F)
theorem fin_Y {rs : List ResultVar} {σ : AS} {A : List Node} {K : List (List PV) → List Node → Prop} {F : Prop} {e : TypeId} {s : Nat} (h : aRes P σ rs fun us => (∃ j es N M N0, packR us = .tup [.own j, .bool true] ∧ σ.mem j = some (.row e s es) ∧ σ.mem 0 = some (.gen heapP [encL N0]) ∧ (A ++ N ++ M).Perm N0 ∧ es.all (·.all plainR) = true ∧ K es N) ∨ (∃ M N0, packR us = .tup [.nil, .bool false] ∧ σ.mem 0 = some (.gen heapP [encL N0]) ∧ (A ++ M).Perm N0 ∧ F)) : FinY P rs A K F e s .ret σ := h
theorem jinB_ok {e : TypeId} {s : Nat} {post : α → List (List PV) → List Node → Prop} {fail : α → Prop} (m : Nat) (hΓ : ∀ f C, Γ f = some C → ACok P f C) (hG : ∀ f R, G f = some R → PureOk P f R) (hm : P.follows .mixedOrders = true) {f : FuncId} {fn : Func} {code : Code} (rs : List ResultVar) (hf : P.funcs[f]? = some fn) (hb : fn.body = some code) (hrs : fn.results.toList = rs) (hN : codeN fn.ntmps code = true)
    (hname : (fn.name == "runtime.NumGoroutine") = false) (hl : ∀ x, (args x).length = m) (hle : Nat.ble m fn.ntmps = true) (hca : ∀ x, nmbL 0 (args x) = true)
    (h : ∀ x A K F, pre x → (∀ es N, post x es N → K es N) → (fail x → F) → awp P G Γ 1 code (FinY P rs A K F e s) (entry (args x) (mkM [(0, .gen heapP [encL A])]) 1)) : ACok P f (jinB e s args pre post fail) := by
  subst hrs
  refine ⟨⟨fn, hf, by rw [hb]; rfl, hname⟩, fun c mem n as vs K hI hn hr hC => ?_⟩
  obtain ⟨x, A, rfl, h0, hp, hK, hF⟩ := hC
  have hr1 : RepL (args x) (c.one 0) vs := hr.any (hca x) rfl rfl
  refine (calls_of_body hΓ hG hm hf hb hN (hI.one h0 rfl) (Names.one hn) hr1 (by rw [hl x]; exact Nat.le_of_ble_eq_true hle) (K := fun r mem _ => (∃ j es N M N0, r = .tup [.own j, .bool true] ∧ mem j = some (.row e s es) ∧ mem 0 = some (.gen heapP [encL N0]) ∧ (A ++ N ++ M).Perm N0 ∧ es.all (·.all plainR) = true ∧ post x es N) ∨ (∃ M N0, r = .tup [.nil, .bool false] ∧ mem 0 = some (.gen heapP [encL N0]) ∧ (A ++ M).Perm N0 ∧ fail x)) (h x A (fun es N => post x es N) (fail x) hp (fun _ _ h => h) (fun h => h))).mono ?_
  rintro e' w' ⟨v', r, c1, m1, k1, rfl, rfl, hpost, st, hrep⟩
  rcases hpost with ⟨j, es, N, M, N0, rfl, hj, hm0, hperm, hall, hpost⟩ | ⟨M, N0, rfl, hm0, hperm, hpost⟩
  · obtain ⟨v, hv, hone, hjoin⟩ := Step.joinD st.inv st.free hm0 hj hall
    have hsl : ∃ a c, v = .slice a es.length c := by
      obtain ⟨_, S, h1, _, _⟩ := id st.inv
      obtain ⟨u, us, e1, e2, _⟩ := h1 j _ hj
      obtain rfl : v = u := by rw [hv] at e1; exact Option.some.inj e1
      rcases e2.2 with ⟨rfl, hz⟩ | ⟨g, cap, cur, rfl, _⟩
      · exact ⟨none, 0, by rw [hz]⟩
      · exact ⟨_, _, rfl⟩
    unfold Rep at hrep
    obtain ⟨ws, rfl, hrep⟩ := hrep
    rw [RepL.cons_iff] at hrep
    obtain ⟨y, ys, e9, q1, q2⟩ := hrep
    unfold Rep at q1
    obtain rfl : v = y := by rw [hv] at q1; exact Option.some.inj q1
    have hpm : ((A ++ ⟨v, e, s, es⟩ :: N) ++ M).Perm (⟨v, e, s, es⟩ :: N0) := by
      rw [List.append_assoc, List.cons_append]
      exact List.perm_middle.trans (List.Perm.cons _ (by rw [← List.append_assoc]; exact hperm))
    have stA := st.trans (hjoin (A ++ ⟨v, e, s, es⟩ :: N) M hpm)
    obtain ⟨s1, s2⟩ := Step.liftV (r := .tup [.raw v, .bool true]) (v' := .tuple ws) hI hn h0 rfl stA (upd_same _ _ _) rfl rfl (by
      unfold Rep
      refine ⟨ws, rfl, ?_⟩
      rw [RepL.cons_iff]
      exact ⟨v, ys, e9, by unfold Rep; rfl, q2.any rfl rfl rfl⟩)
    exact ⟨_, .tup [.raw v, .bool true], ⟨c1.w, c1.fz, c.ρ⟩, _, _, rfl, rfl, hK v es N hone hsl hpost, s1, s2⟩
  · have stA := st.trans (Step.dropH (N' := A) (M := M) st.inv st.free hm0 hperm)
    obtain ⟨s1, s2⟩ := Step.liftV (r := .tup [.nil, .bool false]) (v' := v') hI hn h0 rfl stA (upd_same _ _ _) rfl rfl hrep
    exact ⟨v', _, ⟨c1.w, c1.fz, c.ρ⟩, _, _, rfl, rfl, hF hpost, s1, s2⟩
/-- A function that writes over one of them, and what hangs on it. -/
def sptK (e : TypeId) (s : Nat) (args : α → List PV) (rows : α → List (List PV)) (nod : α → List Node) (pre : α → Prop) (out : α → PV) (post : α → List (List PV) → List Node → Prop) : AC := fun as mem n K =>
  ∃ x v L R, as = .raw v :: args x ∧ mem 0 = some (.gen heapP [encL (L ++ ⟨v, e, s, rows x⟩ :: (nod x ++ R))]) ∧ pre x ∧ ∀ es N, post x es N → K (out x) (upd mem 0 (some (.gen heapP [encL (L ++ ⟨v, e, s, es⟩ :: (N ++ R))]))) n
def FinK (P : Program) (rs : List ResultVar) (L R : List Node) (K : PV → List (List PV) → List Node → Prop) (e : TypeId) (s : Nat) : AX → AS → Prop := Fin P rs fun r mem _ => r.nmb 0 = true ∧ ∃ es N, mem 1 = some (.row e s es) ∧ es.all (·.all plainR) = true ∧ mem 0 = some (.gen heapP [encL (L ++ (N ++ R))]) ∧ K r es N
theorem fin_K {rs : List ResultVar} {σ : AS} {L R : List Node} {K : PV → List (List PV) → List Node → Prop} {e : TypeId} {s : Nat} (h : aRes P σ rs fun us => (packR us).nmb 0 = true ∧ ∃ es N, σ.mem 1 = some (.row e s es) ∧ es.all (·.all plainR) = true ∧ σ.mem 0 = some (.gen heapP [encL (L ++ (N ++ R))]) ∧ K (packR us) es N) : FinK P rs L R K e s .ret σ := h
theorem sptK_ok {e : TypeId} {s : Nat} {rows : α → List (List PV)} {nod : α → List Node} {out : α → PV} {post : α → List (List PV) → List Node → Prop} (m : Nat) (hΓ : ∀ f C, Γ f = some C → ACok P f C) (hG : ∀ f R, G f = some R → PureOk P f R) (hm : P.follows .mixedOrders = true) {f : FuncId} {fn : Func} {code : Code} (rs : List ResultVar) (hf : P.funcs[f]? = some fn) (hb : fn.body = some code) (hrs : fn.results.toList = rs) (hN : codeN fn.ntmps code = true)
    (hname : (fn.name == "runtime.NumGoroutine") = false) (hl : ∀ x, (args x).length + 1 = m) (hle : Nat.ble m fn.ntmps = true) (hca : ∀ x, nmbL 0 (args x) = true)
    (h : ∀ x L R K, pre x → (∀ es N, post x es N → K (out x) es N) → awp P G Γ 2 code (FinK P rs L R K e s) (entry (.own 1 :: args x) (mkM [(1, .row e s (rows x)), (0, .gen heapP [encL (L ++ (nod x ++ R))])]) 2)) : ACok P f (sptK e s args rows nod pre out post) := by
  subst hrs
  refine ⟨⟨fn, hf, by rw [hb]; rfl, hname⟩, fun c mem n as vs K hI hn hr hC => ?_⟩
  obtain ⟨x, v, L, R, rfl, h0, hp, hK⟩ := hC
  have hI1 := hI.one h0 rfl
  have hn1 : Names (c.one 0) 1 := Names.one hn
  have st1 := Step.splitP (nd := ⟨v, e, s, rows x⟩) (N1 := L ++ (nod x ++ R)) hI1 hn1 (upd_same _ _ _) List.perm_middle.symm
  have hmem : upd (upd (mkM [(0, .gen heapP [encL (L ++ ⟨v, e, s, rows x⟩ :: (nod x ++ R))])]) 0 (some (.gen heapP [encL (L ++ (nod x ++ R))]))) 1 (some (.row e s (rows x))) = mkM [(1, .row e s (rows x)), (0, .gen heapP [encL (L ++ (nod x ++ R))])] := by
    funext j
    simp only [mkM, upd]
    by_cases e1 : j = 1
    · simp [e1]
    · by_cases e2 : j = 0 <;> simp [e1, e2]
  dsimp only at st1
  rw [hmem] at st1
  have hr1 : RepL (.own 1 :: args x) ⟨(c.one 0).w, (c.one 0).fz, upd (c.one 0).ρ 1 (some v)⟩ vs := by
    rw [RepL.cons_iff] at hr ⊢
    obtain ⟨y, ys, rfl, q1, q2⟩ := hr
    unfold Rep at q1
    subst q1
    exact ⟨_, ys, rfl, by unfold Rep; show upd (c.one 0).ρ 1 (some _) 1 = some _; exact upd_same _ _ _, q2.any (hca x) rfl rfl⟩
  refine (calls_of_body hΓ hG hm hf hb hN st1.inv st1.free hr1 (by have := hl x; rw [List.length_cons, this]; exact Nat.le_of_ble_eq_true hle) (K := fun r mem _ => r.nmb 0 = true ∧ ∃ es N, mem 1 = some (.row e s es) ∧ es.all (·.all plainR) = true ∧ mem 0 = some (.gen heapP [encL (L ++ (N ++ R))]) ∧ (r = out x ∧ post x es N)) (h x L R (fun r es N => r = out x ∧ post x es N) hp (fun _ _ h => ⟨rfl, h⟩))).mono ?_
  rintro e' w' ⟨v', r, c1, m1, k1, rfl, rfl, ⟨hr0, es, N, hj, hall, hm0, rfl, hpost⟩, st, hrep⟩
  obtain ⟨u, hu, hone, hjoin⟩ := Step.joinH st.inv st.free hm0 hj hall
  have hu1 : c1.ρ 1 = some v := by rw [st.ρ 1 (by omega)]; show upd (c.one 0).ρ 1 (some v) 1 = some v; exact upd_same _ _ _
  obtain rfl : v = u := by rw [hu1] at hu; exact Option.some.inj hu
  have stA := (st1.trans st).trans (hjoin (L ++ ⟨v, e, s, es⟩ :: (N ++ R)) List.perm_middle)
  obtain ⟨s1, s2⟩ := Step.liftV (r := out x) (v' := v') hI hn h0 rfl stA (upd_same _ _ _) rfl hr0 hrep
  exact ⟨v', _, ⟨c1.w, c1.fz, c.ρ⟩, _, _, rfl, rfl, hK es N hpost, s1, s2⟩
/-- .. seen from outside: a tree stays a tree. -/
def mrkK (Q : List (List PV) → Value → List Node → Prop) (args : α → List PV) (es : α → List (List PV)) (pre : α → Prop) (out : α → PV) (es' : α → List (List PV)) : AC := fun as mem n K =>
  ∃ x i N, as = .own i :: args x ∧ mem i = some (.gen (treeP Q) [.seq (es x), encL N]) ∧ pre x ∧ ∀ N', K (out x) (upd mem i (some (.gen (treeP Q) [.seq (es' x), encL N']))) n
theorem mrkK_ok {Q : List (List PV) → Value → List Node → Prop} {e : TypeId} {s : Nat} {β : Type} {args' : β → List PV} {rows : β → List (List PV)} {nod : β → List Node} {pre' : β → Prop} {out' : β → PV} {post : β → List (List PV) → List Node → Prop} {ess ess' : α → List (List PV)} {out : α → PV} {f : FuncId} (h : ACok P f (sptK e s args' rows nod pre' out' post)) (hca : ∀ x, nmbL 0 (args x) = true) (hco : ∀ x, (out x).nmb 0 = true)
    (hQ : ∀ x v N, pre x → Q (ess x) v N → ∃ y, N = ⟨v, e, s, rows y⟩ :: nod y ∧ args' y = args x ∧ pre' y ∧ out' y = out x ∧ ∀ es M, post y es M → Q (ess' x) v (⟨v, e, s, es⟩ :: M) ∧ ∀ w S, HeapR (⟨v, e, s, es⟩ :: M) w S → Rep (.seq (ess' x)) ⟨w, S, fun _ => none⟩ v) : ACok P f (mrkK Q args ess pre out ess') := by
  refine ⟨h.fn, fun c mem n as vs K hI hn hr hC => ?_⟩
  obtain ⟨x, i, N, rfl, hi, hp, hK⟩ := hC
  have hI1 := hI.one hi rfl
  have hn1 : Names (c.one i) 1 := Names.one hn
  obtain ⟨hf1, S, h1, h2, h3⟩ := id hI1
  obtain ⟨v, hv, es, N0, hd, hq, hone, hh, hseq⟩ := h1 0 _ (upd_same _ _ _)
  rw [List.cons.injEq, List.cons.injEq, encL_iff, PV.seq.injEq] at hd
  obtain ⟨rfl, rfl, _⟩ := hd
  obtain ⟨y, hN, hya, hyp, hyo, hpo⟩ := hQ x v N hp hq
  have st0 := Step.asG (q := heapP) (d' := [encL N]) hI1 hn1 (upd_same _ _ _) (by
    rintro v' S' hv' ⟨es', N', hd, _, _, hh', _⟩
    rw [List.cons.injEq, List.cons.injEq, encL_iff] at hd
    obtain ⟨_, rfl, _⟩ := hd
    exact ⟨N, rfl, hh'⟩)
  have hr1 : RepL (.raw v :: args' y) ⟨(c.one i).w, (c.one i).fz, (c.one i).ρ⟩ vs := by
    rw [RepL.cons_iff] at hr ⊢
    obtain ⟨z, zs, rfl, q1, q2⟩ := hr
    unfold Rep at q1
    have hvi : c.ρ i = some v := by simpa [Cx.one] using hv
    obtain rfl : v = z := by rw [hvi] at q1; exact Option.some.inj q1
    refine ⟨v, zs, rfl, by unfold Rep; rfl, ?_⟩
    rw [hya]
    exact q2.any (hca x) rfl rfl
  refine (h.run _ _ 1 _ vs (fun r m _ => r = out' y ∧ ∃ es M, post y es M ∧ m 0 = some (.gen heapP [encL (⟨v, e, s, es⟩ :: M)])) st0.inv st0.free hr1 ⟨y, v, [], [], rfl, by rw [List.append_nil, List.nil_append, ← hN]; exact upd_same _ _ _, hyp, fun es M hpost => ⟨rfl, es, M, hpost, by rw [upd_same, List.append_nil, List.nil_append]⟩⟩).mono ?_
  rintro e' w' ⟨v', r, c2, m2, k2, rfl, rfl, ⟨rfl, es, M, hpost, hm2⟩, st2, hrep⟩
  obtain ⟨hQ', hL⟩ := hpo es M hpost
  have hv2 : c2.ρ 0 = some v := by rw [st2.ρ 0 (by omega)]; exact hv
  have st3 := Step.asG (q := treeP Q) (d' := [.seq (ess' x), encL (⟨v, e, s, es⟩ :: M)]) st2.inv st2.free hm2 (by
    rintro u S' hu ⟨N', hd, hh'⟩
    rw [List.cons.injEq, encL_iff] at hd
    obtain ⟨rfl, _⟩ := hd
    obtain rfl : v = u := by rw [hv2] at hu; exact Option.some.inj hu
    exact ⟨_, _, rfl, hQ', hone, hh', hL _ _ hh'⟩)
  obtain ⟨s1, s2⟩ := Step.liftV hI hn hi rfl ((st0.trans st2).trans st3) (upd_same _ _ _) rfl (by rw [hyo]; exact hco x) hrep
  exact ⟨v', _, ⟨c2.w, c2.fz, c.ρ⟩, _, _, rfl, rfl, by rw [hyo]; exact hK _, s1, s2⟩
/-- A new tree. -/
theorem new_tree {Q : List (List PV) → Value → List Node → Prop} {c : Cx} {mem : Mem} {n : Nat} (hI : InvM c mem) (hn : Names c n) {w' : World} {v : Value} {es : List (List PV)} {N : List Node} {S : Nat → Prop}
    (hos : w'.os = c.w.os) (htp : w'.tape = c.w.tape) (hou : w'.output = c.w.output) (hsz : c.w.heap.size ≤ w'.heap.size) (hw : ∀ b, b < c.w.heap.size → w'.heap[b]? = c.w.heap[b]?)
    (hQ : Q es v N) (hone : v.oneCell' = true) (hh : HeapR N w' S) (hL : Rep (.seq es) ⟨w', S, fun _ => none⟩ v) (hS : ∀ b, S b → c.w.heap.size ≤ b) :
    Step c mem n ⟨w', c.fz, upd c.ρ n (some v)⟩ (upd mem n (some (.gen (treeP Q) [.seq es, encL N]))) (n + 1) ∧ Rep (.own n) ⟨w', c.fz, upd c.ρ n (some v)⟩ v := by
  have hmn := free_mem hI hn
  obtain ⟨h1, h2, h3⟩ := InvM.put (c := c) (c' := ⟨w', c.fz, upd c.ρ n (some v)⟩) (mem := mem) (mem' := upd mem n (some (.gen (treeP Q) [.seq es, encL N]))) (j := n) (S' := S) hI none rfl (fun k hk => upd_other _ _ hk) (.inl (hn.1 n (Nat.le_refl _)))
    (upd_same _ _ _) (fun k hk => .inl (upd_other _ _ hk)) (fun i hi => by cases hi) (.inr hmn) hsz (fun b hb _ => hw b hb)
    (fun hle => ⟨v, upd_same _ _ _, es, N, rfl, hQ, hone, hh, hL⟩) (fun b hb => .inr (hS b hb))
  exact ⟨⟨h1, h2, hos, htp, hou, hsz, fun b hb _ => hw b hb, h3, fun _ h => .inl h, by omega, fun i hi => upd_other _ _ (by omega), hn.upd rfl hone⟩, by unfold Rep; exact upd_same _ _ _⟩
/-- What joins or fails, seen from outside. -/
def newTB (Q : List (List PV) → Value → List Node → Prop) (args : α → List PV) (pre : α → Prop) (es : α → Option (List (List PV))) : AC := fun as mem n K =>
  ∃ x, as.map (resT mem) = args x ∧ pre x ∧ (∀ q N, es x = some q → K (.tup [.own n, .bool true]) (upd mem n (some (.gen (treeP Q) [.seq q, encL N]))) (n + 1)) ∧ (es x = none → K (.tup [.nil, .bool false]) mem n)
theorem newTB_ok {Q : List (List PV) → Value → List Node → Prop} {e : TypeId} {s : Nat} {post : α → List (List PV) → List Node → Prop} {fail : α → Prop} {ess : α → Option (List (List PV))} {f : FuncId} (h : ACok P f (jinB e s args pre post fail)) (hca : ∀ x, nmbL 0 (args x) = true)
    (hQ : ∀ x v es N, post x es N → ∃ q, ess x = some q ∧ Q q v (⟨v, e, s, es⟩ :: N) ∧ ∀ w S, HeapR (⟨v, e, s, es⟩ :: N) w S → Rep (.seq q) ⟨w, S, fun _ => none⟩ v)
    (hF : ∀ x, fail x → ess x = none) : ACok P f (newTB Q args pre ess) := by
  refine ⟨h.fn, fun c mem n as vs K hI hn hr hC => ?_⟩
  obtain ⟨x, hx, hp, hK, hK0⟩ := hC
  have hr1 : RepL (as.map (resT mem)) (c.lent mem) vs := repL_mapC _ (fun u hu v hv => rep_lent hI hv) hr
  rw [hx] at hr1
  have hfz := lent_fz hI
  let c1 : Cx := ⟨c.w, (c.lent mem).fz, fun l => if l = 0 then some (.int .i64 0) else none⟩
  have hI1 : InvM c1 (mkM [(0, .gen heapP [encL []])]) := by
    refine ⟨⟨hfz.lt, hfz.glob⟩, fun _ _ => False, ?_, fun _ _ _ _ _ _ h => h.elim, fun _ _ _ h => h.elim⟩
    intro i mb hi
    simp only [mkM, upd] at hi
    split at hi
    · rename_i e0
      cases hi
      refine ⟨.int .i64 0, by show (if i = 0 then _ else _) = _; rw [if_pos e0], [], rfl, ?_⟩
      refine ⟨fun nd hnd => by simp at hnd, List.Pairwise.nil, ?_⟩
      funext k
      simp
    · cases hi
  have hn1 : Names c1 1 := ⟨fun i hi => if_neg (by omega), fun i v hi => by
    have hi' : (if i = 0 then some (Value.int .i64 0) else none) = some v := hi
    split at hi'
    · cases hi'; rfl
    · cases hi'⟩
  have hr2 : RepL (args x) c1 vs := RepL.of_data (c := c1) (show RepL (args x) (c.lent mem).data vs from hr1.to_data (hca x))
  refine (h.run c1 _ 1 (args x) vs (fun r m _ => (∃ v es N, r = .tup [.raw v, .bool true] ∧ v.oneCell' = true ∧ post x es N ∧ m 0 = some (.gen heapP [encL (⟨v, e, s, es⟩ :: N)])) ∨ (r = .tup [.nil, .bool false] ∧ fail x)) hI1 hn1 hr2 ⟨x, [], rfl, upd_same _ _ _, hp, fun v es N hv _ hpost => .inl ⟨v, es, N, rfl, hv, hpost, upd_same _ _ _⟩, fun hf => .inr ⟨rfl, hf⟩⟩).mono ?_
  rintro e' w' ⟨v', r, c2, m2, k2, rfl, rfl, hpost, st2, hrep⟩
  have hno : ∀ b, ¬ Mine c1 (mkM [(0, .gen heapP [encL []])]) b := by
    rintro b ⟨i, S, mb, hi, hR, hb⟩
    simp only [mkM, upd] at hi
    split at hi
    · cases hi
      obtain ⟨_, _, N0, hN0, hh⟩ := hR
      rw [List.cons.injEq, encL_iff] at hN0
      obtain ⟨rfl, _⟩ := hN0
      rw [hh.2.2] at hb
      obtain ⟨nd, hnd, _⟩ := hb
      cases hnd
    · cases hi
  have hos : c2.w.os = c.w.os := st2.os
  have htp : c2.w.tape = c.w.tape := st2.tape
  have hou : c2.w.output = c.w.output := st2.output
  have hsz : c.w.heap.size ≤ c2.w.heap.size := st2.size
  have hw : ∀ b, b < c.w.heap.size → c2.w.heap[b]? = c.w.heap[b]? := fun b hb => st2.block b hb (hno b)
  rcases hpost with ⟨v, es, N, rfl, hone, hpost, hm2⟩ | ⟨rfl, hf⟩
  · unfold Rep at hrep
    obtain ⟨ws, rfl, hrep⟩ := hrep
    rw [RepL.cons_iff] at hrep
    obtain ⟨y, ys, e9, q1, q2⟩ := hrep
    unfold Rep at q1
    obtain rfl : v = y := q1.symm
    obtain ⟨_, S2, g1, _, _⟩ := id st2.inv
    obtain ⟨u, hu, N0, hN0, hh⟩ := g1 0 _ hm2
    rw [List.cons.injEq, encL_iff] at hN0
    obtain ⟨rfl, _⟩ := hN0
    obtain ⟨q, hq, hQq, hL⟩ := hQ x v es N hpost
    obtain ⟨st, hown⟩ := new_tree (Q := Q) (es := q) (N := ⟨v, e, s, es⟩ :: N) hI hn hos htp hou hsz hw hQq hone hh (hL _ _ hh) (fun b hb => by
      rcases st2.mine b ⟨0, S2 0, _, hm2, g1 0 _ hm2, hb⟩ with h | h
      · exact absurd h (hno b)
      · exact h)
    refine ⟨.tuple ws, .tup [.own n, .bool true], ⟨c2.w, c.fz, upd c.ρ n (some v)⟩, _, _, rfl, rfl, hK q _ hq, st, ?_⟩
    unfold Rep
    refine ⟨ws, rfl, ?_⟩
    rw [RepL.cons_iff]
    exact ⟨v, ys, e9, hown, repL_plain rfl q2⟩
  · have st : Step c mem n ⟨c2.w, c.fz, c.ρ⟩ mem n := Step.later hI hn rfl (fun _ h => h) ⟨hos, htp, hou, hsz, hw⟩ (fun b hb => .inl hb)
    exact ⟨v', _, ⟨c2.w, c.fz, c.ρ⟩, mem, n, rfl, rfl, hK0 (hF x hf), st, rep_fail hrep⟩
/-- A function whose walk hands back a new tree, or fails; its arguments are lent. -/
def FinT (P : Program) (rs : List ResultVar) (K : List (List PV) → Prop) (F : Prop) (Q : List (List PV) → Value → List Node → Prop) : AX → AS → Prop := Fin P rs fun r mem _ => (∃ j q N, r = .tup [.own j, .bool true] ∧ mem j = some (.gen (treeP Q) [.seq q, encL N]) ∧ K q) ∨ (r = .tup [.nil, .bool false] ∧ F)
theorem fin_T {rs : List ResultVar} {σ : AS} {K : List (List PV) → Prop} {F : Prop} {Q : List (List PV) → Value → List Node → Prop} (h : aRes P σ rs fun us => (∃ j q N, packR us = .tup [.own j, .bool true] ∧ σ.mem j = some (.gen (treeP Q) [.seq q, encL N]) ∧ K q) ∨ (packR us = .tup [.nil, .bool false] ∧ F)) : FinT P rs K F Q .ret σ := h
theorem newTL_ok {Q : List (List PV) → Value → List Node → Prop} {ess : α → Option (List (List PV))} (m : Nat) (hΓ : ∀ f C, Γ f = some C → ACok P f C) (hG : ∀ f R, G f = some R → PureOk P f R) (hm : P.follows .mixedOrders = true) {f : FuncId} {fn : Func} {code : Code} (rs : List ResultVar) (hf : P.funcs[f]? = some fn) (hb : fn.body = some code) (hrs : fn.results.toList = rs) (hN : codeN fn.ntmps code = true)
    (hname : (fn.name == "runtime.NumGoroutine") = false) (hl : ∀ x, (args x).length = m) (hle : Nat.ble m fn.ntmps = true) (hca : ∀ x, nmbL 0 (args x) = true)
    (h : ∀ x K F, pre x → (∀ q, ess x = some q → K q) → (ess x = none → F) → awp P G Γ 0 code (FinT P rs K F Q) (entry (args x) (fun _ => none) 0)) : ACok P f (newTB Q args pre ess) := by
  subst hrs
  refine ⟨⟨fn, hf, by rw [hb]; rfl, hname⟩, fun c mem n as vs K hI hn hr hC => ?_⟩
  obtain ⟨x, hx, hp, hK, hK0⟩ := hC
  have hr1 : RepL (as.map (resT mem)) (c.lent mem) vs := repL_mapC _ (fun u hu v hv => rep_lent hI hv) hr
  rw [hx] at hr1
  have hfz := lent_fz hI
  have hI0 : InvM (c.lent mem).data (fun _ => none) := InvM.none_ ⟨hfz.lt, hfz.glob⟩
  have hn0 : Names (c.lent mem).data 0 := ⟨fun _ _ => rfl, fun _ _ h => by cases h⟩
  have hcall := calls_of_body hΓ hG hm hf hb hN hI0 hn0 (hr1.to_data (hca x)) (by rw [hl]; exact Nat.le_of_ble_eq_true hle) (K := fun r mem _ => (∃ j q N, r = .tup [.own j, .bool true] ∧ mem j = some (.gen (treeP Q) [.seq q, encL N]) ∧ ess x = some q) ∨ (r = .tup [.nil, .bool false] ∧ ess x = none)) (h x (fun q => ess x = some q) (ess x = none) hp (fun _ h => h) (fun h => h))
  have hwd : (c.lent mem).data.w = c.w := rfl
  rw [hwd] at hcall
  refine hcall.mono ?_
  rintro e' w' ⟨v', r, c2, m2, k2, rfl, rfl, hpost, st2, hrep⟩
  have hno : ∀ b, ¬ Mine (c.lent mem).data (fun _ => none) b := by rintro b ⟨i, S, mb, h, _⟩; cases h
  have hos : c2.w.os = c.w.os := st2.os
  have htp : c2.w.tape = c.w.tape := st2.tape
  have hou : c2.w.output = c.w.output := st2.output
  have hsz : c.w.heap.size ≤ c2.w.heap.size := st2.size
  have hw : ∀ b, b < c.w.heap.size → c2.w.heap[b]? = c.w.heap[b]? := fun b hb => st2.block b hb (hno b)
  rcases hpost with ⟨j, q, N, rfl, hj, hq⟩ | ⟨rfl, hf⟩
  · unfold Rep at hrep
    obtain ⟨ws, rfl, hrep⟩ := hrep
    rw [RepL.cons_iff] at hrep
    obtain ⟨y, ys, e9, q1, q2⟩ := hrep
    unfold Rep at q1
    obtain ⟨_, S2, g1, _, _⟩ := id st2.inv
    obtain ⟨u, hu, es, N0, hN0, hQq, hone, hh, hL⟩ := g1 j _ hj
    rw [List.cons.injEq, List.cons.injEq, encL_iff, PV.seq.injEq] at hN0
    obtain ⟨rfl, rfl, _⟩ := hN0
    obtain rfl : u = y := by rw [hu] at q1; exact Option.some.inj q1
    obtain ⟨st, hown⟩ := new_tree (Q := Q) (es := q) (N := N) hI hn hos htp hou hsz hw hQq hone hh hL (fun b hb => by
      rcases st2.mine b ⟨j, S2 j, _, hj, g1 j _ hj, hb⟩ with h | h
      · exact absurd h (hno b)
      · exact h)
    refine ⟨.tuple ws, .tup [.own n, .bool true], ⟨c2.w, c.fz, upd c.ρ n (some u)⟩, _, _, rfl, rfl, hK q _ hq, st, ?_⟩
    unfold Rep
    refine ⟨ws, rfl, ?_⟩
    rw [RepL.cons_iff]
    exact ⟨u, ys, e9, hown, repL_plain rfl q2⟩
  · have st : Step c mem n ⟨c2.w, c.fz, c.ρ⟩ mem n := Step.later hI hn rfl (fun _ h => h) ⟨hos, htp, hou, hsz, hw⟩ (fun b hb => .inl hb)
    exact ⟨v', _, ⟨c2.w, c.fz, c.ρ⟩, mem, n, rfl, rfl, hK0 hf, st, rep_fail hrep⟩
/-- As newL; nil counts as an empty row. -/
def FinM (P : Program) (rs : List ResultVar) (K : List (List PV) → Prop) (e : TypeId) (s : Nat) : AX → AS → Prop := Fin P rs fun r mem _ => (∃ j es, r = .own j ∧ mem j = some (.row e s es) ∧ K es) ∨ (r = .nil ∧ K [])
theorem fin_M {rs : List ResultVar} {σ : AS} {K : List (List PV) → Prop} {e : TypeId} {s : Nat} (h : aRes P σ rs fun us => (∃ j es, packR us = .own j ∧ σ.mem j = some (.row e s es) ∧ K es) ∨ (packR us = .nil ∧ K [])) : FinM P rs K e s .ret σ := h
end
end Go.Proofs.Ytdedddmnacomfaa
