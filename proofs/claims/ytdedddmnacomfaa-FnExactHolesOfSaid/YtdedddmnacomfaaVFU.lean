/- More on trees of rows: rows are forgotten, written over in place; results that may be nil, or fail. No program. -/
import Derived.Test.YtdedddmnacomfaaVFG
import Derived.Test.YtdedddmnacomfaaVF12

namespace Go.Proofs.Ytdedddmnacomfaa
set_option maxRecDepth 100000
set_option linter.unusedVariables false
set_option linter.unusedSimpArgs false
open Go.RowKit
/-- Rows of name 0 are forgotten. -/
theorem Step.dropH {c : Cx} {mem : Mem} {n : Nat} {N N' M : List Node} (hI : InvM c mem) (hn : Names c n) (h0 : mem 0 = some (.gen heapP [encL N])) (hp : (N' ++ M).Perm N) :
    Step c mem n ⟨c.w, c.fz, c.ρ⟩ (upd mem 0 (some (.gen heapP [encL N']))) n := by
  obtain ⟨hf, S, h1, h2, h3⟩ := id hI
  have hm0 : mem 0 ≠ none := by simp [h0]
  obtain ⟨v0, a1, N0, a2, a3⟩ := h1 0 _ h0
  rw [List.cons.injEq, encL_iff] at a2
  obtain ⟨rfl, _⟩ := a2
  let S0 : Nat → Prop := fun k => ∃ nd ∈ N', nd.v.ownBlock = some k
  have hsub : ∀ nd, nd ∈ N' → nd ∈ N := fun nd h => hp.mem_iff.1 (List.mem_append_left _ h)
  have hS0 : ∀ k, S0 k → S 0 k := by
    rintro k ⟨nd, h, h'⟩
    rw [a3.2.2]; exact ⟨nd, hsub nd h, h'⟩
  have hheap : HeapR N' c.w S0 := ⟨fun nd h => a3.1 nd (hsub nd h), (List.pairwise_append.1 ((List.Perm.pairwise_iff (fun h => apart_symm h) hp).2 a3.2.1)).1, rfl⟩
  let S' : Nat → Nat → Prop := fun l => if l = 0 then S0 else S l
  have hle' : ∀ l k, S' l k → S l k := by
    intro l k h
    simp only [S'] at h
    split at h
    · rename_i e; rw [e]; exact hS0 k h
    · exact h
  have hrep : ∀ l mb, upd mem 0 (some (.gen heapP [encL N'])) l = some mb → MRep ⟨c.w, c.fz, c.ρ⟩ l (S' l) mb := by
    intro l mb hl
    simp only [upd] at hl
    by_cases e1 : l = 0
    · rw [if_pos e1] at hl; cases hl
      simp only [S', if_pos e1]
      exact ⟨v0, by show c.ρ l = _; rw [e1]; exact a1, N', rfl, hheap⟩
    · rw [if_neg e1] at hl
      simp only [S', if_neg e1]
      exact h1 l mb hl
  have hkeep : ∀ l, upd mem 0 (some (.gen heapP [encL N'])) l ≠ none → mem l ≠ none := by
    intro l hl
    by_cases e1 : l = 0
    · rw [e1]; exact hm0
    · rwa [upd_other _ _ e1] at hl
  refine Step.re hn ⟨⟨hf.lt, hf.glob⟩, S', hrep, ?_, ?_⟩ (fun _ _ => rfl) hn (Nat.le_refl _) ?_
  · intro l l' k hl hl' hne hk hk'
    exact h2 l l' k (hkeep l hl) (hkeep l' hl') hne (hle' l k hk) (hle' l' k hk')
  · intro l k hl hk hb
    exact h3 l k (hkeep l hl) (hle' l k hk) hb
  · rintro k ⟨l, U, mb, hl, hR, hU⟩
    have := MRep.det hR (hrep l mb hl)
    subst this
    have hml := hkeep l (by simp [hl])
    obtain ⟨mb', hmb'⟩ := Option.ne_none_iff_exists'.1 hml
    exact ⟨l, S l, mb', hmb', h1 l mb' hmb', hle' l k hU⟩
/-- Memory seen in another way. -/
theorem Step.asG {c : Cx} {mem : Mem} {n i : Nat} {p q : OwnP} {d d' : List PV} (hI : InvM c mem) (hn : Names c n) (hi : mem i = some (.gen p d)) (h : ∀ v S, c.ρ i = some v → p.R d c.w v S → q.R d' c.w v S) :
    Step c mem n ⟨c.w, c.fz, c.ρ⟩ (upd mem i (some (.gen q d'))) n := by
  obtain ⟨hf, S, h1, h2, h3⟩ := id hI
  have hmi : mem i ≠ none := by simp [hi]
  have hrep : ∀ l mb, upd mem i (some (.gen q d')) l = some mb → MRep ⟨c.w, c.fz, c.ρ⟩ l (S l) mb := by
    intro l mb hl
    by_cases e1 : l = i
    · subst e1
      rw [upd_same] at hl; cases hl
      obtain ⟨v, hv, hR⟩ := h1 l _ hi
      exact ⟨v, hv, h v _ hv hR⟩
    · rw [upd_other _ _ e1] at hl
      exact h1 l mb hl
  have hkeep : ∀ l, upd mem i (some (.gen q d')) l ≠ none → mem l ≠ none := by
    intro l hl
    by_cases e1 : l = i
    · rw [e1]; exact hmi
    · rwa [upd_other _ _ e1] at hl
  refine Step.re hn ⟨⟨hf.lt, hf.glob⟩, S, hrep, ?_, ?_⟩ (fun _ _ => rfl) hn (Nat.le_refl _) ?_
  · intro l l' k hl hl' hne hk hk'
    exact h2 l l' k (hkeep l hl) (hkeep l' hl') hne hk hk'
  · intro l k hl hk hb
    exact h3 l k (hkeep l hl) hk hb
  · rintro k ⟨l, U, mb, hl, hR, hU⟩
    have := MRep.det hR (hrep l mb hl)
    subst this
    obtain ⟨mb', hmb'⟩ := Option.ne_none_iff_exists'.1 (hkeep l (by simp [hl]))
    exact ⟨l, S l, mb', hmb', h1 l mb' hmb', hU⟩
/-- One of the rows gets a name, wherever it stands. -/
theorem Step.splitP {c : Cx} {mem : Mem} {n : Nat} {nd : Node} {N N1 : List Node} (hI : InvM c mem) (hn : Names c n) (h0 : mem 0 = some (.gen heapP [encL N])) (hp : (nd :: N1).Perm N) :
    Step c mem n ⟨c.w, c.fz, upd c.ρ n (some nd.v)⟩ (upd (upd mem 0 (some (.gen heapP [encL N1]))) n (some (.row nd.e nd.s nd.es))) (n + 1) := by
  have st := Step.dropH (N' := nd :: N1) (M := []) hI hn h0 (by rw [List.append_nil]; exact hp)
  have st2 := Step.splitH st.inv st.free (upd_same _ _ _)
  have em : upd (upd (upd mem 0 (some (MB.gen heapP [encL (nd :: N1)]))) 0 (some (.gen heapP [encL N1]))) n (some (.row nd.e nd.s nd.es)) = upd (upd mem 0 (some (.gen heapP [encL N1]))) n (some (.row nd.e nd.s nd.es)) := by
    funext l
    simp only [upd]
    (repeat' split) <;> rfl
  rw [em] at st2
  exact st.trans st2
section
variable {P : Program} {Γ : Ctr} {G : PCtr} {α : Type} {args : α → List PV} {pre : α → Prop}
/-- A function that only computes, all that is one's own given up. -/
def pureT (R : PC) : AC := fun args mem n K => nmbL 0 (args.map (resT mem)) = true ∧ R (args.map (resT mem)) fun r => K r (fun _ => none) n
theorem pureT_ok {f : FuncId} {R : PC} (h : PureOk P f R) : ACok P f (pureT R) := by
  refine ⟨h.fn, fun c mem n args vs K hI hn hr hC => ?_⟩
  obtain ⟨hsc, hR⟩ := hC
  have hr1 : RepL (args.map (resT mem)) (c.lent mem) vs := repL_mapC _ (fun u hu v hv => rep_lent hI hv) hr
  have hfz := lent_fz hI
  refine (h.run (c.lent mem) _ vs _ hfz (hr1.to_data hsc) hR).mono ?_
  rintro e w' ⟨v, r, rfl, hK, hb, hrep⟩
  have hb1 : Below c.w.heap.size c.w w' := hb
  let c2 : Cx := ⟨w', fun b => (c.lent mem).fz b ∨ c.w.heap.size ≤ b ∧ b < w'.heap.size, c.ρ⟩
  have hle : c.Le c2 := ⟨fun _ h => .inl (.inl h), fun b hb' o => cell_of_block (hb1.block b (hI.1.lt b hb')) o, fun i v hi => hi⟩
  have hlt : ∀ b, c2.fz b → b < w'.heap.size := by
    rintro b (hb' | hb')
    · exact Nat.lt_of_lt_of_le (hfz.lt b hb') hb1.size
    · exact hb'.2
  have st : Step c mem n c2 (fun _ => none) n := by
    refine ⟨InvM.none_ (hI.1.mono hle hlt), hle, hb1.os, hb1.tape, hb1.output, hb1.size, fun b hb' _ => hb1.block b hb', ?_, ?_, Nat.le_refl _, fun _ _ => rfl, ⟨fun i hi => hn.1 i hi, fun i v hi => hn.2 i v hi⟩⟩
    · rintro b ⟨i, S, mb, h, _⟩; cases h
    · rintro b ((h | h) | h)
      · exact .inl h
      · exact .inr (.inl h)
      · exact .inr (.inr h.1)
  refine ⟨v, r, c2, _, n, rfl, rfl, hK, st, Rep.mono _ ?_ hrep⟩
  exact ⟨fun _ h => h, fun _ _ _ => rfl, fun _ _ h => by cases h⟩
def FinY (P : Program) (rs : List ResultVar) (A : List Node) (K : List (List PV) → List Node → Prop) (F : Prop) (e : TypeId) (s : Nat) : AX → AS → Prop := Fin P rs fun r mem _ =>
  (∃ j es N M N0, r = .tup [.own j, .bool true] ∧ mem j = some (.row e s es) ∧ mem 0 = some (.gen heapP [encL N0]) ∧ (A ++ N ++ M).Perm N0 ∧ es.all (·.all plainR) = true ∧ K es N) ∨ (∃ M N0, r = .tup [.nil, .bool false] ∧ mem 0 = some (.gen heapP [encL N0]) ∧ (A ++ M).Perm N0 ∧ F)
theorem fin_Y {rs : List ResultVar} {σ : AS} {A : List Node} {K : List (List PV) → List Node → Prop} {F : Prop} {e : TypeId} {s : Nat} (h : aRes P σ rs fun us => (∃ j es N M N0, packR us = .tup [.own j, .bool true] ∧ σ.mem j = some (.row e s es) ∧ σ.mem 0 = some (.gen heapP [encL N0]) ∧ (A ++ N ++ M).Perm N0 ∧ es.all (·.all plainR) = true ∧ K es N) ∨ (∃ M N0, packR us = .tup [.nil, .bool false] ∧ σ.mem 0 = some (.gen heapP [encL N0]) ∧ (A ++ M).Perm N0 ∧ F)) : FinY P rs A K F e s .ret σ := h
/-- A function that writes over one of them, and what hangs on it. -/
def sptK (e : TypeId) (s : Nat) (args : α → List PV) (rows : α → List (List PV)) (nod : α → List Node) (pre : α → Prop) (out : α → PV) (post : α → List (List PV) → List Node → Prop) : AC := fun as mem n K =>
  ∃ x v L R, as = .raw v :: args x ∧ mem 0 = some (.gen heapP [encL (L ++ ⟨v, e, s, rows x⟩ :: (nod x ++ R))]) ∧ pre x ∧ ∀ es N, post x es N → K (out x) (upd mem 0 (some (.gen heapP [encL (L ++ ⟨v, e, s, es⟩ :: (N ++ R))]))) n
def FinK (P : Program) (rs : List ResultVar) (L R : List Node) (K : PV → List (List PV) → List Node → Prop) (e : TypeId) (s : Nat) : AX → AS → Prop := Fin P rs fun r mem _ => r.nmb 0 = true ∧ ∃ es N, mem 1 = some (.row e s es) ∧ es.all (·.all plainR) = true ∧ mem 0 = some (.gen heapP [encL (L ++ (N ++ R))]) ∧ K r es N
theorem fin_K {rs : List ResultVar} {σ : AS} {L R : List Node} {K : PV → List (List PV) → List Node → Prop} {e : TypeId} {s : Nat} (h : aRes P σ rs fun us => (packR us).nmb 0 = true ∧ ∃ es N, σ.mem 1 = some (.row e s es) ∧ es.all (·.all plainR) = true ∧ σ.mem 0 = some (.gen heapP [encL (L ++ (N ++ R))]) ∧ K (packR us) es N) : FinK P rs L R K e s .ret σ := h
theorem sptK_ok {e : TypeId} {s : Nat} {rows : α → List (List PV)} {nod : α → List Node} {out : α → PV} {post : α → List (List PV) → List Node → Prop} (m : Nat) (hΓ : ∀ f C, Γ f = some C → ACok P f C) (hG : ∀ f R, G f = some R → PureOk P f R) (hm : P.follows .mixedOrders = true) {f : FuncId} {fn : Func} {code : Code} (rs : List ResultVar) (hf : P.funcs[f]? = some fn) (hb : fn.body = some code) (hrs : fn.results.toList = rs) (hN : codeN fn.ntmps code = true)
    (hname : (fn.name == "runtime.NumGoroutine") = false) (hl : ∀ x, (args x).length + 1 = m) (hle : Nat.ble m fn.ntmps = true) (hca : ∀ x, nmbL 0 (args x) = true)
    (h : ∀ x L R K, pre x → (∀ es N, post x es N → K (out x) es N) → awp P G Γ 2 code (FinK P rs L R K e s) (entry (.own 1 :: args x) (mkM [(1, .row e s (rows x)), (0, .gen heapP [encL (L ++ (nod x ++ R))])]) 2)) : ACok P f (sptK e s args rows nod pre out post) := by
  subst hrs
  refine ⟨⟨fn, hf, by rw [hb]; rfl, hname⟩, fun c mem n as vs K hI hn hr hC => ?_⟩
  obtain ⟨x, v, L, R, rfl, h0, hp, hK⟩ := hC
  have hI1 := hI.one h0 rfl
  have hn1 : Names (c.one 0) 1 := Names.one hn
  have st1 := Step.splitP (nd := ⟨v, e, s, rows x⟩) (N1 := L ++ (nod x ++ R)) hI1 hn1 (upd_same _ _ _) List.perm_middle.symm
  have hmem : upd (upd (mkM [(0, .gen heapP [encL (L ++ ⟨v, e, s, rows x⟩ :: (nod x ++ R))])]) 0 (some (.gen heapP [encL (L ++ (nod x ++ R))]))) 1 (some (.row e s (rows x))) = mkM [(1, .row e s (rows x)), (0, .gen heapP [encL (L ++ (nod x ++ R))])] := by
    funext j
    simp only [mkM, upd]
    by_cases e1 : j = 1
    · simp [e1]
    · by_cases e2 : j = 0 <;> simp [e1, e2]
  dsimp only at st1
  rw [hmem] at st1
  have hr1 : RepL (.own 1 :: args x) ⟨(c.one 0).w, (c.one 0).fz, upd (c.one 0).ρ 1 (some v)⟩ vs := by
    rw [RepL.cons_iff] at hr ⊢
    obtain ⟨y, ys, rfl, q1, q2⟩ := hr
    unfold Rep at q1
    subst q1
    exact ⟨_, ys, rfl, by unfold Rep; show upd (c.one 0).ρ 1 (some _) 1 = some _; exact upd_same _ _ _, q2.any (hca x) rfl rfl⟩
  refine (calls_of_body hΓ hG hm hf hb hN st1.inv st1.free hr1 (by have := hl x; rw [List.length_cons, this]; exact Nat.le_of_ble_eq_true hle) (K := fun r mem _ => r.nmb 0 = true ∧ ∃ es N, mem 1 = some (.row e s es) ∧ es.all (·.all plainR) = true ∧ mem 0 = some (.gen heapP [encL (L ++ (N ++ R))]) ∧ (r = out x ∧ post x es N)) (h x L R (fun r es N => r = out x ∧ post x es N) hp (fun _ _ h => ⟨rfl, h⟩))).mono ?_
  rintro e' w' ⟨v', r, c1, m1, k1, rfl, rfl, ⟨hr0, es, N, hj, hall, hm0, rfl, hpost⟩, st, hrep⟩
  obtain ⟨u, hu, hone, hjoin⟩ := Step.joinH st.inv st.free hm0 hj hall
  have hu1 : c1.ρ 1 = some v := by rw [st.ρ 1 (by omega)]; show upd (c.one 0).ρ 1 (some v) 1 = some v; exact upd_same _ _ _
  obtain rfl : v = u := by rw [hu1] at hu; exact Option.some.inj hu
  have stA := (st1.trans st).trans (hjoin (L ++ ⟨v, e, s, es⟩ :: (N ++ R)) List.perm_middle)
  obtain ⟨s1, s2⟩ := Step.liftV (r := out x) (v' := v') hI hn h0 rfl stA (upd_same _ _ _) rfl hr0 hrep
  exact ⟨v', _, ⟨c1.w, c1.fz, c.ρ⟩, _, _, rfl, rfl, hK es N hpost, s1, s2⟩
/-- .. seen from outside: a tree stays a tree. -/
def mrkK (Q : List (List PV) → Value → List Node → Prop) (args : α → List PV) (es : α → List (List PV)) (pre : α → Prop) (out : α → PV) (es' : α → List (List PV)) : AC := fun as mem n K =>
  ∃ x i N, as = .own i :: args x ∧ mem i = some (.gen (treeP Q) [.seq (es x), encL N]) ∧ pre x ∧ ∀ N', K (out x) (upd mem i (some (.gen (treeP Q) [.seq (es' x), encL N']))) n
theorem mrkK_ok {Q : List (List PV) → Value → List Node → Prop} {e : TypeId} {s : Nat} {β : Type} {args' : β → List PV} {rows : β → List (List PV)} {nod : β → List Node} {pre' : β → Prop} {out' : β → PV} {post : β → List (List PV) → List Node → Prop} {ess ess' : α → List (List PV)} {out : α → PV} {f : FuncId} (h : ACok P f (sptK e s args' rows nod pre' out' post)) (hca : ∀ x, nmbL 0 (args x) = true) (hco : ∀ x, (out x).nmb 0 = true)
    (hQ : ∀ x v N, pre x → Q (ess x) v N → ∃ y, N = ⟨v, e, s, rows y⟩ :: nod y ∧ args' y = args x ∧ pre' y ∧ out' y = out x ∧ ∀ es M, post y es M → Q (ess' x) v (⟨v, e, s, es⟩ :: M) ∧ ∀ w S, HeapR (⟨v, e, s, es⟩ :: M) w S → Rep (.seq (ess' x)) ⟨w, S, fun _ => none⟩ v) : ACok P f (mrkK Q args ess pre out ess') := by
  refine ⟨h.fn, fun c mem n as vs K hI hn hr hC => ?_⟩
  obtain ⟨x, i, N, rfl, hi, hp, hK⟩ := hC
  have hI1 := hI.one hi rfl
  have hn1 : Names (c.one i) 1 := Names.one hn
  obtain ⟨hf1, S, h1, h2, h3⟩ := id hI1
  obtain ⟨v, hv, es, N0, hd, hq, hone, hh, hseq⟩ := h1 0 _ (upd_same _ _ _)
  rw [List.cons.injEq, List.cons.injEq, encL_iff, PV.seq.injEq] at hd
  obtain ⟨rfl, rfl, _⟩ := hd
  obtain ⟨y, hN, hya, hyp, hyo, hpo⟩ := hQ x v N hp hq
  have st0 := Step.asG (q := heapP) (d' := [encL N]) hI1 hn1 (upd_same _ _ _) (by
    rintro v' S' hv' ⟨es', N', hd, _, _, hh', _⟩
    rw [List.cons.injEq, List.cons.injEq, encL_iff] at hd
    obtain ⟨_, rfl, _⟩ := hd
    exact ⟨N, rfl, hh'⟩)
  have hr1 : RepL (.raw v :: args' y) ⟨(c.one i).w, (c.one i).fz, (c.one i).ρ⟩ vs := by
    rw [RepL.cons_iff] at hr ⊢
    obtain ⟨z, zs, rfl, q1, q2⟩ := hr
    unfold Rep at q1
    have hvi : c.ρ i = some v := by simpa [Cx.one] using hv
    obtain rfl : v = z := by rw [hvi] at q1; exact Option.some.inj q1
    refine ⟨v, zs, rfl, by unfold Rep; rfl, ?_⟩
    rw [hya]
    exact q2.any (hca x) rfl rfl
  refine (h.run _ _ 1 _ vs (fun r m _ => r = out' y ∧ ∃ es M, post y es M ∧ m 0 = some (.gen heapP [encL (⟨v, e, s, es⟩ :: M)])) st0.inv st0.free hr1 ⟨y, v, [], [], rfl, by rw [List.append_nil, List.nil_append, ← hN]; exact upd_same _ _ _, hyp, fun es M hpost => ⟨rfl, es, M, hpost, by rw [upd_same, List.append_nil, List.nil_append]⟩⟩).mono ?_
  rintro e' w' ⟨v', r, c2, m2, k2, rfl, rfl, ⟨rfl, es, M, hpost, hm2⟩, st2, hrep⟩
  obtain ⟨hQ', hL⟩ := hpo es M hpost
  have hv2 : c2.ρ 0 = some v := by rw [st2.ρ 0 (by omega)]; exact hv
  have st3 := Step.asG (q := treeP Q) (d' := [.seq (ess' x), encL (⟨v, e, s, es⟩ :: M)]) st2.inv st2.free hm2 (by
    rintro u S' hu ⟨N', hd, hh'⟩
    rw [List.cons.injEq, encL_iff] at hd
    obtain ⟨rfl, _⟩ := hd
    obtain rfl : v = u := by rw [hv2] at hu; exact Option.some.inj hu
    exact ⟨_, _, rfl, hQ', hone, hh', hL _ _ hh'⟩)
  obtain ⟨s1, s2⟩ := Step.liftV hI hn hi rfl ((st0.trans st2).trans st3) (upd_same _ _ _) rfl (by rw [hyo]; exact hco x) hrep
  exact ⟨v', _, ⟨c2.w, c2.fz, c.ρ⟩, _, _, rfl, rfl, by rw [hyo]; exact hK _, s1, s2⟩
/-- What joins or fails, seen from outside. -/
def newTB (Q : List (List PV) → Value → List Node → Prop) (args : α → List PV) (pre : α → Prop) (es : α → Option (List (List PV))) : AC := fun as mem n K =>
  ∃ x, as.map (resT mem) = args x ∧ pre x ∧ (∀ q N, es x = some q → K (.tup [.own n, .bool true]) (upd mem n (some (.gen (treeP Q) [.seq q, encL N]))) (n + 1)) ∧ (es x = none → K (.tup [.nil, .bool false]) mem n)
/-- A function whose walk hands back a new tree, or fails; its arguments are lent. -/
def FinT (P : Program) (rs : List ResultVar) (K : List (List PV) → Prop) (F : Prop) (Q : List (List PV) → Value → List Node → Prop) : AX → AS → Prop := Fin P rs fun r mem _ => (∃ j q N, r = .tup [.own j, .bool true] ∧ mem j = some (.gen (treeP Q) [.seq q, encL N]) ∧ K q) ∨ (r = .tup [.nil, .bool false] ∧ F)
theorem fin_T {rs : List ResultVar} {σ : AS} {K : List (List PV) → Prop} {F : Prop} {Q : List (List PV) → Value → List Node → Prop} (h : aRes P σ rs fun us => (∃ j q N, packR us = .tup [.own j, .bool true] ∧ σ.mem j = some (.gen (treeP Q) [.seq q, encL N]) ∧ K q) ∨ (packR us = .tup [.nil, .bool false] ∧ F)) : FinT P rs K F Q .ret σ := h
/-- As newL; nil counts as an empty row. -/
def FinM (P : Program) (rs : List ResultVar) (K : List (List PV) → Prop) (e : TypeId) (s : Nat) : AX → AS → Prop := Fin P rs fun r mem _ => (∃ j es, r = .own j ∧ mem j = some (.row e s es) ∧ K es) ∨ (r = .nil ∧ K [])
theorem fin_M {rs : List ResultVar} {σ : AS} {K : List (List PV) → Prop} {e : TypeId} {s : Nat} (h : aRes P σ rs fun us => (∃ j es, packR us = .own j ∧ σ.mem j = some (.row e s es) ∧ K es) ∨ (packR us = .nil ∧ K [])) : FinM P rs K e s .ret σ := h
theorem newM_ok {e : TypeId} {s : Nat} {post : α → List (List PV) → Prop} (m : Nat) (hΓ : ∀ f C, Γ f = some C → ACok P f C) (hG : ∀ f R, G f = some R → PureOk P f R) (hm : P.follows .mixedOrders = true) {f : FuncId} {fn : Func} {code : Code} (rs : List ResultVar) (hf : P.funcs[f]? = some fn) (hb : fn.body = some code) (hrs : fn.results.toList = rs) (hN : codeN fn.ntmps code = true)
    (hname : (fn.name == "runtime.NumGoroutine") = false) (hl : ∀ x, (args x).length = m) (hle : Nat.ble m fn.ntmps = true) (hca : ∀ x, nmbL 0 (args x) = true) (hpl : ∀ x es, post x es → es.all (·.all plainU) = true)
    (h : ∀ x K, pre x → (∀ es, post x es → K es) → awp P G Γ 0 code (FinM P rs K e s) (entry (args x) (fun _ => none) 0)) : ACok P f (newL e s args pre post) := by
  subst hrs
  refine ⟨⟨fn, hf, by rw [hb]; rfl, hname⟩, fun c mem n as vs K hI hn hr hC => ?_⟩
  obtain ⟨x, hx, hp, hK⟩ := hC
  have hr1 : RepL (as.map (resT mem)) (c.lent mem) vs := repL_mapC _ (fun u hu v hv => rep_lent hI hv) hr
  rw [hx] at hr1
  have hfz := lent_fz hI
  have hI0 : InvM (c.lent mem).data (fun _ => none) := InvM.none_ ⟨hfz.lt, hfz.glob⟩
  have hn0 : Names (c.lent mem).data 0 := ⟨fun _ _ => rfl, fun _ _ h => by cases h⟩
  have hcall := calls_of_body hΓ hG hm hf hb hN hI0 hn0 (hr1.to_data (hca x)) (by rw [hl]; exact Nat.le_of_ble_eq_true hle) (K := fun r mem _ => (∃ j es, r = .own j ∧ mem j = some (.row e s es) ∧ post x es) ∨ (r = .nil ∧ post x [])) (h x (fun es => post x es) hp (fun _ h => h))
  have hwd : (c.lent mem).data.w = c.w := rfl
  rw [hwd] at hcall
  refine hcall.mono ?_
  rintro e' w' ⟨v, r, c2, m2, k2, rfl, rfl, hpost, st2, hrep⟩
  have hno : ∀ b, ¬ Mine (c.lent mem).data (fun _ => none) b := by rintro b ⟨i, S, mb, h, _⟩; cases h
  have hos : c2.w.os = c.w.os := st2.os
  have htp : c2.w.tape = c.w.tape := st2.tape
  have hou : c2.w.output = c.w.output := st2.output
  have hsz : c.w.heap.size ≤ c2.w.heap.size := st2.size
  have hw : ∀ b, b < c.w.heap.size → c2.w.heap[b]? = c.w.heap[b]? := fun b hb => st2.block b hb (hno b)
  rcases hpost with ⟨j, es, rfl, hj, hpost⟩ | ⟨rfl, hpost⟩
  · obtain ⟨_, S2, g1, _, _⟩ := id st2.inv
    obtain ⟨u, us, hu, hown, hrl, hcs, hS⟩ := g1 j _ hj
    unfold Rep at hrep
    rw [hu] at hrep
    cases hrep
    have hflat := all_flat (hpl x es hpost)
    obtain ⟨c', q1, q2, q3, q4⟩ := new_row hI hn none (w' := c2.w) (v := v) (e := e) (s := s) (es := es) (vs := us) hos htp hou hsz (fun i hi => by cases hi)
      (fun b hb _ => hw b hb) hown (repL_plain hflat hrl) hcs
      (fun b hb => by
        have hmine : Mine c2 m2 b := ⟨j, S2 j, _, hj, g1 j _ hj, by rw [hS]; exact hb⟩
        rcases st2.mine b hmine with h | h
        · exact absurd h (hno b)
        · rw [hwd] at h; exact .inr h)
    exact ⟨v, .own n, c', _, _, rfl, q1, hK es hpost, q2, q3⟩
  · obtain rfl : v = .slice none 0 0 := by unfold Rep at hrep; exact hrep
    obtain ⟨c', q1, q2, q3, q4⟩ := new_row hI hn none (w' := c2.w) (v := .slice none 0 0) (e := e) (s := s) (es := []) (vs := []) hos htp hou hsz (fun i hi => by cases hi)
      (fun b hb _ => hw b hb) ⟨by simp, .inl ⟨rfl, rfl⟩⟩ (by rw [List.flatten_nil, RepL.nil_iff]) ⟨by simp, by simp⟩ (fun b hb => by cases hb)
    exact ⟨_, .own n, c', _, _, rfl, q1, hK [] hpost, q2, q3⟩
end
end Go.Proofs.Ytdedddmnacomfaa

/- Texts as data: what the program's and the reference's functions on texts compute. No program. -/
namespace Go.Proofs.Ytdedddmnacomfaa
set_option maxRecDepth 100000
set_option linter.unusedVariables false
set_option linter.unusedSimpArgs false
abbrev Bs := List UInt8
def ofI (x : Int) : UInt8 := UInt8.ofNat x.toNat
@[go_sem] theorem ofI_nat (b : UInt8) : ofI (b.toNat : Int) = b := by unfold ofI; simp
theorem byte_of {x : Int} (h0 : 0 ≤ x) (h1 : x < 256) : ∃ b : UInt8, x = (b.toNat : Int) := by
  refine ⟨UInt8.ofNat x.toNat, ?_⟩
  have h : x.toNat < 256 := by omega
  rw [UInt8.toNat_ofNat_of_lt' h]
  omega
/-- What holds of all bytes may be tried. -/
theorem all_bytes {p : UInt8 → Prop} (h : ∀ n, n < 256 → p (UInt8.ofNat n)) (b : UInt8) : p b := by
  have := h b.toNat b.toNat_lt
  rwa [UInt8.ofNat_toNat] at this
theorem getD_lt {s : Bs} {k : Nat} (h : k < s.length) : s.getD k 0 = s[k] := by simp [List.getD_eq_getElem?_getD, List.getElem?_eq_getElem h]
theorem take_succ_getD {s : Bs} {k : Nat} (h : k < s.length) : s.take (k + 1) = s.take k ++ [s.getD k 0] := by
  rw [List.take_succ_eq_append_getElem h, getD_lt h]
theorem drop_getD {s : Bs} {k : Nat} (h : k < s.length) : s.drop k = s.getD k 0 :: s.drop (k + 1) := by
  rw [getD_lt h]; exact List.drop_eq_getElem_cons h
theorem map_snoc {g : UInt8 → UInt8} {s : Bs} {k : Nat} (h : k < s.length) : (s.take (k + 1)).map g = (s.take k).map g ++ [g (s.getD k 0)] := by
  rw [take_succ_getD h, List.map_append]; simp
theorem bc_inj {a b : UInt8} (h : bc a = bc b) : a = b := by
  simp only [bc, List.cons.injEq, PV.int.injEq, true_and, and_true] at h
  exact UInt8.toNat_inj.1 (by omega)
@[go_sem] theorem bc_map_inj {l m : Bs} : l.map bc = m.map bc ↔ l = m := List.map_inj_right (fun _ _ h => bc_inj h)
@[go_sem] theorem bc_one {b : UInt8} {l : Bs} : [[PV.int .u8 (b.toNat : Int)]] = l.map bc ↔ [b] = l := by
  rw [show [[PV.int .u8 (b.toNat : Int)]] = [b].map bc from rfl, bc_map_inj]
@[go_sem] theorem bc_snoc {b : UInt8} {m l : Bs} : m.map bc ++ [[PV.int .u8 (b.toNat : Int)]] = l.map bc ↔ m ++ [b] = l := by
  rw [show m.map bc ++ [[PV.int .u8 (b.toNat : Int)]] = (m ++ [b]).map bc by simp [bc], bc_map_inj]
@[go_sem] theorem bc_len (b : UInt8) : (bc b).length = 1 := rfl
@[go_sem] theorem bc_all (m : Bs) : ∀ z ∈ m.map bc, z.length = 1 := by
  intro z hz
  obtain ⟨b, _, rfl⟩ := List.mem_map.1 hz
  rfl
def isLet (b : UInt8) : Bool := decide ((97 ≤ b.toNat ∧ b.toNat ≤ 122) ∨ (65 ≤ b.toNat ∧ b.toNat ≤ 90))
def isDig (b : UInt8) : Bool := decide (48 ≤ b.toNat ∧ b.toNat ≤ 57)
def hasB (s : Bs) (b : UInt8) : Bool := s.any fun c => decide (c.toNat = b.toNat)
theorem hasB_snoc {s : Bs} {k : Nat} {b : UInt8} (h : k < s.length) : hasB (s.take (k + 1)) b = (hasB (s.take k) b || decide ((s.getD k 0).toNat = b.toNat)) := by
  unfold hasB; rw [take_succ_getD h, List.any_append]; simp
theorem hasB_at {s : Bs} {k : Nat} {b : UInt8} (h : k < s.length) (e : (s.getD k 0).toNat = b.toNat) : hasB s b = true := by
  unfold hasB; rw [List.any_eq_true]
  exact ⟨s[k], List.getElem_mem h, by rw [getD_lt h] at e; simpa using e⟩
def low1 (b : UInt8) : UInt8 := if 65 ≤ b.toNat ∧ b.toNat ≤ 90 then UInt8.ofNat (b.toNat + 32) else b
theorem low1_nat (b : UInt8) : (low1 b).toNat = if 65 ≤ b.toNat ∧ b.toNat ≤ 90 then b.toNat + 32 else b.toNat := by
  unfold low1
  split
  · rw [UInt8.toNat_ofNat_of_lt' (by show b.toNat + 32 < 256; omega)]
  · rfl
def lowS (s : Bs) : Bs := s.map low1
theorem prefix_iff {p s : Bs} : p.isPrefixOf s = decide (p.length ≤ s.length ∧ s.take p.length = p) := by
  rw [Bool.eq_iff_iff, List.isPrefixOf_iff_prefix, decide_eq_true_iff]
  constructor
  · intro h; exact ⟨h.length_le, (List.prefix_iff_eq_take.1 h).symm⟩
  · rintro ⟨_, h⟩; rw [← h]; exact List.take_prefix _ _
end Go.Proofs.Ytdedddmnacomfaa

/- Functions that take a row of one's own, anywhere among their arguments, and hand back one; nil as such a row. No program. -/
namespace Go.Proofs.Ytdedddmnacomfaa
set_option maxRecDepth 100000
set_option linter.unusedVariables false
set_option linter.unusedSimpArgs false
open Go.RowKit
/-- As locX, the row wherever it stands among the arguments (there as .own 0). -/
def locY {α : Type} (e : TypeId) (s : Nat) (args : α → List PV) (B : α → MB) (pre : α → Prop) (post : α → List (List PV) → Prop) : AC := fun as mem n K =>
  ∃ x i, as = renL (fun _ => i) (args x) ∧ pre x ∧ mem i = some (B x) ∧ ∀ es, post x es → K (.own n) (upd (upd mem i none) n (some (.row e s es))) (n + 1)
section
variable {P : Program} {Γ : Ctr} {G : PCtr} {α : Type} {args : α → List PV} {B : α → MB} {pre : α → Prop}
theorem locY_ok {e : TypeId} {s : Nat} {post : α → List (List PV) → Prop} (m : Nat) (hΓ : ∀ f C, Γ f = some C → ACok P f C) (hG : ∀ f R, G f = some R → PureOk P f R) (hm : P.follows .mixedOrders = true) {f : FuncId} {fn : Func} {code : Code} (rs : List ResultVar) (hf : P.funcs[f]? = some fn) (hb : fn.body = some code) (hrs : fn.results.toList = rs) (hN : codeN fn.ntmps code = true)
    (hname : (fn.name == "runtime.NumGoroutine") = false) (hl : ∀ x, (args x).length = m) (hle : Nat.ble m fn.ntmps = true) (hca : ∀ x, nmbL 1 (args x) = true) (hcb : ∀ x, (B x).nmb 0 = true)
    (h : ∀ x K, pre x → (∀ es, post x es → K es) → awp P G Γ 1 code (FinX P rs K e s) (entry (args x) (mkM [(0, B x)]) 1)) : ACok P f (locY e s args B pre post) := by
  subst hrs
  refine ⟨⟨fn, hf, by rw [hb]; rfl, hname⟩, fun c mem n as vs K hI hn hr hC => ?_⟩
  obtain ⟨x, i, rfl, hp, hi, hK⟩ := hC
  have hin := name_lt hI hn hi
  have hr1 := repL_oneG hr (hca x)
  refine (calls_of_body hΓ hG hm hf hb hN (hI.one hi (hcb x)) (Names.one hn) hr1 (by rw [hl x]; exact Nat.le_of_ble_eq_true hle) (K := fun r mem _ => ∃ j es, r = .own j ∧ mem j = some (.row e s es) ∧ post x es) (h x (fun es => post x es) hp (fun _ h => h))).mono ?_
  rintro e w' ⟨v', r, c1, m1, k1, rfl, rfl, ⟨j, es, rfl, hj, hpost⟩, st, hrep⟩
  have hrj : c1.ρ j = some v' := by unfold Rep at hrep; exact hrep
  have hnm : mem n = none := free_mem hI hn
  refine ⟨v', _, ⟨c1.w, c1.fz, upd c.ρ n (some v')⟩, _, _, rfl, rfl, hK _ hpost, ?_, by unfold Rep; exact upd_same _ _ _⟩
  refine Step.lift hI hn hi (hcb x) st (fun l => if l = n then some j else none) ?_ ?_ ?_ (fun l hl => upd_other _ _ (by omega)) (fun l hl => by rw [upd_other _ _ (by omega)]; exact hn.1 l (by omega)) ?_ ?_ (.inr rfl)
  · intro l a hl
    by_cases e' : l = n
    · exact .inr e'
    · rw [if_neg e'] at hl; cases hl
  · intro l l' a hl hl'
    by_cases e1 : l = n
    · by_cases e2 : l' = n
      · rw [e1, e2]
      · rw [if_neg e2] at hl'; cases hl'
    · rw [if_neg e1] at hl; cases hl
  · intro l mb hl
    by_cases e : l = n
    · subst e; rw [upd_same] at hl; cases hl
      exact .inl ⟨j, if_pos rfl, hj, rfl⟩
    · rw [upd_other _ _ e] at hl
      by_cases e' : l = i
      · subst e'; rw [upd_same] at hl; cases hl
      · rw [upd_other _ _ e'] at hl
        exact .inr ⟨if_neg e, e', e, hl⟩
  · intro a ha
    rw [if_pos rfl] at ha; cases ha
    rw [upd_same]; exact hrj.symm
  · intro v hv; rw [upd_same] at hv; cases hv; exact st.free.2 _ _ hrj
end
theorem locY_never {P : Program} {f : FuncId} {α : Type} {e : TypeId} {s : Nat} {args : α → List PV} {B : α → MB} {pre : α → Prop} {post : α → List (List PV) → Prop} (hf : ∃ fn, P.funcs[f]? = some fn ∧ fn.body.isNone = false ∧ (fn.name == "runtime.NumGoroutine") = false) (h : ∀ x, ¬ pre x) : ACok P f (locY e s args B pre post) :=
  ⟨hf, fun c mem n as vs K hI hn hr hC => by
    obtain ⟨x, i, _, hp, _⟩ := hC
    exact absurd hp (h x)⟩
/-- nil is an empty row of one's own. -/
theorem Step.nilRow {c : Cx} {mem : Mem} {n : Nat} (e : TypeId) (s : Nat) (hI : InvM c mem) (hn : Names c n) :
    ∃ c', c'.w = c.w ∧ Step c mem n c' (upd mem n (some (.row e s []))) (n + 1) ∧ Rep (.own n) c' (.slice none 0 0) := by
  obtain ⟨c', hw, st, hrep, _⟩ := new_row (es := []) (vs := []) (e := e) (s := s) hI hn none (w' := c.w) (v := .slice none 0 0) rfl rfl rfl (Nat.le_refl _) (fun j hj => by cases hj) (fun _ _ _ => rfl) ⟨by simp, .inl ⟨rfl, rfl⟩⟩ (by rw [List.flatten_nil, RepL.nil_iff]) ⟨by simp, by simp⟩ (fun b hb => by cases hb)
  exact ⟨c', hw, st, hrep⟩
end Go.Proofs.Ytdedddmnacomfaa
