/- States behind parts, faults of parts: as data. No program. -/
import Derived.Test.YtcagfbgplpokkaaFM
import Derived.Test.YtcagfbgplpokkaaFP
namespace Go.Proofs.Ytcagfbgplpokkaa
set_option maxRecDepth 100000
set_option linter.unusedVariables false
set_option linter.unusedSimpArgs false
open Go.RowKit

mutual
/-- The state behind a part, not yet asked whether it is bad. -/
def chkP (s : St) : PartD → St
  | .mk k t _ ps os => if k = 1 then afterS s t else if k = 2 then behindM s else if k = 4 then (if chkL s ps = s then s else bad) else (if chkL s ps = chkL s os then chkL s ps else bad)
def chkL (s : St) : List PartD → St
  | [] => s
  | x :: xs => if (chkP s x).mode = 15 then bad else chkL (chkP s x) xs
end
theorem chkP_mk (s : St) (k : Int) (t n : Bs) (ps os : List PartD) : chkP s (.mk k t n ps os) = if k = 1 then afterS s t else if k = 2 then behindM s else if k = 4 then (if chkL s ps = s then s else bad) else (if chkL s ps = chkL s os then chkL s ps else bad) := by rw [chkP]
theorem chkL_nil (s : St) : chkL s [] = s := by rw [chkL]
theorem chkL_cons (s : St) (x : PartD) (xs : List PartD) : chkL s (x :: xs) = if (chkP s x).mode = 15 then bad else chkL (chkP s x) xs := by rw [chkL]
mutual
theorem stV_chkP : ∀ (x : PartD) (s : St), stV s = true → stV (chkP s x) = true
  | .mk k t n ps os, s, h => by
    rw [chkP_mk]
    split
    · exact stV_afterS s t
    split
    · exact stV_behind s
    split
    · split
      · exact h
      · exact stV_bad
    · split
      · exact stV_chkL ps s h
      · exact stV_bad
theorem stV_chkL : ∀ (xs : List PartD) (s : St), stV s = true → stV (chkL s xs) = true
  | [], s, h => by rw [chkL_nil]; exact h
  | x :: xs, s, h => by
    rw [chkL_cons]
    split
    · exact stV_bad
    · exact stV_chkL xs _ (stV_chkP x s h)
end
theorem chkL_append (xs ys : List PartD) : ∀ s : St, s.mode ≠ 15 → chkL s (xs ++ ys) = if (chkL s xs).mode = 15 then bad else chkL (chkL s xs) ys := by
  induction xs with
  | nil => intro s h; rw [List.nil_append, chkL_nil, if_neg h]
  | cons x xs ih =>
    intro s h
    rw [List.cons_append, chkL_cons, chkL_cons]
    split
    · rfl
    · rename_i hm; exact ih _ hm
theorem mode15 {s : St} (h : stV s = true) (hm : s.mode = 15) : s = bad := by
  have h1 := stV_tag0 h (by omega)
  have h2 := stV_attr0 h (by omega)
  have h3 := stV_seen0 h (by omega)
  cases s
  simp only at hm h1 h2 h3
  subst hm h1 h2 h3
  rfl
theorem placeM_bad : placeM bad = 0 := by decide
theorem behindM_bad : behindM bad = bad := by decide
theorem afterS_bad (t : Bs) : afterS bad t = bad := by unfold afterS; rw [if_pos stV_bad, run_bad]
mutual
theorem chkP_bad : ∀ x : PartD, chkP bad x = bad
  | .mk k t n ps os => by
    rw [chkP_mk, afterS_bad, behindM_bad, chkL_bad ps, chkL_bad os]
    simp
theorem chkL_bad : ∀ xs : List PartD, chkL bad xs = bad
  | [] => chkL_nil _
  | x :: xs => by rw [chkL_cons, chkP_bad x]; rfl
end
/-- Behind the first k+1 parts. -/
theorem chkL_snoc {s : St} {xs : List PartD} {k : Nat} {x : PartD} (h : xs[k]? = some x) (hs : s.mode ≠ 15) (hm : (chkL s (xs.take k)).mode ≠ 15) : chkL s (xs.take (k + 1)) = if (chkP (chkL s (xs.take k)) x).mode = 15 then bad else chkP (chkL s (xs.take k)) x := by
  rw [take_snoc' h, chkL_append _ _ _ hs, if_neg hm, chkL_cons, chkL_nil]
theorem chkL_stop {s : St} {xs : List PartD} {k : Nat} {x : PartD} (h : xs[k]? = some x) (hs : s.mode ≠ 15) (hm : (chkL s (xs.take k)).mode ≠ 15) (hb : (chkP (chkL s (xs.take k)) x).mode = 15) : chkL s xs = bad := by
  have h1 := chkL_snoc h hs hm
  rw [if_pos hb] at h1
  have h2 := chkL_append (xs.take (k + 1)) (xs.drop (k + 1)) s hs
  rw [List.take_append_drop, h1, if_pos (show bad.mode = 15 from rfl)] at h2
  exact h2
theorem chkL_split (xs : List PartD) (k : Nat) (s : St) (h : stV s = true) : chkL (chkL s (xs.take k)) (xs.drop k) = chkL s xs := by
  by_cases hs : s.mode = 15
  · rw [mode15 h hs, chkL_bad, chkL_bad, chkL_bad]
  · have h2 := chkL_append (xs.take k) (xs.drop k) s hs
    rw [List.take_append_drop] at h2
    rw [h2]
    split
    · rename_i hm
      rw [mode15 (stV_chkL _ _ h) hm, chkL_bad]
    · rfl

/-! ### Faults -/
mutual
/-- The state behind a part, and its first fault. -/
def fltP (s : St) : PartD → St × Int
  | .mk k t _ ps os =>
    if k = 1 then (afterS s t, if (afterS s t).mode = 15 then 1 else 0)
    else if k = 2 then (behindM s, if placeM s = 0 then 2 else 0)
    else if (fltL s ps).2 ≠ 0 then fltL s ps
    else if k = 4 then (if (fltL s ps).1 = s then (s, 0) else (bad, 4))
    else if (fltL s os).2 ≠ 0 then fltL s os
    else if (fltL s ps).1 = (fltL s os).1 then ((fltL s ps).1, 0) else (bad, 3)
def fltL (s : St) : List PartD → St × Int
  | [] => (s, 0)
  | x :: xs => if (fltP s x).2 ≠ 0 then fltP s x else fltL (fltP s x).1 xs
end
theorem fltP_mk (s : St) (k : Int) (t n : Bs) (ps os : List PartD) : fltP s (.mk k t n ps os) =
    if k = 1 then (afterS s t, if (afterS s t).mode = 15 then 1 else 0)
    else if k = 2 then (behindM s, if placeM s = 0 then 2 else 0)
    else if (fltL s ps).2 ≠ 0 then fltL s ps
    else if k = 4 then (if (fltL s ps).1 = s then (s, 0) else (bad, 4))
    else if (fltL s os).2 ≠ 0 then fltL s os
    else if (fltL s ps).1 = (fltL s os).1 then ((fltL s ps).1, 0) else (bad, 3) := by rw [fltP]
theorem fltL_nil (s : St) : fltL s [] = (s, 0) := by rw [fltL]
theorem fltL_cons (s : St) (x : PartD) (xs : List PartD) : fltL s (x :: xs) = if (fltP s x).2 ≠ 0 then fltP s x else fltL (fltP s x).1 xs := by rw [fltL]
theorem fltL_append (xs ys : List PartD) : ∀ s : St, fltL s (xs ++ ys) = if (fltL s xs).2 ≠ 0 then fltL s xs else fltL (fltL s xs).1 ys := by
  induction xs with
  | nil => intro s; rw [List.nil_append, fltL_nil]; simp
  | cons x xs ih =>
    intro s
    rw [List.cons_append, fltL_cons, fltL_cons]
    split
    · first | rfl | (rename_i h; rw [if_pos h])
    · exact ih _
theorem fltL_snoc {s : St} {xs : List PartD} {k : Nat} {x : PartD} (h : xs[k]? = some x) (h0 : (fltL s (xs.take k)).2 = 0) : fltL s (xs.take (k + 1)) = fltP (fltL s (xs.take k)).1 x := by
  rw [take_snoc' h, fltL_append, if_neg (by rw [h0]; simp), fltL_cons, fltL_nil]
  generalize fltP (fltL s (xs.take k)).1 x = y
  obtain ⟨a, b⟩ := y
  split
  · rfl
  · rename_i hh; simp at hh; rw [hh]
theorem fltL_stop {s : St} {xs : List PartD} {k : Nat} {x : PartD} (h : xs[k]? = some x) (h0 : (fltL s (xs.take k)).2 = 0) (hb : (fltP (fltL s (xs.take k)).1 x).2 ≠ 0) : fltL s xs = fltP (fltL s (xs.take k)).1 x := by
  have h1 := fltL_snoc h h0
  have h2 := fltL_append (xs.take (k + 1)) (xs.drop (k + 1)) s
  rw [List.take_append_drop] at h2
  rw [h2, h1, if_pos hb]
theorem behind_mode {s : St} (h : placeM s ≠ 0) : (behindM s).mode ≠ 15 := by
  unfold behindM
  rw [if_neg h]
  have hm : s.mode = 0 ∨ s.mode = 12 ∨ s.mode = 6 ∨ s.mode = 7 := by
    unfold placeM at h
    split at h
    · exact absurd rfl h
    split at h
    · omega
    split at h
    · omega
    split at h
    · omega
    · exact absurd rfl h
  split
  · dsimp only; omega
  · omega
mutual
/-- Without a fault the state is that of CheckParts, and not bad; with one that is bad. -/
theorem flt_chkP : ∀ (d : Nat) (x : PartD) (s : St), gdP d x = true → s.mode ≠ 15 → ((fltP s x).2 = 0 → chkP s x = (fltP s x).1 ∧ (fltP s x).1.mode ≠ 15) ∧ ((fltP s x).2 ≠ 0 → (chkP s x).mode = 15)
  | d, .mk k t n ps os, s, hg, hs => by
    have hps := fun h => flt_chkL (d - 1) false ps s h hs
    have hos := fun h => flt_chkL (d - 1) false os s h hs
    rw [fltP_mk, chkP_mk]
    rw [gdP_mk] at hg
    by_cases h1 : k = 1
    · rw [if_pos h1, if_pos h1]
      by_cases hm : (afterS s t).mode = 15
      · simp [hm]
      · simp [hm]
    rw [if_neg h1, if_neg h1]
    rw [if_neg h1] at hg
    by_cases h2 : k = 2
    · rw [if_pos h2, if_pos h2]
      by_cases hm : placeM s = 0
      · have : behindM s = bad := by unfold behindM; rw [if_pos hm]
        simp [hm, this]; rfl
      · have := behind_mode hm
        simp [hm, this]
    rw [if_neg h2, if_neg h2]
    rw [if_neg h2] at hg
    by_cases h3 : k = 3 ∨ k = 4
    · rw [if_pos h3] at hg
      simp only [Bool.and_eq_true] at hg
      have hp := hps hg.1.2
      have ho := hos hg.2
      by_cases f1 : (fltL s ps).2 = 0
      · rw [if_neg (by rw [f1]; simp)]
        obtain ⟨p1, p2⟩ := hp.1 f1
        by_cases h4 : k = 4
        · rw [if_pos h4, if_pos h4, p1]
          by_cases e : (fltL s ps).1 = s
          · simp [e, hs]
          · simp [e]; rfl
        · rw [if_neg h4, if_neg h4]
          by_cases f2 : (fltL s os).2 = 0
          · rw [if_neg (by rw [f2]; simp)]
            obtain ⟨q1, q2⟩ := ho.1 f2
            rw [p1, q1]
            by_cases e : (fltL s ps).1 = (fltL s os).1
            · rw [if_pos e, if_pos e]; exact ⟨fun _ => ⟨rfl, p2⟩, fun h => absurd rfl h⟩
            · rw [if_neg e, if_neg e]; exact ⟨fun h => absurd h (by decide), fun _ => rfl⟩
          · rw [if_pos f2]
            refine ⟨fun h => absurd h f2, fun _ => ?_⟩
            rw [p1]
            split
            · rename_i e; rw [e]; exact ho.2 f2
            · rfl
      · rw [if_pos f1]
        refine ⟨fun h => absurd h f1, fun _ => ?_⟩
        have hb := hp.2 f1
        by_cases h4 : k = 4
        · rw [if_pos h4]
          split
          · rename_i e; rw [e] at hb; exact absurd hb hs
          · rfl
        · rw [if_neg h4]
          split
          · exact hb
          · rfl
    · rw [if_neg h3] at hg
      cases hg
theorem flt_chkL : ∀ (d : Nat) (b : Bool) (xs : List PartD) (s : St), gdL d b xs = true → s.mode ≠ 15 → ((fltL s xs).2 = 0 → chkL s xs = (fltL s xs).1 ∧ (fltL s xs).1.mode ≠ 15) ∧ ((fltL s xs).2 ≠ 0 → (chkL s xs).mode = 15)
  | d, b, [], s, _, hs => by
    rw [fltL_nil, chkL_nil]
    exact ⟨fun _ => ⟨rfl, hs⟩, fun h => absurd rfl h⟩
  | d, b, x :: xs, s, hg, hs => by
    rw [fltL_cons, chkL_cons]
    rw [gdL] at hg
    simp only [Bool.and_eq_true] at hg
    have h1 := flt_chkP d x s hg.1.1 hs
    by_cases f1 : (fltP s x).2 = 0
    · obtain ⟨p1, p2⟩ := h1.1 f1
      rw [if_neg (by rw [f1]; simp), p1, if_neg p2]
      exact flt_chkL d _ xs _ hg.2 p2
    · rw [if_pos f1, if_pos (h1.2 f1)]
      exact ⟨fun h => absurd h f1, fun _ => rfl⟩
end
/-- What TemplateFault tells. -/
def faultM (xs : List PartD) : Int := if partsB xs = true then (if (fltL st0 xs).2 = 0 ∧ (fltL st0 xs).1 ≠ st0 then 5 else (fltL st0 xs).2) else -1
def safeM (xs : List PartD) : Bool := partsB xs && decide (chkL st0 xs = st0)
def checkM (s : St) (xs : List PartD) : St := if partsB xs = true ∧ stV s = true then chkL s xs else bad
theorem fault_safe {xs : List PartD} (h : partsB xs = true) : (faultM xs = 0) ↔ safeM xs = true := by
  unfold faultM safeM
  rw [if_pos h, h, Bool.true_and, decide_eq_true_eq]
  unfold partsB at h
  simp only [Bool.and_eq_true] at h
  have := flt_chkL 3 false xs st0 h.2 (by decide)
  by_cases f : (fltL st0 xs).2 = 0
  · obtain ⟨p1, p2⟩ := this.1 f
    rw [p1]
    by_cases e : (fltL st0 xs).1 = st0
    · simp [e, f]
    · simp [e, f]
  · have hb := this.2 f
    rw [if_neg (by rintro ⟨h, _⟩; exact f h)]
    refine ⟨fun h => absurd h f, fun h => ?_⟩
    rw [h] at hb
    exact absurd hb (by decide)
end Go.Proofs.Ytcagfbgplpokkaa
