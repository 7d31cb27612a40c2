/- Data; what comes when parts are filled in: as data. No program. -/
import Derived.Test.YtoocbpendccngaaZFP
import Derived.Test.YtoocbpendccngaaZK2

namespace Go.Proofs.Ytoocbpendccngaa
set_option maxRecDepth 100000
set_option linter.unusedVariables false
set_option linter.unusedSimpArgs false
open Go.RowKit
structure FieldD where
  name : Bs
  text : Bs
  holds : Bool
  items : List Bs
  deriving DecidableEq
inductive Ev where
  | txt (t : Bs)
  | hole (f : FieldD) (s : St)
theorem chk_take {xs : List PartD} {s : St} (hs : stV s = true) (hm : (chkL s xs).mode ≠ 15) (k : Nat) : (chkL s (xs.take k)).mode ≠ 15 := by
  intro h
  have h2 := chkL_split xs k s hs
  rw [mode15 (stV_chkL _ _ hs) h, chkL_bad] at h2
  rw [← h2] at hm
  exact hm rfl
theorem gdL_take {d : Nat} {b : Bool} {xs : List PartD} (h : gdL d b xs = true) (k : Nat) : gdL d b (xs.take k) = true := by
  rw [← List.take_append_drop k xs, gdL_append] at h
  simp only [Bool.and_eq_true] at h
  exact h.1
end Go.Proofs.Ytoocbpendccngaa

/- What is filled in: the state behind it; its parts; the holes' texts in it. Plain. -/
namespace Go.Proofs.Ytoocbpendccngaa
set_option maxRecDepth 100000
set_option linter.unusedVariables false
set_option linter.unusedSimpArgs false
open Go.RowKit
theorem place_mode {s : St} (h : placeM s ≠ 0) : s.mode = 0 ∧ placeM s = 1 ∨ s.mode = 12 ∧ placeM s = 5 ∨ (s.mode = 6 ∨ s.mode = 7) ∧ 2 ≤ placeM s ∧ placeM s ≤ 4 := by
  have hv := placeM_stV h
  unfold placeM at h ⊢
  rw [if_neg (by rw [hv]; decide)] at h ⊢
  by_cases h0 : s.mode = 0
  · rw [if_pos h0]; exact .inl ⟨h0, rfl⟩
  rw [if_neg h0] at h ⊢
  by_cases h1 : s.mode = 12
  · rw [if_pos h1]; exact .inr (.inl ⟨h1, rfl⟩)
  rw [if_neg h1] at h ⊢
  by_cases h2 : s.mode = 6 ∨ s.mode = 7
  · rw [if_pos h2] at h ⊢
    refine .inr (.inr ⟨h2, ?_⟩)
    split at h
    · exact absurd rfl h
    · rename_i h3
      (repeat' split) <;> first | omega | contradiction
  · rw [if_neg h2] at h; exact absurd rfl h
theorem safe_parts {xs : List PartD} (h : safeM xs = true) : partsB xs = true ∧ gdL 3 false xs = true ∧ chkL st0 xs = st0 ∧ (chkL st0 xs).mode ≠ 15 := by
  unfold safeM at h
  simp only [Bool.and_eq_true, decide_eq_true_eq] at h
  have h2 := h.1
  unfold partsB at h2
  simp only [Bool.and_eq_true] at h2
  exact ⟨h.1, h2.2, h.2, by rw [h.2]; decide⟩
end Go.Proofs.Ytoocbpendccngaa

/- Holes of parts with their states; what is chosen of filled holes. Plain. -/
namespace Go.Proofs.Ytoocbpendccngaa
set_option maxRecDepth 100000
set_option linter.unusedVariables false
set_option linter.unusedSimpArgs false
open Go.RowKit
mutual
/-- The holes of a part: the name, and the state before each; and the state behind the part. -/
def wkP (s : St) : PartD → List (Bs × St) × St
  | .mk k t n ps os =>
    if k = 1 then ([], afterS s t)
    else if k = 2 then ([(n, s)], behindM s)
    else if k = 3 then ((wkL s ps).1 ++ (wkL s os).1, (wkL s ps).2)
    else if k = 4 then ((wkL s ps).1, s)
    else ([], s)
def wkL (s : St) : List PartD → List (Bs × St) × St
  | [] => ([], s)
  | x :: xs => ((wkP s x).1 ++ (wkL (wkP s x).2 xs).1, (wkL (wkP s x).2 xs).2)
end
theorem wkP_mk (s : St) (k : Int) (t n : Bs) (ps os : List PartD) : wkP s (.mk k t n ps os) =
    if k = 1 then ([], afterS s t)
    else if k = 2 then ([(n, s)], behindM s)
    else if k = 3 then ((wkL s ps).1 ++ (wkL s os).1, (wkL s ps).2)
    else if k = 4 then ((wkL s ps).1, s)
    else ([], s) := by rw [wkP]
theorem wkL_nil (s : St) : wkL s [] = ([], s) := by rw [wkL]
theorem wkL_cons (s : St) (x : PartD) (xs : List PartD) : wkL s (x :: xs) = ((wkP s x).1 ++ (wkL (wkP s x).2 xs).1, (wkL (wkP s x).2 xs).2) := by rw [wkL]
theorem wkL_append : ∀ (xs ys : List PartD) (s : St), wkL s (xs ++ ys) = ((wkL s xs).1 ++ (wkL (wkL s xs).2 ys).1, (wkL (wkL s xs).2 ys).2)
  | [], ys, s => by simp [wkL_nil]
  | x :: xs, ys, s => by rw [List.cons_append, wkL_cons, wkL_cons, wkL_append xs ys, List.append_assoc]
theorem wkL_snoc {s : St} {xs : List PartD} {k : Nat} {x : PartD} (h : xs[k]? = some x) : wkL s (xs.take (k + 1)) = ((wkL s (xs.take k)).1 ++ (wkP (wkL s (xs.take k)).2 x).1, (wkP (wkL s (xs.take k)).2 x).2) := by
  rw [take_snoc' h, wkL_append, wkL_cons, wkL_nil, List.append_nil]
mutual
theorem wk_chkP : ∀ (x : PartD) (d : Nat) (s : St), gdP d x = true → (chkP s x).mode ≠ 15 → (wkP s x).2 = chkP s x
  | .mk k t n ps os, d, s, hg, hm => by
    rw [gdP_mk] at hg
    rw [chkP_mk] at hm ⊢
    rw [wkP_mk]
    by_cases k1 : k = 1
    · rw [if_pos k1, if_pos k1]
    rw [if_neg k1] at hg hm
    rw [if_neg k1, if_neg k1]
    by_cases k2 : k = 2
    · rw [if_pos k2, if_pos k2]
    rw [if_neg k2] at hg hm
    rw [if_neg k2, if_neg k2]
    by_cases k34 : k = 3 ∨ k = 4
    · rw [if_pos k34] at hg
      simp only [Bool.and_eq_true] at hg
      by_cases k4 : k = 4
      · rw [if_pos k4] at hm ⊢
        rw [if_neg (show ¬ k = 3 by omega), if_pos k4]
        by_cases e : chkL s ps = s
        · rw [if_pos e]
        · rw [if_neg e] at hm; exact absurd rfl hm
      · rw [if_pos (show k = 3 by omega)]
        rw [if_neg k4] at hm ⊢
        by_cases e : chkL s ps = chkL s os
        · rw [if_pos e] at hm ⊢
          exact wk_chkL ps (d - 1) s false hg.1.2 hm
        · rw [if_neg e] at hm; exact absurd rfl hm
    · rw [if_neg k34] at hg; cases hg
theorem wk_chkL : ∀ (xs : List PartD) (d : Nat) (s : St) (b : Bool), gdL d b xs = true → (chkL s xs).mode ≠ 15 → (wkL s xs).2 = chkL s xs
  | [], d, s, b, _, _ => by rw [wkL_nil, chkL_nil]
  | x :: xs, d, s, b, hg, hm => by
    rw [gdL] at hg
    simp only [Bool.and_eq_true] at hg
    rw [chkL_cons] at hm ⊢
    rw [wkL_cons]
    by_cases e : (chkP s x).mode = 15
    · rw [if_pos e] at hm; exact absurd rfl hm
    · rw [if_neg e] at hm ⊢
      have := wk_chkP x d s hg.1.1 e
      dsimp only
      rw [this]
      exact wk_chkL xs d _ _ hg.2 hm
end
/-- The children of a part that is no bad one lead to no bad state. -/
theorem kids_chk {s : St} {k : Int} {t n : Bs} {ps os : List PartD} (hm : (chkP s (.mk k t n ps os)).mode ≠ 15) (hk : k = 3 ∨ k = 4) : (chkL s ps).mode ≠ 15 ∧ (k = 3 → chkL s os = chkL s ps) ∧ (k = 4 → chkL s ps = s) := by
  rw [chkP_mk, if_neg (by omega), if_neg (by omega)] at hm
  by_cases k4 : k = 4
  · rw [if_pos k4] at hm
    by_cases e : chkL s ps = s
    · rw [if_pos e] at hm; exact ⟨by rw [e]; exact hm, fun h => by omega, fun _ => e⟩
    · rw [if_neg e] at hm; exact absurd rfl hm
  · rw [if_neg k4] at hm
    by_cases e : chkL s ps = chkL s os
    · rw [if_pos e] at hm; exact ⟨hm, fun _ => e.symm, fun h => absurd h k4⟩
    · rw [if_neg e] at hm; exact absurd rfl hm
mutual
theorem wk_placeP : ∀ (x : PartD) (d : Nat) (s : St), gdP d x = true → (chkP s x).mode ≠ 15 → ∀ h ∈ (wkP s x).1, placeM h.2 ≠ 0
  | .mk k t n ps os, d, s, hg, hm => by
    have hk := @kids_chk s k t n ps os hm
    rw [gdP_mk] at hg
    rw [wkP_mk]
    by_cases k1 : k = 1
    · rw [if_pos k1]; simp
    rw [if_neg k1] at hg ⊢
    by_cases k2 : k = 2
    · rw [if_pos k2]
      intro h hh
      simp only [List.mem_singleton] at hh
      subst hh
      rw [chkP_mk, if_neg k1, if_pos k2] at hm
      intro hp
      have : behindM s = bad := by unfold behindM; rw [if_pos hp]
      rw [this] at hm
      exact hm rfl
    rw [if_neg k2] at hg ⊢
    by_cases k34 : k = 3 ∨ k = 4
    · rw [if_pos k34] at hg
      simp only [Bool.and_eq_true] at hg
      obtain ⟨h1, h2, h3⟩ := hk k34
      by_cases k3 : k = 3
      · rw [if_pos k3]
        intro h hh
        rcases List.mem_append.1 hh with hh | hh
        · exact wk_placeL ps (d - 1) s false hg.1.2 h1 h hh
        · exact wk_placeL os (d - 1) s false hg.2 (by rw [h2 k3]; exact h1) h hh
      · rw [if_neg k3, if_pos (show k = 4 by omega)]
        exact wk_placeL ps (d - 1) s false hg.1.2 h1
    · rw [if_neg k34] at hg; cases hg
theorem wk_placeL : ∀ (xs : List PartD) (d : Nat) (s : St) (b : Bool), gdL d b xs = true → (chkL s xs).mode ≠ 15 → ∀ h ∈ (wkL s xs).1, placeM h.2 ≠ 0
  | [], d, s, b, _, _ => by rw [wkL_nil]; simp
  | x :: xs, d, s, b, hg, hm => by
    rw [gdL] at hg
    simp only [Bool.and_eq_true] at hg
    rw [chkL_cons] at hm
    rw [wkL_cons]
    by_cases e : (chkP s x).mode = 15
    · rw [if_pos e] at hm; exact absurd rfl hm
    · rw [if_neg e] at hm
      intro h hh
      rcases List.mem_append.1 hh with hh | hh
      · exact wk_placeP x d s hg.1.1 e h hh
      · rw [wk_chkP x d s hg.1.1 e] at hh
        exact wk_placeL xs d _ _ hg.2 hm h hh
end
mutual
/-- The number of holes. -/
def hlP : PartD → Nat
  | .mk k _ _ ps os => (if k = 2 then 1 else 0) + hlL ps + hlL os
def hlL : List PartD → Nat
  | [] => 0
  | x :: xs => hlP x + hlL xs
end
theorem hlP_mk (k : Int) (t n : Bs) (ps os : List PartD) : hlP (.mk k t n ps os) = (if k = 2 then 1 else 0) + hlL ps + hlL os := by rw [hlP]
theorem hlL_nil : hlL [] = 0 := by rw [hlL]
theorem hlL_cons (x : PartD) (xs : List PartD) : hlL (x :: xs) = hlP x + hlL xs := by rw [hlL]
theorem hlL_append : ∀ xs ys : List PartD, hlL (xs ++ ys) = hlL xs + hlL ys
  | [], ys => by rw [List.nil_append, hlL_nil, Nat.zero_add]
  | x :: xs, ys => by rw [List.cons_append, hlL_cons, hlL_cons, hlL_append xs ys, Nat.add_assoc]
theorem hlL_snoc {xs : List PartD} {k : Nat} {x : PartD} (h : xs[k]? = some x) : hlL (xs.take (k + 1)) = hlL (xs.take k) + hlP x := by
  rw [take_snoc' h, hlL_append, hlL_cons, hlL_nil]; omega
mutual
theorem hlP_le : ∀ x : PartD, hlP x ≤ 1 + wtP x
  | .mk k t n ps os => by
    have h1 := hlL_le ps
    have h2 := hlL_le os
    rw [hlP_mk, wtP_mk]
    split <;> omega
theorem hlL_le : ∀ xs : List PartD, hlL xs ≤ wtL xs
  | [] => by rw [hlL_nil]; omega
  | x :: xs => by
    have h1 := hlP_le x
    have h2 := hlL_le xs
    rw [hlL_cons, show x :: xs = [x] ++ xs from rfl, wtL_append, wtL_one]; omega
end
mutual
theorem wk_lenP : ∀ (x : PartD) (d : Nat) (s : St), gdP d x = true → (wkP s x).1.length = hlP x
  | .mk k t n ps os, d, s, hg => by
    rw [gdP_mk] at hg
    rw [wkP_mk, hlP_mk]
    by_cases k1 : k = 1
    · rw [if_pos k1] at hg ⊢
      simp only [Bool.and_eq_true, decide_eq_true_eq] at hg
      obtain ⟨⟨_, rfl⟩, rfl⟩ := hg
      rw [if_neg (by omega), hlL_nil]; rfl
    rw [if_neg k1] at hg ⊢
    by_cases k2 : k = 2
    · rw [if_pos k2] at hg ⊢
      simp only [Bool.and_eq_true, decide_eq_true_eq] at hg
      obtain ⟨⟨_, rfl⟩, rfl⟩ := hg
      rw [if_pos k2, hlL_nil]; rfl
    rw [if_neg k2] at hg ⊢
    rw [if_neg k2]
    by_cases k34 : k = 3 ∨ k = 4
    · rw [if_pos k34] at hg
      simp only [Bool.and_eq_true] at hg
      by_cases k3 : k = 3
      · rw [if_pos k3, List.length_append, wk_lenL ps (d - 1) s false hg.1.2, wk_lenL os (d - 1) s false hg.2]; omega
      · have k4 : k = 4 := by omega
        rw [if_neg k3, if_pos k4, wk_lenL ps (d - 1) s false hg.1.2]
        have : os = [] := by
          have := hg.1.1.1.2
          simpa [k4] using this
        rw [this, hlL_nil]; omega
    · rw [if_neg k34] at hg; cases hg
theorem wk_lenL : ∀ (xs : List PartD) (d : Nat) (s : St) (b : Bool), gdL d b xs = true → (wkL s xs).1.length = hlL xs
  | [], d, s, b, _ => by rw [wkL_nil, hlL_nil]; rfl
  | x :: xs, d, s, b, hg => by
    rw [gdL] at hg
    simp only [Bool.and_eq_true] at hg
    rw [wkL_cons, hlL_cons, List.length_append, wk_lenP x d s hg.1.1, wk_lenL xs d _ _ hg.2]
end
def plcL (s : St) (xs : List PartD) : List Int := (wkL s xs).1.map fun h => placeM h.2
def placesM (xs : List PartD) : List Int := if safeM xs = true then plcL st0 xs else []
def plcN (n : Bs) (l : List (Bs × St)) : List Int := (l.filter fun h => decide (h.1 = n)).map fun h => placeM h.2
def namePl (xs : List PartD) (n : Bs) : List Int := if safeM xs = true then plcN n (wkL st0 xs).1 else []
theorem placesM_bd {xs : List PartD} : ∀ p ∈ placesM xs, 1 ≤ p ∧ p ≤ 5 := by
  unfold placesM
  split
  · rename_i h
    obtain ⟨_, hg, _, hm⟩ := safe_parts h
    intro p hp
    obtain ⟨h', hh, rfl⟩ := List.mem_map.1 hp
    have h1 := wk_placeL xs 3 st0 false hg hm h' hh
    have h2 := placeM_bd h'.2
    omega
  · simp
theorem placesM_len {xs : List PartD} (h : safeM xs = true) : (placesM xs).length = hlL xs := by
  obtain ⟨_, hg, _, _⟩ := safe_parts h
  unfold placesM plcL
  rw [if_pos h, List.length_map, wk_lenL xs 3 st0 false hg]
theorem plcN_sub (n : Bs) (l : List (Bs × St)) : (plcN n l).Sublist (l.map fun h => placeM h.2) := List.Sublist.map _ List.filter_sublist
end Go.Proofs.Ytoocbpendccngaa

/- Simpler parts; parts put into others. Plain. -/
namespace Go.Proofs.Ytoocbpendccngaa
set_option maxRecDepth 100000
set_option linter.unusedVariables false
set_option linter.unusedSimpArgs false
open Go.RowKit
def PartD.txt : PartD → Bs
  | .mk _ t _ _ _ => t
/-- The text that stands at the end, if one does. -/
def endT : List PartD → Option Bs
  | [] => none
  | [.mk k t _ _ _] => if k = 1 then some t else none
  | _ :: y :: r => endT (y :: r)
/-- A text put behind the text at the end. -/
def joinT : List PartD → Bs → List PartD
  | [], _ => []
  | [.mk k t n a b], u => [.mk k (t ++ u) n a b]
  | x :: y :: r, u => x :: joinT (y :: r) u
def emptyK : PartD → Bool
  | .mk k _ _ ps os => (decide (k = 3) || decide (k = 4)) && decide (ps = []) && decide (os = [])
theorem endT_snoc : ∀ (xs : List PartD) (k : Int) (t n : Bs) (a b : List PartD), endT (xs ++ [.mk k t n a b]) = if k = 1 then some t else none
  | [], k, t, n, a, b => rfl
  | [x], k, t, n, a, b => by simp [endT]
  | x :: y :: r, k, t, n, a, b => by
    have := endT_snoc (y :: r) k t n a b
    simpa [endT] using this
theorem joinT_snoc : ∀ (xs : List PartD) (k : Int) (t n : Bs) (a b : List PartD) (u : Bs), joinT (xs ++ [.mk k t n a b]) u = xs ++ [.mk k (t ++ u) n a b]
  | [], k, t, n, a, b, u => rfl
  | [x], k, t, n, a, b, u => by simp [joinT]
  | x :: y :: r, k, t, n, a, b, u => by
    have := joinT_snoc (y :: r) k t n a b u
    simpa [joinT] using this
theorem endT_some {xs : List PartD} {t : Bs} (h : endT xs = some t) : ∃ ys n a b, xs = ys ++ [.mk 1 t n a b] := by
  rcases List.eq_nil_or_concat xs with rfl | ⟨ys, ⟨k, t', n, a, b⟩, rfl⟩
  · cases h
  · rw [List.concat_eq_append, endT_snoc] at h
    split at h
    · cases h; subst_vars; exact ⟨ys, n, a, b, List.concat_eq_append⟩
    · cases h
/-- A part put behind others, as the program does: none where a text would be too long. -/
def putS (out : List PartD) (p : PartD) : Option (List PartD) :=
  if emptyK p = true then some out
  else if p.kind = 1 then (match endT out with
    | some t => if (t ++ p.txt).length ≤ 600 then some (joinT out p.txt) else none
    | none => some (out ++ [p]))
  else some (out ++ [p])
/-- .. as the reference does: the text stands for itself there. -/
def putR (out : List PartD) (p : PartD) : List PartD :=
  if emptyK p = true then out
  else if p.kind = 1 then (match endT out with
    | some t => if (t ++ p.txt).length ≤ 600 then joinT out p.txt else out ++ [p]
    | none => out ++ [p])
  else out ++ [p]
mutual
def smP : PartD → Option PartD
  | .mk k t n ps os => match smG [] ps, smG [] os with
    | some a, some b => some (.mk k t n a b)
    | _, _ => none
def smG (out : List PartD) : List PartD → Option (List PartD)
  | [] => some out
  | x :: xs => match smP x with
    | none => none
    | some p => match putS out p with
      | none => none
      | some o => smG o xs
end
mutual
def srP : PartD → PartD
  | .mk k t n ps os => .mk k t n (srG [] ps) (srG [] os)
def srG (out : List PartD) : List PartD → List PartD
  | [] => out
  | x :: xs => srG (putR out (srP x)) xs
end
theorem smP_mk (k : Int) (t n : Bs) (ps os : List PartD) : smP (.mk k t n ps os) = match smG [] ps, smG [] os with
    | some a, some b => some (.mk k t n a b)
    | _, _ => none := by rw [smP]
theorem smG_nil (out : List PartD) : smG out [] = some out := by rw [smG]
theorem smG_cons (out : List PartD) (x : PartD) (xs : List PartD) : smG out (x :: xs) = match smP x with
    | none => none
    | some p => match putS out p with
      | none => none
      | some o => smG o xs := by rw [smG]
theorem srP_mk (k : Int) (t n : Bs) (ps os : List PartD) : srP (.mk k t n ps os) = .mk k t n (srG [] ps) (srG [] os) := by rw [srP]
theorem srG_nil (out : List PartD) : srG out [] = out := by rw [srG]
theorem srG_cons (out : List PartD) (x : PartD) (xs : List PartD) : srG out (x :: xs) = srG (putR out (srP x)) xs := by rw [srG]
theorem smG_append : ∀ (xs ys out : List PartD), smG out (xs ++ ys) = (smG out xs).bind fun o => smG o ys
  | [], ys, out => by rw [smG_nil]; rfl
  | x :: xs, ys, out => by
    rw [List.cons_append, smG_cons, smG_cons]
    cases smP x with
    | none => rfl
    | some p =>
      dsimp only
      cases putS out p with
      | none => rfl
      | some o => exact smG_append xs ys o
theorem smG_snoc {out : List PartD} {xs : List PartD} {k : Nat} {x : PartD} (h : xs[k]? = some x) : smG out (xs.take (k + 1)) = (smG out (xs.take k)).bind fun o => (smP x).bind fun p => putS o p := by
  rw [take_snoc' h, smG_append]
  congr 1
  funext o
  rw [smG_cons]
  cases smP x with
  | none => rfl
  | some p =>
    dsimp only
    show (match putS o p with | none => none | some o => smG o []) = putS o p
    cases putS o p with
    | none => rfl
    | some o' => exact smG_nil o'
theorem smG_stop {out : List PartD} {xs : List PartD} (k : Nat) (h : smG out (xs.take k) = none) : smG out xs = none := by
  have := smG_append (xs.take k) (xs.drop k) out
  rw [List.take_append_drop, h] at this
  exact this
theorem srG_append : ∀ (xs ys out : List PartD), srG out (xs ++ ys) = srG (srG out xs) ys
  | [], ys, out => by rw [srG_nil]; rfl
  | x :: xs, ys, out => by rw [List.cons_append, srG_cons, srG_cons, srG_append xs ys]
theorem srG_snoc {out : List PartD} {xs : List PartD} {k : Nat} {x : PartD} (h : xs[k]? = some x) : srG out (xs.take (k + 1)) = putR (srG out (xs.take k)) (srP x) := by
  rw [take_snoc' h, srG_append, srG_cons, srG_nil]
theorem putS_putR {out o : List PartD} {p : PartD} (h : putS out p = some o) : putR out p = o := by
  unfold putS at h
  unfold putR
  split at h
  · rename_i e; rw [if_pos e]; exact Option.some.inj h
  rename_i e
  rw [if_neg e]
  split at h
  · rename_i e1
    rw [if_pos e1]
    split at h
    · rename_i t ht
      split at h
      · rename_i hl; rw [if_pos hl]; exact Option.some.inj h
      · cases h
    · exact Option.some.inj h
  · rename_i e1; rw [if_neg e1]; exact Option.some.inj h
mutual
theorem smP_srP : ∀ (x p : PartD), smP x = some p → srP x = p
  | .mk k t n ps os, p, h => by
    rw [smP_mk] at h
    rw [srP_mk]
    split at h
    · rename_i a b h1 h2
      rw [smG_srG ps [] a h1, smG_srG os [] b h2]
      exact Option.some.inj h
    · cases h
theorem smG_srG : ∀ (xs out r : List PartD), smG out xs = some r → srG out xs = r
  | [], out, r, h => by rw [smG_nil] at h; rw [srG_nil]; exact Option.some.inj h
  | x :: xs, out, r, h => by
    rw [smG_cons] at h
    rw [srG_cons]
    split at h
    · cases h
    · rename_i p hp
      rw [smP_srP x p hp]
      split at h
      · cases h
      · rename_i o ho
        rw [putS_putR ho]
        exact smG_srG xs o r h
end
mutual
/-- Texts and holes have no parts within them; kinds are known. -/
def kidP : PartD → Prop
  | .mk k _ _ ps os => (k = 1 ∨ k = 2) ∧ ps = [] ∧ os = [] ∨ (k = 3 ∨ k = 4) ∧ kidL ps ∧ kidL os
def kidL : List PartD → Prop
  | [] => True
  | x :: xs => kidP x ∧ kidL xs
end
theorem kidP_mk (k : Int) (t n : Bs) (ps os : List PartD) : kidP (.mk k t n ps os) ↔ (k = 1 ∨ k = 2) ∧ ps = [] ∧ os = [] ∨ (k = 3 ∨ k = 4) ∧ kidL ps ∧ kidL os := by rw [kidP]
theorem kidL_cons (x : PartD) (xs : List PartD) : kidL (x :: xs) ↔ kidP x ∧ kidL xs := by rw [kidL]
theorem kidL_append : ∀ xs ys : List PartD, kidL (xs ++ ys) ↔ kidL xs ∧ kidL ys
  | [], ys => by simp [kidL]
  | x :: xs, ys => by rw [List.cons_append, kidL_cons, kidL_cons, kidL_append xs ys, and_assoc]
mutual
theorem gd_kidP : ∀ (x : PartD) (d : Nat), gdP d x = true → kidP x
  | .mk k t n ps os, d, h => by
    rw [gdP_mk] at h
    rw [kidP_mk]
    split at h
    · simp only [Bool.and_eq_true, decide_eq_true_eq] at h
      exact .inl ⟨.inl ‹_›, h.1.2, h.2⟩
    split at h
    · simp only [Bool.and_eq_true, decide_eq_true_eq] at h
      exact .inl ⟨.inr ‹_›, h.1.2, h.2⟩
    split at h
    · simp only [Bool.and_eq_true] at h
      exact .inr ⟨‹_›, gd_kidL ps _ _ h.1.2, gd_kidL os _ _ h.2⟩
    · cases h
theorem gd_kidL : ∀ (xs : List PartD) (d : Nat) (b : Bool), gdL d b xs = true → kidL xs
  | [], d, b, _ => by simp [kidL]
  | x :: xs, d, b, h => by
    rw [gdL] at h
    simp only [Bool.and_eq_true] at h
    rw [kidL_cons]
    exact ⟨gd_kidP x d h.1.1, gd_kidL xs d _ h.2⟩
end
/-- What no valid row holds: two texts side by side, or a PartIf or PartEach that is not valid. -/
def sick (l : List PartD) : Prop := (∃ xs x y ys, l = xs ++ x :: y :: ys ∧ x.kind = 1 ∧ y.kind = 1) ∨ ∃ x ∈ l, (x.kind = 3 ∨ x.kind = 4) ∧ ∀ d, gdP d x = false
theorem gdL_head {d : Nat} : ∀ {xs ys : List PartD} {b : Bool}, gdL d b (xs ++ ys) = true → ∃ b', gdL d b' ys = true
  | [], ys, b, h => ⟨b, h⟩
  | x :: xs, ys, b, h => by
    rw [List.cons_append, gdL] at h
    simp only [Bool.and_eq_true] at h
    exact gdL_head h.2
theorem sick_bad {l : List PartD} (h : sick l) (d : Nat) (b : Bool) : gdL d b l = false := by
  cases hg : gdL d b l with
  | false => rfl
  | true =>
    exfalso
    rcases h with ⟨xs, x, y, ys, rfl, hx, hy⟩ | ⟨x, hx, _, hf⟩
    · obtain ⟨b', hb⟩ := gdL_head hg
      rw [gdL, gdL] at hb
      simp only [Bool.and_eq_true, hx, hy, decide_true, Bool.true_and] at hb
      exact absurd hb.2.1.2 (by decide)
    · obtain ⟨xs, ys, rfl⟩ := List.append_of_mem hx
      obtain ⟨b', hb⟩ := gdL_head hg
      rw [gdL] at hb
      simp only [Bool.and_eq_true] at hb
      rw [hf d] at hb
      exact absurd hb.1.1 (by decide)
theorem joinT_kinds : ∀ (l : List PartD) (u : Bs), (joinT l u).map PartD.kind = l.map PartD.kind
  | [], u => rfl
  | [.mk k t n a b], u => rfl
  | x :: y :: r, u => by
    have := joinT_kinds (y :: r) u
    simp only [joinT, List.map_cons] at this ⊢
    rw [this]
theorem sick_snoc {l : List PartD} (h : sick l) (p : PartD) : sick (l ++ [p]) := by
  rcases h with ⟨xs, x, y, ys, rfl, hx, hy⟩ | ⟨x, hx, h⟩
  · exact .inl ⟨xs, x, y, ys ++ [p], by simp, hx, hy⟩
  · exact .inr ⟨x, by simp [hx], h⟩
theorem two_of_kinds {l l' : List PartD} (hk : l'.map PartD.kind = l.map PartD.kind) (h : ∃ xs x y ys, l = xs ++ x :: y :: ys ∧ x.kind = 1 ∧ y.kind = 1) : ∃ xs x y ys, l' = xs ++ x :: y :: ys ∧ x.kind = 1 ∧ y.kind = 1 := by
  obtain ⟨xs, x, y, ys, rfl, hx, hy⟩ := h
  rw [List.map_append, List.map_cons, List.map_cons] at hk
  obtain ⟨us, vs, rfl, h1, h2⟩ := List.map_eq_append_iff.1 hk
  obtain ⟨a, vs', rfl, h3, h4⟩ := List.map_eq_cons_iff.1 h2
  obtain ⟨b, cs, rfl, h5, h6⟩ := List.map_eq_cons_iff.1 h4
  exact ⟨us, a, b, cs, rfl, h3.trans hx, h5.trans hy⟩
theorem sick_join {l : List PartD} (h : sick l) {t : Bs} (ht : endT l = some t) (u : Bs) : sick (joinT l u) := by
  rcases h with h | ⟨x, hx, hk, hf⟩
  · exact .inl (two_of_kinds (joinT_kinds l u) h)
  · obtain ⟨ys, n, a, b, rfl⟩ := endT_some ht
    rw [joinT_snoc]
    rcases List.mem_append.1 hx with hx | hx
    · exact .inr ⟨x, by simp [hx], hk, hf⟩
    · simp only [List.mem_singleton] at hx
      subst hx
      rw [kind_mk] at hk
      omega
theorem sick_putR {l : List PartD} (h : sick l) (p : PartD) : sick (putR l p) := by
  unfold putR
  split
  · exact h
  split
  · split
    · rename_i t ht
      split
      · exact sick_join h ht _
      · exact sick_snoc h p
    · exact sick_snoc h p
  · exact sick_snoc h p
theorem sick_srG : ∀ (xs out : List PartD), sick out → sick (srG out xs)
  | [], out, h => by rw [srG_nil]; exact h
  | x :: xs, out, h => by rw [srG_cons]; exact sick_srG xs _ (sick_putR h _)
theorem sick_ne {l : List PartD} (h : sick l) : l ≠ [] := by
  rintro rfl
  rcases h with ⟨xs, x, y, ys, e, _⟩ | ⟨x, hx, _⟩
  · simp at e
  · simp at hx
theorem putS_none {out : List PartD} {p : PartD} (h : putS out p = none) : sick (putR out p) := by
  unfold putS at h
  unfold putR
  split at h
  · cases h
  rename_i e
  rw [if_neg e]
  split at h
  · rename_i e1
    rw [if_pos e1]
    split at h
    · rename_i t ht
      split at h
      · cases h
      · rename_i hl
        rw [if_neg hl]
        obtain ⟨ys, n, a, b, rfl⟩ := endT_some ht
        exact .inl ⟨ys, .mk 1 t n a b, p, [], by simp, rfl, e1⟩
    · cases h
  · cases h
mutual
theorem smP_none : ∀ x : PartD, kidP x → smP x = none → (x.kind = 3 ∨ x.kind = 4) ∧ (∀ d, gdP d (srP x) = false) ∧ emptyK (srP x) = false
  | .mk k t n ps os, hk, h => by
    rw [kidP_mk] at hk
    rw [smP_mk] at h
    rw [srP_mk, kind_mk]
    rcases hk with ⟨_, rfl, rfl⟩ | ⟨hk, h1, h2⟩
    · rw [smG_nil] at h; cases h
    · refine ⟨hk, ?_⟩
      have hsick : sick (srG [] ps) ∨ sick (srG [] os) := by
        cases e1 : smG [] ps with
        | none => exact .inl (smG_none ps [] h1 e1)
        | some a =>
          cases e2 : smG [] os with
          | none => exact .inr (smG_none os [] h2 e2)
          | some b => rw [e1, e2] at h; cases h
      constructor
      · intro d
        rw [gdP_mk, if_neg (by omega), if_neg (by omega), if_pos hk]
        rcases hsick with hs | hs
        · rw [sick_bad hs]; simp
        · rw [sick_bad hs]; simp
      · show ((decide (k = 3) || decide (k = 4)) && decide (srG [] ps = []) && decide (srG [] os = [])) = false
        rcases hsick with hs | hs
        · rw [decide_eq_false (p := srG [] ps = []) (sick_ne hs)]; simp
        · rw [decide_eq_false (p := srG [] os = []) (sick_ne hs)]; simp
theorem smG_none : ∀ xs out : List PartD, kidL xs → smG out xs = none → sick (srG out xs)
  | [], out, _, h => by rw [smG_nil] at h; cases h
  | x :: xs, out, hk, h => by
    rw [kidL_cons] at hk
    rw [smG_cons] at h
    rw [srG_cons]
    split at h
    · rename_i hx
      obtain ⟨h1, h2, h3⟩ := smP_none x hk.1 hx
      refine sick_srG xs _ ?_
      have hkd : (srP x).kind = x.kind := by cases x; rw [srP_mk]; rfl
      unfold putR
      rw [h3, if_neg (by decide), if_neg (by rw [hkd]; omega)]
      exact .inr ⟨srP x, by simp, by rw [hkd]; exact h1, h2⟩
    · rename_i p hp
      rw [smP_srP x p hp]
      split at h
      · rename_i ho
        exact sick_srG xs _ (putS_none ho)
      · rename_i o ho
        rw [putS_putR ho]
        exact smG_none xs o hk.2 h
end
theorem afterS_join {s : St} (h : stV s = true) (t u : Bs) : afterS (afterS s t) u = afterS s (t ++ u) := by
  unfold afterS
  rw [if_pos h, if_pos h, if_pos (stV_run h t), run_append]
theorem chkL_app {s : St} (hv : stV s = true) (xs ys : List PartD) : chkL s (xs ++ ys) = chkL (chkL s xs) ys := by
  by_cases hs : s.mode = 15
  · rw [mode15 hv hs, chkL_bad, chkL_bad, chkL_bad]
  · rw [chkL_append _ _ _ hs]
    split
    · rename_i hm; rw [mode15 (stV_chkL _ _ hv) hm, chkL_bad]
    · rfl
theorem chkL_one {s : St} (hv : stV s = true) (x : PartD) : chkL s [x] = chkP s x := by
  rw [chkL_cons, chkL_nil]
  split
  · rename_i h; exact (mode15 (stV_chkP x s hv) h).symm
  · rfl
theorem chkP_empty {s : St} {p : PartD} (h : emptyK p = true) : chkP s p = s := by
  obtain ⟨k, t, n, ps, os⟩ := p
  unfold emptyK at h
  simp only [Bool.and_eq_true, Bool.or_eq_true, decide_eq_true_eq] at h
  obtain ⟨⟨hk, rfl⟩, rfl⟩ := h
  rw [chkP_mk, if_neg (by omega), if_neg (by omega), chkL_nil]
  simp
theorem chk_putR {s : St} (hv : stV s = true) (out : List PartD) (p : PartD) : chkL s (putR out p) = chkP (chkL s out) p := by
  have h9 : chkL s (out ++ [p]) = chkP (chkL s out) p := by rw [chkL_app hv, chkL_one (stV_chkL _ _ hv)]
  unfold putR
  split
  · rename_i e; rw [chkP_empty e]
  split
  · rename_i e1
    split
    · rename_i t ht
      split
      · obtain ⟨ys, n, a, b, rfl⟩ := endT_some ht
        obtain ⟨k, u, n', a', b'⟩ := p
        rw [kind_mk] at e1
        subst e1
        have hvy := stV_chkL ys s hv
        rw [joinT_snoc, chkL_app hv, chkL_one hvy, chkL_app hv, chkL_one hvy, chkP_mk, if_pos rfl, chkP_mk, if_pos rfl, chkP_mk, if_pos rfl, afterS_join hvy]; rfl
      · exact h9
    · exact h9
  · exact h9
mutual
theorem chk_srP : ∀ (x : PartD) (s : St), stV s = true → chkP s (srP x) = chkP s x
  | .mk k t n ps os, s, hv => by rw [srP_mk, chkP_mk, chkP_mk, chk_srG ps [] s hv, chk_srG os [] s hv, List.nil_append, List.nil_append]
theorem chk_srG : ∀ (xs out : List PartD) (s : St), stV s = true → chkL s (srG out xs) = chkL s (out ++ xs)
  | [], out, s, hv => by rw [srG_nil, List.append_nil]
  | x :: xs, out, s, hv => by
    have hvo := stV_chkL out s hv
    have e2 : chkL s (out ++ x :: xs) = chkL (chkP (chkL s out) x) xs := by
      rw [show out ++ x :: xs = (out ++ [x]) ++ xs by simp, chkL_app hv, chkL_app hv, chkL_one hvo]
    rw [srG_cons, chk_srG xs _ s hv, chkL_app hv, chk_putR hv, chk_srP x _ hvo, e2]
end
end Go.Proofs.Ytoocbpendccngaa

/- Parts put in place of holes; what simpler parts are once more. Plain. -/
namespace Go.Proofs.Ytoocbpendccngaa
set_option maxRecDepth 100000
set_option linter.unusedVariables false
set_option linter.unusedSimpArgs false
open Go.RowKit
mutual
/-- What stands for a part when others are put in place of the holes with a name. -/
def isP (m : Bs) (o : List PartD) : PartD → List PartD
  | .mk k t n ps os => if k = 2 ∧ n = m then o else [.mk k t n (isL m o ps) (isL m o os)]
def isL (m : Bs) (o : List PartD) : List PartD → List PartD
  | [] => []
  | x :: xs => isP m o x ++ isL m o xs
end
theorem isP_mk (m : Bs) (o : List PartD) (k : Int) (t n : Bs) (ps os : List PartD) : isP m o (.mk k t n ps os) = if k = 2 ∧ n = m then o else [.mk k t n (isL m o ps) (isL m o os)] := by rw [isP]
theorem isL_nil (m : Bs) (o : List PartD) : isL m o [] = [] := by rw [isL]
theorem isL_cons (m : Bs) (o : List PartD) (x : PartD) (xs : List PartD) : isL m o (x :: xs) = isP m o x ++ isL m o xs := by rw [isL]
theorem isL_append (m : Bs) (o : List PartD) : ∀ xs ys : List PartD, isL m o (xs ++ ys) = isL m o xs ++ isL m o ys
  | [], ys => by rw [List.nil_append, isL_nil, List.nil_append]
  | x :: xs, ys => by rw [List.cons_append, isL_cons, isL_cons, isL_append m o xs ys, List.append_assoc]
theorem isL_snoc {m : Bs} {o xs : List PartD} {k : Nat} {x : PartD} (h : xs[k]? = some x) : isL m o (xs.take (k + 1)) = isL m o (xs.take k) ++ isP m o x := by
  rw [take_snoc' h, isL_append, isL_cons, isL_nil, List.append_nil]
mutual
theorem isP_wt (m : Bs) (o : List PartD) : ∀ x : PartD, wtL (isP m o x) ≤ (wtP x + 1) * (wtL o + 1)
  | .mk k t n ps os => by
    have h1 := isL_wt m o ps
    have h2 := isL_wt m o os
    rw [isP_mk, wtP_mk]
    split
    · have : 1 * (wtL o + 1) ≤ (t.length + n.length + wtL ps + wtL os + 1) * (wtL o + 1) := Nat.mul_le_mul_right _ (by omega)
      omega
    · rw [wtL_one, wtP_mk]
      have e : (t.length + n.length + wtL ps + wtL os + 1) * (wtL o + 1) = (t.length + n.length + 1) * (wtL o + 1) + wtL ps * (wtL o + 1) + wtL os * (wtL o + 1) := by
        rw [← Nat.add_mul, ← Nat.add_mul]; congr 1; omega
      have : (t.length + n.length + 1) * 1 ≤ (t.length + n.length + 1) * (wtL o + 1) := Nat.mul_le_mul_left _ (by omega)
      omega
theorem isL_wt (m : Bs) (o : List PartD) : ∀ xs : List PartD, wtL (isL m o xs) ≤ wtL xs * (wtL o + 1)
  | [] => by rw [isL_nil, wtL_nil]; omega
  | x :: xs => by
    have h1 := isP_wt m o x
    have h2 := isL_wt m o xs
    rw [isL_cons, wtL_append, show x :: xs = [x] ++ xs from rfl, wtL_append, wtL_one, Nat.add_mul]
    rw [show 1 + wtP x = wtP x + 1 by omega]
    omega
end
mutual
theorem kid_isP (m : Bs) {o : List PartD} (ho : kidL o) : ∀ x : PartD, kidP x → kidL (isP m o x)
  | .mk k t n ps os, h => by
    rw [kidP_mk] at h
    rw [isP_mk]
    split
    · exact ho
    · rw [kidL_cons, kidP_mk]
      refine ⟨?_, by simp [kidL]⟩
      rcases h with ⟨hk, rfl, rfl⟩ | ⟨hk, h1, h2⟩
      · exact .inl ⟨hk, isL_nil _ _, isL_nil _ _⟩
      · exact .inr ⟨hk, kid_isL m ho ps h1, kid_isL m ho os h2⟩
theorem kid_isL (m : Bs) {o : List PartD} (ho : kidL o) : ∀ xs : List PartD, kidL xs → kidL (isL m o xs)
  | [], _ => by rw [isL_nil]; simp [kidL]
  | x :: xs, h => by
    rw [kidL_cons] at h
    rw [isL_cons, kidL_append]
    exact ⟨kid_isP m ho x h.1, kid_isL m ho xs h.2⟩
end
theorem place1 {s : St} (h : placeM s = 1) : s = st0 := by
  have hv := placeM_stV (s := s) (by omega)
  rcases place_mode (s := s) (by omega) with ⟨m, _⟩ | ⟨_, p⟩ | ⟨_, p, _⟩
  · exact st_mode0 hv m
  · omega
  · omega
mutual
theorem chk_isP (m : Bs) {o : List PartD} (ho : chkL st0 o = st0) : ∀ (x : PartD) (d : Nat) (s : St), gdP d x = true → stV s = true → (chkP s x).mode ≠ 15 → (∀ h ∈ (wkP s x).1, h.1 = m → placeM h.2 = 1) → chkL s (isP m o x) = chkP s x
  | .mk k t n ps os, d, s, hg, hv, hm, hp => by
    have hk := @kids_chk s k t n ps os hm
    rw [gdP_mk] at hg
    rw [wkP_mk] at hp
    rw [isP_mk]
    split
    · rename_i e
      rw [if_neg (by omega), if_pos e.1] at hp
      have h1 := place1 (hp (n, s) (by simp) e.2)
      subst h1
      rw [ho, chkP_mk, if_neg (by omega), if_pos e.1]; decide
    · rename_i e
      rw [chkL_one hv, chkP_mk, chkP_mk]
      by_cases k1 : k = 1
      · rw [if_pos k1, if_pos k1]
      rw [if_neg k1, if_neg k1]
      rw [if_neg k1] at hg hp
      by_cases k2 : k = 2
      · rw [if_pos k2, if_pos k2]
      rw [if_neg k2, if_neg k2]
      rw [if_neg k2] at hg hp
      by_cases k34 : k = 3 ∨ k = 4
      · rw [if_pos k34] at hg
        simp only [Bool.and_eq_true] at hg
        obtain ⟨h1, h2, h3⟩ := hk k34
        by_cases k4 : k = 4
        · rw [if_pos k4, if_pos k4]
          rw [if_neg (by omega), if_pos k4] at hp
          rw [chk_isL m ho ps (d - 1) s false hg.1.2 hv h1 hp]
        · rw [if_neg k4, if_neg k4]
          rw [if_pos (show k = 3 by omega)] at hp
          rw [chk_isL m ho ps (d - 1) s false hg.1.2 hv h1 (fun h hh => hp h (List.mem_append.2 (.inl hh))), chk_isL m ho os (d - 1) s false hg.2 hv (by rw [h2 (by omega)]; exact h1) (fun h hh => hp h (List.mem_append.2 (.inr hh)))]
      · rw [if_neg k34] at hg; cases hg
theorem chk_isL (m : Bs) {o : List PartD} (ho : chkL st0 o = st0) : ∀ (xs : List PartD) (d : Nat) (s : St) (b : Bool), gdL d b xs = true → stV s = true → (chkL s xs).mode ≠ 15 → (∀ h ∈ (wkL s xs).1, h.1 = m → placeM h.2 = 1) → chkL s (isL m o xs) = chkL s xs
  | [], d, s, b, _, _, _, _ => by rw [isL_nil]
  | x :: xs, d, s, b, hg, hv, hm, hp => by
    rw [gdL] at hg
    simp only [Bool.and_eq_true] at hg
    rw [wkL_cons] at hp
    rw [chkL_cons] at hm
    by_cases e : (chkP s x).mode = 15
    · rw [if_pos e] at hm; exact absurd rfl hm
    · rw [if_neg e] at hm
      have hvx := stV_chkP x s hv
      rw [isL_cons, chkL_app hv, chk_isP m ho x d s hg.1.1 hv e (fun h hh => hp h (List.mem_append.2 (.inl hh)))]
      rw [wk_chkP x d s hg.1.1 e] at hp
      rw [chk_isL m ho xs d _ _ hg.2 hvx hm (fun h hh => hp h (List.mem_append.2 (.inr hh))), chkL_cons, if_neg e]
end
end Go.Proofs.Ytoocbpendccngaa

/- Simpler parts of valid parts are valid. Plain. -/
namespace Go.Proofs.Ytoocbpendccngaa
set_option maxRecDepth 100000
set_option linter.unusedVariables false
set_option linter.unusedSimpArgs false
open Go.RowKit
/-- Parts put into others, made simpler: what the program finds. -/
def insM (xs : List PartD) (m : Bs) (o : List PartD) : Option (List PartD) :=
  if partsB xs = true ∧ nameB m = true ∧ partsB o = true then (match smG [] (isL m o xs) with
    | some r => if partsB r = true then some r else none
    | none => none) else none
theorem ins_ref (xs : List PartD) (m : Bs) (o : List PartD) (h : partsB xs = true ∧ nameB m = true ∧ partsB o = true) : (if partsB (srG [] (isL m o xs)) = true then some (srG [] (isL m o xs)) else none) = insM xs m o := by
  have hb := h.1
  have ho := h.2.2
  unfold partsB at hb ho
  simp only [Bool.and_eq_true, decide_eq_true_eq] at hb ho
  have hk := kid_isL m (gd_kidL o _ _ ho.2) xs (gd_kidL xs _ _ hb.2)
  unfold insM
  rw [if_pos h]
  cases hq : smG [] (isL m o xs) with
  | none =>
    have hs := smG_none _ [] hk hq
    rw [if_neg]
    intro hp
    unfold partsB at hp
    simp only [Bool.and_eq_true] at hp
    rw [sick_bad hs] at hp
    cases hp.2
  | some r => rw [smG_srG _ [] r hq]
theorem ins_safe {xs : List PartD} {m : Bs} {o r : List PartD} (h : insM xs m o = some r) (hs : safeM xs = true) (ho : safeM o = true) (hp : ∀ p ∈ namePl xs m, p = 1) : safeM r = true := by
  unfold insM at h
  split at h
  · split at h
    · rename_i q hq
      split at h
      · rename_i hv
        have e := Option.some.inj h
        subst e
        obtain ⟨_, hg, hc, hm⟩ := safe_parts hs
        obtain ⟨_, _, hoc, _⟩ := safe_parts ho
        have h1 := chk_srG (isL m o xs) [] st0 stV_st0
        rw [smG_srG _ [] q hq, List.nil_append] at h1
        have h2 := chk_isL m hoc xs 3 st0 false hg stV_st0 hm (fun h hh e => by
          refine hp _ ?_
          unfold namePl plcN
          rw [if_pos hs]
          exact List.mem_map.2 ⟨h, List.mem_filter.2 ⟨hh, by simpa using e⟩, rfl⟩)
        unfold safeM
        rw [hv, h1, h2, hc]; simp
      · cases h
    · cases h
  · cases h
end Go.Proofs.Ytoocbpendccngaa
