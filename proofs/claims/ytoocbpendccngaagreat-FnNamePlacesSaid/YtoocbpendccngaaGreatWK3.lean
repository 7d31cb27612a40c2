/- Data; what comes when parts are filled in: as data. No program. -/
import Derived.Test.YtoocbpendccngaaGreatWFP
import Derived.Test.YtoocbpendccngaaGreatWK2

namespace Go.Proofs.YtoocbpendccngaaGreat
set_option maxRecDepth 100000
set_option linter.unusedVariables false
set_option linter.unusedSimpArgs false
open Go.RowKit
structure FieldD where
  name : Bs
  text : Bs
  holds : Bool
  items : List Bs
  deriving DecidableEq
def strs (l : List Bs) : List (List PV) := l.map fun t => [.str t]
theorem chk_take {xs : List PartD} {s : St} (hs : stV s = true) (hm : (chkL s xs).mode ≠ 15) (k : Nat) : (chkL s (xs.take k)).mode ≠ 15 := by
  intro h
  have h2 := chkL_split xs k s hs
  rw [mode15 (stV_chkL _ _ hs) h, chkL_bad] at h2
  rw [← h2] at hm
  exact hm rfl
theorem gdL_take {d : Nat} {b : Bool} {xs : List PartD} (h : gdL d b xs = true) (k : Nat) : gdL d b (xs.take k) = true := by
  rw [← List.take_append_drop k xs, gdL_append] at h
  simp only [Bool.and_eq_true] at h
  exact h.1
end Go.Proofs.YtoocbpendccngaaGreat

/- What is filled in: the state behind it; its parts; the holes' texts in it. Plain. -/
namespace Go.Proofs.YtoocbpendccngaaGreat
set_option maxRecDepth 100000
set_option linter.unusedVariables false
set_option linter.unusedSimpArgs false
open Go.RowKit
theorem safe_parts {xs : List PartD} (h : safeM xs = true) : partsB xs = true ∧ gdL 3 false xs = true ∧ chkL st0 xs = st0 ∧ (chkL st0 xs).mode ≠ 15 := by
  unfold safeM at h
  simp only [Bool.and_eq_true, decide_eq_true_eq] at h
  have h2 := h.1
  unfold partsB at h2
  simp only [Bool.and_eq_true] at h2
  exact ⟨h.1, h2.2, h.2, by rw [h.2]; decide⟩
end Go.Proofs.YtoocbpendccngaaGreat

/- Holes of parts with their states; what is chosen of filled holes. Plain. -/
namespace Go.Proofs.YtoocbpendccngaaGreat
set_option maxRecDepth 100000
set_option linter.unusedVariables false
set_option linter.unusedSimpArgs false
open Go.RowKit
mutual
/-- The holes of a part: the name, and the state before each; and the state behind the part. -/
def wkP (s : St) : PartD → List (Bs × St) × St
  | .mk k t n ps os =>
    if k = 1 then ([], afterS s t)
    else if k = 2 then ([(n, s)], behindM s)
    else if k = 3 then ((wkL s ps).1 ++ (wkL s os).1, (wkL s ps).2)
    else if k = 4 then ((wkL s ps).1, s)
    else ([], s)
def wkL (s : St) : List PartD → List (Bs × St) × St
  | [] => ([], s)
  | x :: xs => ((wkP s x).1 ++ (wkL (wkP s x).2 xs).1, (wkL (wkP s x).2 xs).2)
end
theorem wkP_mk (s : St) (k : Int) (t n : Bs) (ps os : List PartD) : wkP s (.mk k t n ps os) =
    if k = 1 then ([], afterS s t)
    else if k = 2 then ([(n, s)], behindM s)
    else if k = 3 then ((wkL s ps).1 ++ (wkL s os).1, (wkL s ps).2)
    else if k = 4 then ((wkL s ps).1, s)
    else ([], s) := by rw [wkP]
theorem wkL_nil (s : St) : wkL s [] = ([], s) := by rw [wkL]
theorem wkL_cons (s : St) (x : PartD) (xs : List PartD) : wkL s (x :: xs) = ((wkP s x).1 ++ (wkL (wkP s x).2 xs).1, (wkL (wkP s x).2 xs).2) := by rw [wkL]
theorem wkL_append : ∀ (xs ys : List PartD) (s : St), wkL s (xs ++ ys) = ((wkL s xs).1 ++ (wkL (wkL s xs).2 ys).1, (wkL (wkL s xs).2 ys).2)
  | [], ys, s => by simp [wkL_nil]
  | x :: xs, ys, s => by rw [List.cons_append, wkL_cons, wkL_cons, wkL_append xs ys, List.append_assoc]
theorem wkL_snoc {s : St} {xs : List PartD} {k : Nat} {x : PartD} (h : xs[k]? = some x) : wkL s (xs.take (k + 1)) = ((wkL s (xs.take k)).1 ++ (wkP (wkL s (xs.take k)).2 x).1, (wkP (wkL s (xs.take k)).2 x).2) := by
  rw [take_snoc' h, wkL_append, wkL_cons, wkL_nil, List.append_nil]
mutual
theorem wk_chkP : ∀ (x : PartD) (d : Nat) (s : St), gdP d x = true → (chkP s x).mode ≠ 15 → (wkP s x).2 = chkP s x
  | .mk k t n ps os, d, s, hg, hm => by
    rw [gdP_mk] at hg
    rw [chkP_mk] at hm ⊢
    rw [wkP_mk]
    by_cases k1 : k = 1
    · rw [if_pos k1, if_pos k1]
    rw [if_neg k1] at hg hm
    rw [if_neg k1, if_neg k1]
    by_cases k2 : k = 2
    · rw [if_pos k2, if_pos k2]
    rw [if_neg k2] at hg hm
    rw [if_neg k2, if_neg k2]
    by_cases k34 : k = 3 ∨ k = 4
    · rw [if_pos k34] at hg
      simp only [Bool.and_eq_true] at hg
      by_cases k4 : k = 4
      · rw [if_pos k4] at hm ⊢
        rw [if_neg (show ¬ k = 3 by omega), if_pos k4]
        by_cases e : chkL s ps = s
        · rw [if_pos e]
        · rw [if_neg e] at hm; exact absurd rfl hm
      · rw [if_pos (show k = 3 by omega)]
        rw [if_neg k4] at hm ⊢
        by_cases e : chkL s ps = chkL s os
        · rw [if_pos e] at hm ⊢
          exact wk_chkL ps (d - 1) s false hg.1.2 hm
        · rw [if_neg e] at hm; exact absurd rfl hm
    · rw [if_neg k34] at hg; cases hg
theorem wk_chkL : ∀ (xs : List PartD) (d : Nat) (s : St) (b : Bool), gdL d b xs = true → (chkL s xs).mode ≠ 15 → (wkL s xs).2 = chkL s xs
  | [], d, s, b, _, _ => by rw [wkL_nil, chkL_nil]
  | x :: xs, d, s, b, hg, hm => by
    rw [gdL] at hg
    simp only [Bool.and_eq_true] at hg
    rw [chkL_cons] at hm ⊢
    rw [wkL_cons]
    by_cases e : (chkP s x).mode = 15
    · rw [if_pos e] at hm; exact absurd rfl hm
    · rw [if_neg e] at hm ⊢
      have := wk_chkP x d s hg.1.1 e
      dsimp only
      rw [this]
      exact wk_chkL xs d _ _ hg.2 hm
end
/-- The children of a part that is no bad one lead to no bad state. -/
theorem kids_chk {s : St} {k : Int} {t n : Bs} {ps os : List PartD} (hm : (chkP s (.mk k t n ps os)).mode ≠ 15) (hk : k = 3 ∨ k = 4) : (chkL s ps).mode ≠ 15 ∧ (k = 3 → chkL s os = chkL s ps) ∧ (k = 4 → chkL s ps = s) := by
  rw [chkP_mk, if_neg (by omega), if_neg (by omega)] at hm
  by_cases k4 : k = 4
  · rw [if_pos k4] at hm
    by_cases e : chkL s ps = s
    · rw [if_pos e] at hm; exact ⟨by rw [e]; exact hm, fun h => by omega, fun _ => e⟩
    · rw [if_neg e] at hm; exact absurd rfl hm
  · rw [if_neg k4] at hm
    by_cases e : chkL s ps = chkL s os
    · rw [if_pos e] at hm; exact ⟨hm, fun _ => e.symm, fun h => absurd h k4⟩
    · rw [if_neg e] at hm; exact absurd rfl hm
mutual
/-- The number of holes. -/
def hlP : PartD → Nat
  | .mk k _ _ ps os => (if k = 2 then 1 else 0) + hlL ps + hlL os
def hlL : List PartD → Nat
  | [] => 0
  | x :: xs => hlP x + hlL xs
end
theorem hlP_mk (k : Int) (t n : Bs) (ps os : List PartD) : hlP (.mk k t n ps os) = (if k = 2 then 1 else 0) + hlL ps + hlL os := by rw [hlP]
theorem hlL_nil : hlL [] = 0 := by rw [hlL]
theorem hlL_cons (x : PartD) (xs : List PartD) : hlL (x :: xs) = hlP x + hlL xs := by rw [hlL]
mutual
theorem hlP_le : ∀ x : PartD, hlP x ≤ 1 + wtP x
  | .mk k t n ps os => by
    have h1 := hlL_le ps
    have h2 := hlL_le os
    rw [hlP_mk, wtP_mk]
    split <;> omega
theorem hlL_le : ∀ xs : List PartD, hlL xs ≤ wtL xs
  | [] => by rw [hlL_nil]; omega
  | x :: xs => by
    have h1 := hlP_le x
    have h2 := hlL_le xs
    rw [hlL_cons, show x :: xs = [x] ++ xs from rfl, wtL_append, wtL_one]; omega
end
def plcL (s : St) (xs : List PartD) : List Int := (wkL s xs).1.map fun h => placeM h.2
def placesM (xs : List PartD) : List Int := if safeM xs = true then plcL st0 xs else []
def plcN (n : Bs) (l : List (Bs × St)) : List Int := (l.filter fun h => decide (h.1 = n)).map fun h => placeM h.2
def namePl (xs : List PartD) (n : Bs) : List Int := if safeM xs = true then plcN n (wkL st0 xs).1 else []
theorem plcN_sub (n : Bs) (l : List (Bs × St)) : (plcN n l).Sublist (l.map fun h => placeM h.2) := List.Sublist.map _ List.filter_sublist
theorem namePl_sub (xs : List PartD) (n : Bs) : (namePl xs n).Sublist (placesM xs) := by
  unfold namePl placesM plcL
  split
  · exact plcN_sub n _
  · exact List.Sublist.refl _
theorem sub_hit {a : Int} {l r : List Int} (h : (a :: l).Sublist (a :: r)) : l.Sublist r := (List.cons_sublist_cons.1 h)
theorem sub_miss {a b : Int} {l r : List Int} (h : (a :: l).Sublist (b :: r)) (hn : b ≠ a) : (a :: l).Sublist r := by
  cases h with
  | cons _ h => exact h
  | cons_cons _ h => exact absurd rfl hn
end Go.Proofs.YtoocbpendccngaaGreat

/- Data: places of fields. Plain. -/
namespace Go.Proofs.YtoocbpendccngaaGreat
set_option maxRecDepth 100000
set_option linter.unusedVariables false
set_option linter.unusedSimpArgs false
open Go.RowKit
theorem strK_get (l : List Bs) (k : Nat) : (strs l)[k]? = (l[k]?).map fun t => [.str t] := by unfold strs; rw [List.getElem?_map]
theorem strs_length (l : List Bs) : (strs l).length = l.length := by unfold strs; simp
theorem strs_all (l : List Bs) : (∀ e ∈ strs l, e.length = 1) = True := eq_true (by
  intro e he; unfold strs at he
  obtain ⟨f, _, rfl⟩ := List.mem_map.1 he; rfl)
theorem strs_nil : strs [] = [] := rfl
theorem strK_inj {a b : List Bs} (h : strs a = strs b) : a = b := by
  induction a generalizing b with
  | nil => cases b with
    | nil => rfl
    | cons y ys => simp [strs] at h
  | cons x xs ih => cases b with
    | nil => simp [strs] at h
    | cons y ys =>
      unfold strs at h
      rw [List.map_cons, List.map_cons] at h
      simp only [List.cons.injEq, PV.str.injEq, and_true] at h
      rw [h.1, ih h.2]
theorem strs_iff {a b : List Bs} : strs a = strs b ↔ a = b := ⟨strK_inj, fun h => h ▸ rfl⟩
/-- Lengths that are numbers. -/
def okF (l : List FieldD) : Prop := l.length ≤ 9223372036854775807 ∧ ∀ f ∈ l, f.name.length ≤ 9223372036854775807 ∧ f.text.length ≤ 9223372036854775807 ∧ f.items.length ≤ 9223372036854775807 ∧ ∀ t ∈ f.items, t.length ≤ 9223372036854775807
end Go.Proofs.YtoocbpendccngaaGreat
