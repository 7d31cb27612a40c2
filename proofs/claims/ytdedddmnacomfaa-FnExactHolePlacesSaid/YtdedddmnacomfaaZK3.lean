/- Data; what comes when parts are filled in: as data. No program. -/
import Derived.Test.YtdedddmnacomfaaZFP
import Derived.Test.YtdedddmnacomfaaZK2
import Derived.Test.YtdedddmnacomfaaZF12

namespace Go.Proofs.Ytdedddmnacomfaa
set_option maxRecDepth 100000
set_option linter.unusedVariables false
set_option linter.unusedSimpArgs false
open Go.RowKit
structure FieldD where
  name : Bs
  text : Bs
  holds : Bool
  items : List Bs
  deriving DecidableEq
def strs (l : List Bs) : List (List PV) := l.map fun t => [.str t]
def encF (f : FieldD) : List PV := [.str f.name, .str f.text, .bool f.holds, .seq (strs f.items)]
def encFs (l : List FieldD) : List (List PV) := l.map encF
theorem chk_take {xs : List PartD} {s : St} (hs : stV s = true) (hm : (chkL s xs).mode ≠ 15) (k : Nat) : (chkL s (xs.take k)).mode ≠ 15 := by
  intro h
  have h2 := chkL_split xs k s hs
  rw [mode15 (stV_chkL _ _ hs) h, chkL_bad] at h2
  rw [← h2] at hm
  exact hm rfl
theorem gdL_take {d : Nat} {b : Bool} {xs : List PartD} (h : gdL d b xs = true) (k : Nat) : gdL d b (xs.take k) = true := by
  rw [← List.take_append_drop k xs, gdL_append] at h
  simp only [Bool.and_eq_true] at h
  exact h.1
end Go.Proofs.Ytdedddmnacomfaa

/- What is filled in: the state behind it; its parts; the holes' texts in it. Plain. -/
namespace Go.Proofs.Ytdedddmnacomfaa
set_option maxRecDepth 100000
set_option linter.unusedVariables false
set_option linter.unusedSimpArgs false
open Go.RowKit
theorem safe_parts {xs : List PartD} (h : safeM xs = true) : partsB xs = true ∧ gdL 3 false xs = true ∧ chkL st0 xs = st0 ∧ (chkL st0 xs).mode ≠ 15 := by
  unfold safeM at h
  simp only [Bool.and_eq_true, decide_eq_true_eq] at h
  have h2 := h.1
  unfold partsB at h2
  simp only [Bool.and_eq_true] at h2
  exact ⟨h.1, h2.2, h.2, by rw [h.2]; decide⟩
end Go.Proofs.Ytdedddmnacomfaa

/- Holes of parts with their states; what is chosen of filled holes. Plain. -/
namespace Go.Proofs.Ytdedddmnacomfaa
set_option maxRecDepth 100000
set_option linter.unusedVariables false
set_option linter.unusedSimpArgs false
open Go.RowKit
mutual
/-- The holes of a part: the name, and the state before each; and the state behind the part. -/
def wkP (s : St) : PartD → List (Bs × St) × St
  | .mk k t n ps os =>
    if k = 1 then ([], afterS s t)
    else if k = 2 then ([(n, s)], behindM s)
    else if k = 3 then ((wkL s ps).1 ++ (wkL s os).1, (wkL s ps).2)
    else if k = 4 then ((wkL s ps).1, s)
    else ([], s)
def wkL (s : St) : List PartD → List (Bs × St) × St
  | [] => ([], s)
  | x :: xs => ((wkP s x).1 ++ (wkL (wkP s x).2 xs).1, (wkL (wkP s x).2 xs).2)
end
theorem wkP_mk (s : St) (k : Int) (t n : Bs) (ps os : List PartD) : wkP s (.mk k t n ps os) =
    if k = 1 then ([], afterS s t)
    else if k = 2 then ([(n, s)], behindM s)
    else if k = 3 then ((wkL s ps).1 ++ (wkL s os).1, (wkL s ps).2)
    else if k = 4 then ((wkL s ps).1, s)
    else ([], s) := by rw [wkP]
theorem wkL_nil (s : St) : wkL s [] = ([], s) := by rw [wkL]
theorem wkL_cons (s : St) (x : PartD) (xs : List PartD) : wkL s (x :: xs) = ((wkP s x).1 ++ (wkL (wkP s x).2 xs).1, (wkL (wkP s x).2 xs).2) := by rw [wkL]
theorem wkL_append : ∀ (xs ys : List PartD) (s : St), wkL s (xs ++ ys) = ((wkL s xs).1 ++ (wkL (wkL s xs).2 ys).1, (wkL (wkL s xs).2 ys).2)
  | [], ys, s => by simp [wkL_nil]
  | x :: xs, ys, s => by rw [List.cons_append, wkL_cons, wkL_cons, wkL_append xs ys, List.append_assoc]
theorem wkL_snoc {s : St} {xs : List PartD} {k : Nat} {x : PartD} (h : xs[k]? = some x) : wkL s (xs.take (k + 1)) = ((wkL s (xs.take k)).1 ++ (wkP (wkL s (xs.take k)).2 x).1, (wkP (wkL s (xs.take k)).2 x).2) := by
  rw [take_snoc' h, wkL_append, wkL_cons, wkL_nil, List.append_nil]
mutual
theorem wk_chkP : ∀ (x : PartD) (d : Nat) (s : St), gdP d x = true → (chkP s x).mode ≠ 15 → (wkP s x).2 = chkP s x
  | .mk k t n ps os, d, s, hg, hm => by
    rw [gdP_mk] at hg
    rw [chkP_mk] at hm ⊢
    rw [wkP_mk]
    by_cases k1 : k = 1
    · rw [if_pos k1, if_pos k1]
    rw [if_neg k1] at hg hm
    rw [if_neg k1, if_neg k1]
    by_cases k2 : k = 2
    · rw [if_pos k2, if_pos k2]
    rw [if_neg k2] at hg hm
    rw [if_neg k2, if_neg k2]
    by_cases k34 : k = 3 ∨ k = 4
    · rw [if_pos k34] at hg
      simp only [Bool.and_eq_true] at hg
      by_cases k4 : k = 4
      · rw [if_pos k4] at hm ⊢
        rw [if_neg (show ¬ k = 3 by omega), if_pos k4]
        by_cases e : chkL s ps = s
        · rw [if_pos e]
        · rw [if_neg e] at hm; exact absurd rfl hm
      · rw [if_pos (show k = 3 by omega)]
        rw [if_neg k4] at hm ⊢
        by_cases e : chkL s ps = chkL s os
        · rw [if_pos e] at hm ⊢
          exact wk_chkL ps (d - 1) s false hg.1.2 hm
        · rw [if_neg e] at hm; exact absurd rfl hm
    · rw [if_neg k34] at hg; cases hg
theorem wk_chkL : ∀ (xs : List PartD) (d : Nat) (s : St) (b : Bool), gdL d b xs = true → (chkL s xs).mode ≠ 15 → (wkL s xs).2 = chkL s xs
  | [], d, s, b, _, _ => by rw [wkL_nil, chkL_nil]
  | x :: xs, d, s, b, hg, hm => by
    rw [gdL] at hg
    simp only [Bool.and_eq_true] at hg
    rw [chkL_cons] at hm ⊢
    rw [wkL_cons]
    by_cases e : (chkP s x).mode = 15
    · rw [if_pos e] at hm; exact absurd rfl hm
    · rw [if_neg e] at hm ⊢
      have := wk_chkP x d s hg.1.1 e
      dsimp only
      rw [this]
      exact wk_chkL xs d _ _ hg.2 hm
end
/-- The children of a part that is no bad one lead to no bad state. -/
theorem kids_chk {s : St} {k : Int} {t n : Bs} {ps os : List PartD} (hm : (chkP s (.mk k t n ps os)).mode ≠ 15) (hk : k = 3 ∨ k = 4) : (chkL s ps).mode ≠ 15 ∧ (k = 3 → chkL s os = chkL s ps) ∧ (k = 4 → chkL s ps = s) := by
  rw [chkP_mk, if_neg (by omega), if_neg (by omega)] at hm
  by_cases k4 : k = 4
  · rw [if_pos k4] at hm
    by_cases e : chkL s ps = s
    · rw [if_pos e] at hm; exact ⟨by rw [e]; exact hm, fun h => by omega, fun _ => e⟩
    · rw [if_neg e] at hm; exact absurd rfl hm
  · rw [if_neg k4] at hm
    by_cases e : chkL s ps = chkL s os
    · rw [if_pos e] at hm; exact ⟨hm, fun _ => e.symm, fun h => absurd h k4⟩
    · rw [if_neg e] at hm; exact absurd rfl hm
mutual
/-- The number of holes. -/
def hlP : PartD → Nat
  | .mk k _ _ ps os => (if k = 2 then 1 else 0) + hlL ps + hlL os
def hlL : List PartD → Nat
  | [] => 0
  | x :: xs => hlP x + hlL xs
end
theorem hlP_mk (k : Int) (t n : Bs) (ps os : List PartD) : hlP (.mk k t n ps os) = (if k = 2 then 1 else 0) + hlL ps + hlL os := by rw [hlP]
theorem hlL_nil : hlL [] = 0 := by rw [hlL]
theorem hlL_cons (x : PartD) (xs : List PartD) : hlL (x :: xs) = hlP x + hlL xs := by rw [hlL]
mutual
theorem hlP_le : ∀ x : PartD, hlP x ≤ 1 + wtP x
  | .mk k t n ps os => by
    have h1 := hlL_le ps
    have h2 := hlL_le os
    rw [hlP_mk, wtP_mk]
    split <;> omega
theorem hlL_le : ∀ xs : List PartD, hlL xs ≤ wtL xs
  | [] => by rw [hlL_nil]; omega
  | x :: xs => by
    have h1 := hlP_le x
    have h2 := hlL_le xs
    rw [hlL_cons, show x :: xs = [x] ++ xs from rfl, wtL_append, wtL_one]; omega
end
def plcL (s : St) (xs : List PartD) : List Int := (wkL s xs).1.map fun h => placeM h.2
def placesM (xs : List PartD) : List Int := if safeM xs = true then plcL st0 xs else []
def plcN (n : Bs) (l : List (Bs × St)) : List Int := (l.filter fun h => decide (h.1 = n)).map fun h => placeM h.2
def namePl (xs : List PartD) (n : Bs) : List Int := if safeM xs = true then plcN n (wkL st0 xs).1 else []
theorem plcN_sub (n : Bs) (l : List (Bs × St)) : (plcN n l).Sublist (l.map fun h => placeM h.2) := List.Sublist.map _ List.filter_sublist
end Go.Proofs.Ytdedddmnacomfaa

/- Rows of numbers; holes with their states, by places; their weights. Plain. -/
namespace Go.Proofs.Ytdedddmnacomfaa
set_option maxRecDepth 100000
set_option linter.unusedVariables false
set_option linter.unusedSimpArgs false
open Go.RowKit
def ints (l : List Int) : List (List PV) := l.map fun k => [.int .i64 k]
theorem ints_length (l : List Int) : (ints l).length = l.length := by simp [ints]
theorem ints_get (l : List Int) (k : Nat) : (ints l)[k]? = (l[k]?).map fun k => [.int .i64 k] := by simp [ints]
theorem ints_append (a b : List Int) : ints (a ++ b) = ints a ++ ints b := by simp [ints]
theorem ints_one (k : Int) : ints [k] = [[.int .i64 k]] := rfl
theorem ints_cell (l : List Int) : ∀ e ∈ ints l, e.length = 1 := by
  intro e he
  simp only [ints, List.mem_map] at he
  obtain ⟨k, _, rfl⟩ := he
  rfl
theorem ints_all (l : List Int) : (∀ e ∈ ints l, e.length = 1) = True := eq_true (ints_cell l)
theorem ints_plain (l : List Int) : (ints l).all (·.all plainU) = true := by simp [ints, plainU]
theorem ints_inj : ∀ {a b : List Int}, ints a = ints b → a = b
  | [], [], _ => rfl
  | [], _ :: _, h => by simp [ints] at h
  | _ :: _, [], h => by simp [ints] at h
  | x :: xs, y :: ys, h => by
    unfold ints at h
    rw [List.map_cons, List.map_cons, List.cons.injEq] at h
    have h1 : x = y := by simpa using h.1
    rw [h1, ints_inj h.2]
theorem ints_iff {a b : List Int} : ints a = ints b ↔ a = b := ⟨ints_inj, fun h => h ▸ rfl⟩
mutual
theorem stV_wkP : ∀ (x : PartD) (s : St), stV s = true → stV (wkP s x).2 = true
  | .mk k t n ps os, s, h => by
    have h1 := stV_wkL ps s h
    rw [wkP_mk]
    split
    · exact stV_afterS s t
    split
    · exact stV_behind s
    split
    · exact h1
    split
    · exact h
    · exact h
theorem stV_wkL : ∀ (xs : List PartD) (s : St), stV s = true → stV (wkL s xs).2 = true
  | [], s, h => by rw [wkL_nil]; exact h
  | x :: xs, s, h => by rw [wkL_cons]; exact stV_wkL xs _ (stV_wkP x s h)
end
mutual
theorem wk_leP : ∀ (x : PartD) (s : St), (wkP s x).1.length ≤ hlP x
  | .mk k t n ps os, s => by
    have h1 := wk_leL ps s
    have h2 := wk_leL os s
    rw [wkP_mk, hlP_mk]
    split
    · simp
    split
    · simp; omega
    split
    · simp only [List.length_append]; omega
    split
    · simp only; omega
    · simp
theorem wk_leL : ∀ (xs : List PartD) (s : St), (wkL s xs).1.length ≤ hlL xs
  | [], s => by rw [wkL_nil, hlL_nil]; simp
  | x :: xs, s => by
    have h1 := wk_leP x s
    have h2 := wk_leL xs (wkP s x).2
    rw [wkL_cons, hlL_cons]
    simp only [List.length_append]; omega
end
theorem wk_wt (xs : List PartD) (s : St) : (wkL s xs).1.length ≤ wtL xs := Nat.le_trans (wk_leL xs s) (hlL_le xs)
theorem wk_pre (s : St) (xs : List PartD) (k : Nat) : (wkL s (xs.take k)).1.length ≤ (wkL s xs).1.length := by
  have e : wkL s xs = wkL s (xs.take k ++ xs.drop k) := by rw [List.take_append_drop]
  rw [e, wkL_append]
  simp only [List.length_append]; omega
/-- The places of holes. -/
def plcs (l : List (Bs × St)) : List Int := l.map fun h => placeM h.2
theorem plcs_append (a b : List (Bs × St)) : plcs (a ++ b) = plcs a ++ plcs b := by simp [plcs]
theorem plcs_len (l : List (Bs × St)) : (plcs l).length = l.length := by simp [plcs]
theorem plcN_append (n : Bs) (a b : List (Bs × St)) : plcN n (a ++ b) = plcN n a ++ plcN n b := by simp [plcN]
theorem plcN_len (n : Bs) (l : List (Bs × St)) : (plcN n l).length ≤ l.length := by
  have := (plcN_sub n l).length_le
  simpa using this
theorem plcN_one (n m : Bs) (s : St) : plcN n [(m, s)] = if m = n then [placeM s] else [] := by
  unfold plcN
  by_cases h : m = n <;> simp [h]
theorem gd_none {d : Nat} {k : Int} {t n : Bs} {ps os : List PartD} (h : gdP d (.mk k t n ps os) = true) (hk : ¬ (k = 3 ∨ k = 4)) : (k = 1 ∨ k = 2) ∧ ps = [] ∧ os = [] := by
  rw [gdP_mk] at h
  by_cases k1 : k = 1
  · rw [if_pos k1] at h
    simp only [Bool.and_eq_true, decide_eq_true_eq] at h
    obtain ⟨⟨_, rfl⟩, rfl⟩ := h
    exact ⟨.inl k1, rfl, rfl⟩
  rw [if_neg k1] at h
  by_cases k2 : k = 2
  · rw [if_pos k2] at h
    simp only [Bool.and_eq_true, decide_eq_true_eq] at h
    obtain ⟨⟨_, rfl⟩, rfl⟩ := h
    exact ⟨.inr k2, rfl, rfl⟩
  rw [if_neg k2, if_neg hk] at h
  cases h
theorem gd_each {d : Nat} {k : Int} {t n : Bs} {ps os : List PartD} (h : gdP d (.mk k t n ps os) = true) (hk : k = 4) : os = [] := by
  rw [gdP_mk, if_neg (by omega), if_neg (by omega), if_pos (by omega)] at h
  simp only [Bool.and_eq_true] at h
  have := h.1.1.1.2
  simpa [hk] using this
theorem gd_sub {d : Nat} {k : Int} {t n : Bs} {ps os : List PartD} (h : gdP d (.mk k t n ps os) = true) : (∃ d b, gdL d b ps = true) ∧ ∃ d b, gdL d b os = true := by
  by_cases hk : k = 3 ∨ k = 4
  · rw [gdP_mk, if_neg (by omega), if_neg (by omega), if_pos hk] at h
    simp only [Bool.and_eq_true] at h
    exact ⟨⟨_, _, h.1.2⟩, ⟨_, _, h.2⟩⟩
  · obtain ⟨_, rfl, rfl⟩ := gd_none h hk
    exact ⟨⟨0, false, gdL_nil _ _⟩, ⟨0, false, gdL_nil _ _⟩⟩
theorem gd_at {d : Nat} {x : PartD} : ∀ {xs : List PartD} {b : Bool} {k : Nat}, gdL d b xs = true → xs[k]? = some x → gdP d x = true
  | [], _, _, _, h => by simp at h
  | y :: ys, b, 0, hg, h => by
    obtain rfl : y = x := by simpa using h
    rw [gdL] at hg
    simp only [Bool.and_eq_true] at hg
    exact hg.1.1
  | y :: ys, b, k + 1, hg, h => by
    rw [gdL] at hg
    simp only [Bool.and_eq_true] at hg
    exact gd_at hg.2 (by simpa using h)
theorem wk_parts {d : Nat} {s : St} {k : Int} {t n : Bs} {ps os : List PartD} (h : gdP d (.mk k t n ps os) = true) : (wkP s (.mk k t n ps os)).1 = (if k = 2 then [(n, s)] else []) ++ ((wkL s ps).1 ++ (wkL s os).1) := by
  rw [wkP_mk]
  by_cases hk : k = 3 ∨ k = 4
  · rw [if_neg (by omega), if_neg (by omega), if_neg (show ¬ k = 2 by omega)]
    by_cases k4 : k = 4
    · rw [if_neg (by omega), if_pos k4, gd_each h k4, wkL_nil]; simp
    · rw [if_pos (by omega)]; simp
  · obtain ⟨h12, rfl, rfl⟩ := gd_none h hk
    rw [wkL_nil]
    rcases h12 with h1 | h1
    · rw [if_pos h1, if_neg (by omega)]; simp
    · rw [if_neg (by omega), if_pos h1, if_pos h1]; simp
theorem kids_ok {d : Nat} {s : St} {k : Int} {t n : Bs} {ps os : List PartD} (h : gdP d (.mk k t n ps os) = true) (hs : s.mode ≠ 15) (hm : (chkP s (.mk k t n ps os)).mode ≠ 15) : (chkL s ps).mode ≠ 15 ∧ (chkL s os).mode ≠ 15 := by
  by_cases hk : k = 3 ∨ k = 4
  · obtain ⟨h1, h2, h3⟩ := kids_chk hm hk
    refine ⟨h1, ?_⟩
    by_cases k4 : k = 4
    · rw [gd_each h k4, chkL_nil]; exact hs
    · rw [h2 (by omega)]; exact h1
  · obtain ⟨_, rfl, rfl⟩ := gd_none h hk
    rw [chkL_nil]; exact ⟨hs, hs⟩
/-- One more part of a list that leads to no bad state. -/
theorem chk_at {s : St} {xs : List PartD} {k : Nat} {x : PartD} {d : Nat} {b : Bool} (hv : stV s = true) (hg : gdL d b xs = true) (hm : (chkL s xs).mode ≠ 15) (hx : xs[k]? = some x) :
    gdP d x = true ∧ (chkL s (xs.take k)).mode ≠ 15 ∧ (chkP (chkL s (xs.take k)) x).mode ≠ 15 ∧ (wkL s (xs.take k)).2 = chkL s (xs.take k) ∧ chkL s (xs.take (k + 1)) = chkP (chkL s (xs.take k)) x ∧ chkL (chkL s (xs.take k)) [x] = chkP (chkL s (xs.take k)) x := by
  have h0 := chk_take hv hm 0
  rw [List.take_zero, chkL_nil] at h0
  have h1 := chk_take hv hm k
  have h2 := chk_take hv hm (k + 1)
  have hsn := chkL_snoc hx h0 h1
  have h3 : (chkP (chkL s (xs.take k)) x).mode ≠ 15 := by
    intro h
    rw [hsn, if_pos h] at h2
    exact h2 rfl
  refine ⟨gd_at hg hx, h1, h3, wk_chkL _ d s b (gdL_take hg k) h1, by rw [hsn, if_neg h3], ?_⟩
  rw [chkL_cons, if_neg h3, chkL_nil]
end Go.Proofs.Ytdedddmnacomfaa

/- Data: places of fields. Plain. -/
namespace Go.Proofs.Ytdedddmnacomfaa
set_option maxRecDepth 100000
set_option linter.unusedVariables false
set_option linter.unusedSimpArgs false
open Go.RowKit
theorem encFs_get (l : List FieldD) (k : Nat) : (encFs l)[k]? = (l[k]?).map encF := by unfold encFs; rw [List.getElem?_map]
theorem encFs_length (l : List FieldD) : (encFs l).length = l.length := by unfold encFs; simp
theorem strs_length (l : List Bs) : (strs l).length = l.length := by unfold strs; simp
theorem encFs_all (l : List FieldD) : (∀ e ∈ encFs l, e.length = 4) = True := eq_true (by
  intro e he; unfold encFs at he
  obtain ⟨f, _, rfl⟩ := List.mem_map.1 he; rfl)
theorem strs_all (l : List Bs) : (∀ e ∈ strs l, e.length = 1) = True := eq_true (by
  intro e he; unfold strs at he
  obtain ⟨f, _, rfl⟩ := List.mem_map.1 he; rfl)
theorem encF_mk (n t : Bs) (h : Bool) (i : List Bs) : encF ⟨n, t, h, i⟩ = [.str n, .str t, .bool h, .seq (strs i)] := rfl
theorem encFs_append (a b : List FieldD) : encFs (a ++ b) = encFs a ++ encFs b := by unfold encFs; rw [List.map_append]
theorem strK_inj {a b : List Bs} (h : strs a = strs b) : a = b := by
  induction a generalizing b with
  | nil => cases b with
    | nil => rfl
    | cons y ys => simp [strs] at h
  | cons x xs ih => cases b with
    | nil => simp [strs] at h
    | cons y ys =>
      unfold strs at h
      rw [List.map_cons, List.map_cons] at h
      simp only [List.cons.injEq, PV.str.injEq, and_true] at h
      rw [h.1, ih h.2]
theorem strs_iff {a b : List Bs} : strs a = strs b ↔ a = b := ⟨strK_inj, fun h => h ▸ rfl⟩
/-- Lengths that are numbers. -/
def okF (l : List FieldD) : Prop := l.length ≤ 9223372036854775807 ∧ ∀ f ∈ l, f.name.length ≤ 9223372036854775807 ∧ f.text.length ≤ 9223372036854775807 ∧ f.items.length ≤ 9223372036854775807 ∧ ∀ t ∈ f.items, t.length ≤ 9223372036854775807
end Go.Proofs.Ytdedddmnacomfaa
