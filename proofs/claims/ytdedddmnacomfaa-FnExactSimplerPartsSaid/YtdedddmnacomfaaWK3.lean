/- Data; what comes when parts are filled in: as data. No program. -/
import Derived.Test.YtdedddmnacomfaaWTY
import Derived.Test.YtdedddmnacomfaaWFP
import Derived.Lib.Bytealg

namespace Go.Proofs.Ytdedddmnacomfaa
set_option maxRecDepth 100000
set_option linter.unusedVariables false
set_option linter.unusedSimpArgs false
open Go.RowKit
structure FieldD where
  name : Bs
  text : Bs
  holds : Bool
  items : List Bs
  deriving DecidableEq
inductive Ev where
  | txt (t : Bs)
  | hole (f : FieldD) (s : St)
end Go.Proofs.Ytdedddmnacomfaa

/- Holes of parts with their states; what is chosen of filled holes. Plain. -/
namespace Go.Proofs.Ytdedddmnacomfaa
set_option maxRecDepth 100000
set_option linter.unusedVariables false
set_option linter.unusedSimpArgs false
open Go.RowKit
mutual
/-- The number of holes. -/
def hlP : PartD → Nat
  | .mk k _ _ ps os => (if k = 2 then 1 else 0) + hlL ps + hlL os
def hlL : List PartD → Nat
  | [] => 0
  | x :: xs => hlP x + hlL xs
end
end Go.Proofs.Ytdedddmnacomfaa

/- Simpler parts; parts put into others. Plain. -/
namespace Go.Proofs.Ytdedddmnacomfaa
set_option maxRecDepth 100000
set_option linter.unusedVariables false
set_option linter.unusedSimpArgs false
open Go.RowKit
def PartD.txt : PartD → Bs
  | .mk _ t _ _ _ => t
/-- The text that stands at the end, if one does. -/
def endT : List PartD → Option Bs
  | [] => none
  | [.mk k t _ _ _] => if k = 1 then some t else none
  | _ :: y :: r => endT (y :: r)
/-- A text put behind the text at the end. -/
def joinT : List PartD → Bs → List PartD
  | [], _ => []
  | [.mk k t n a b], u => [.mk k (t ++ u) n a b]
  | x :: y :: r, u => x :: joinT (y :: r) u
def emptyK : PartD → Bool
  | .mk k _ _ ps os => (decide (k = 3) || decide (k = 4)) && decide (ps = []) && decide (os = [])
theorem endT_snoc : ∀ (xs : List PartD) (k : Int) (t n : Bs) (a b : List PartD), endT (xs ++ [.mk k t n a b]) = if k = 1 then some t else none
  | [], k, t, n, a, b => rfl
  | [x], k, t, n, a, b => by simp [endT]
  | x :: y :: r, k, t, n, a, b => by
    have := endT_snoc (y :: r) k t n a b
    simpa [endT] using this
theorem joinT_snoc : ∀ (xs : List PartD) (k : Int) (t n : Bs) (a b : List PartD) (u : Bs), joinT (xs ++ [.mk k t n a b]) u = xs ++ [.mk k (t ++ u) n a b]
  | [], k, t, n, a, b, u => rfl
  | [x], k, t, n, a, b, u => by simp [joinT]
  | x :: y :: r, k, t, n, a, b, u => by
    have := joinT_snoc (y :: r) k t n a b u
    simpa [joinT] using this
theorem endT_some {xs : List PartD} {t : Bs} (h : endT xs = some t) : ∃ ys n a b, xs = ys ++ [.mk 1 t n a b] := by
  rcases List.eq_nil_or_concat xs with rfl | ⟨ys, ⟨k, t', n, a, b⟩, rfl⟩
  · cases h
  · rw [List.concat_eq_append, endT_snoc] at h
    split at h
    · cases h; subst_vars; exact ⟨ys, n, a, b, List.concat_eq_append⟩
    · cases h
/-- A part put behind others, as the program does: none where a text would be too long. -/
def putS (out : List PartD) (p : PartD) : Option (List PartD) :=
  if emptyK p = true then some out
  else if p.kind = 1 then (match endT out with
    | some t => if (t ++ p.txt).length ≤ 600 then some (joinT out p.txt) else none
    | none => some (out ++ [p]))
  else some (out ++ [p])
/-- .. as the reference does: the text stands for itself there. -/
def putR (out : List PartD) (p : PartD) : List PartD :=
  if emptyK p = true then out
  else if p.kind = 1 then (match endT out with
    | some t => if (t ++ p.txt).length ≤ 600 then joinT out p.txt else out ++ [p]
    | none => out ++ [p])
  else out ++ [p]
mutual
def smP : PartD → Option PartD
  | .mk k t n ps os => match smG [] ps, smG [] os with
    | some a, some b => some (.mk k t n a b)
    | _, _ => none
def smG (out : List PartD) : List PartD → Option (List PartD)
  | [] => some out
  | x :: xs => match smP x with
    | none => none
    | some p => match putS out p with
      | none => none
      | some o => smG o xs
end
mutual
def srP : PartD → PartD
  | .mk k t n ps os => .mk k t n (srG [] ps) (srG [] os)
def srG (out : List PartD) : List PartD → List PartD
  | [] => out
  | x :: xs => srG (putR out (srP x)) xs
end
theorem smP_mk (k : Int) (t n : Bs) (ps os : List PartD) : smP (.mk k t n ps os) = match smG [] ps, smG [] os with
    | some a, some b => some (.mk k t n a b)
    | _, _ => none := by rw [smP]
theorem smG_nil (out : List PartD) : smG out [] = some out := by rw [smG]
theorem smG_cons (out : List PartD) (x : PartD) (xs : List PartD) : smG out (x :: xs) = match smP x with
    | none => none
    | some p => match putS out p with
      | none => none
      | some o => smG o xs := by rw [smG]
theorem srP_mk (k : Int) (t n : Bs) (ps os : List PartD) : srP (.mk k t n ps os) = .mk k t n (srG [] ps) (srG [] os) := by rw [srP]
theorem srG_nil (out : List PartD) : srG out [] = out := by rw [srG]
theorem srG_cons (out : List PartD) (x : PartD) (xs : List PartD) : srG out (x :: xs) = srG (putR out (srP x)) xs := by rw [srG]
theorem smG_append : ∀ (xs ys out : List PartD), smG out (xs ++ ys) = (smG out xs).bind fun o => smG o ys
  | [], ys, out => by rw [smG_nil]; rfl
  | x :: xs, ys, out => by
    rw [List.cons_append, smG_cons, smG_cons]
    cases smP x with
    | none => rfl
    | some p =>
      dsimp only
      cases putS out p with
      | none => rfl
      | some o => exact smG_append xs ys o
theorem smG_snoc {out : List PartD} {xs : List PartD} {k : Nat} {x : PartD} (h : xs[k]? = some x) : smG out (xs.take (k + 1)) = (smG out (xs.take k)).bind fun o => (smP x).bind fun p => putS o p := by
  rw [take_snoc' h, smG_append]
  congr 1
  funext o
  rw [smG_cons]
  cases smP x with
  | none => rfl
  | some p =>
    dsimp only
    show (match putS o p with | none => none | some o => smG o []) = putS o p
    cases putS o p with
    | none => rfl
    | some o' => exact smG_nil o'
theorem smG_stop {out : List PartD} {xs : List PartD} (k : Nat) (h : smG out (xs.take k) = none) : smG out xs = none := by
  have := smG_append (xs.take k) (xs.drop k) out
  rw [List.take_append_drop, h] at this
  exact this
theorem srG_append : ∀ (xs ys out : List PartD), srG out (xs ++ ys) = srG (srG out xs) ys
  | [], ys, out => by rw [srG_nil]; rfl
  | x :: xs, ys, out => by rw [List.cons_append, srG_cons, srG_cons, srG_append xs ys]
theorem srG_snoc {out : List PartD} {xs : List PartD} {k : Nat} {x : PartD} (h : xs[k]? = some x) : srG out (xs.take (k + 1)) = putR (srG out (xs.take k)) (srP x) := by
  rw [take_snoc' h, srG_append, srG_cons, srG_nil]
theorem putS_putR {out o : List PartD} {p : PartD} (h : putS out p = some o) : putR out p = o := by
  unfold putS at h
  unfold putR
  split at h
  · rename_i e; rw [if_pos e]; exact Option.some.inj h
  rename_i e
  rw [if_neg e]
  split at h
  · rename_i e1
    rw [if_pos e1]
    split at h
    · rename_i t ht
      split at h
      · rename_i hl; rw [if_pos hl]; exact Option.some.inj h
      · cases h
    · exact Option.some.inj h
  · rename_i e1; rw [if_neg e1]; exact Option.some.inj h
mutual
theorem smP_srP : ∀ (x p : PartD), smP x = some p → srP x = p
  | .mk k t n ps os, p, h => by
    rw [smP_mk] at h
    rw [srP_mk]
    split at h
    · rename_i a b h1 h2
      rw [smG_srG ps [] a h1, smG_srG os [] b h2]
      exact Option.some.inj h
    · cases h
theorem smG_srG : ∀ (xs out r : List PartD), smG out xs = some r → srG out xs = r
  | [], out, r, h => by rw [smG_nil] at h; rw [srG_nil]; exact Option.some.inj h
  | x :: xs, out, r, h => by
    rw [smG_cons] at h
    rw [srG_cons]
    split at h
    · cases h
    · rename_i p hp
      rw [smP_srP x p hp]
      split at h
      · cases h
      · rename_i o ho
        rw [putS_putR ho]
        exact smG_srG xs o r h
end
mutual
/-- Texts and holes have no parts within them; kinds are known. -/
def kidP : PartD → Prop
  | .mk k _ _ ps os => (k = 1 ∨ k = 2) ∧ ps = [] ∧ os = [] ∨ (k = 3 ∨ k = 4) ∧ kidL ps ∧ kidL os
def kidL : List PartD → Prop
  | [] => True
  | x :: xs => kidP x ∧ kidL xs
end
theorem kidP_mk (k : Int) (t n : Bs) (ps os : List PartD) : kidP (.mk k t n ps os) ↔ (k = 1 ∨ k = 2) ∧ ps = [] ∧ os = [] ∨ (k = 3 ∨ k = 4) ∧ kidL ps ∧ kidL os := by rw [kidP]
theorem kidL_cons (x : PartD) (xs : List PartD) : kidL (x :: xs) ↔ kidP x ∧ kidL xs := by rw [kidL]
theorem kidL_append : ∀ xs ys : List PartD, kidL (xs ++ ys) ↔ kidL xs ∧ kidL ys
  | [], ys => by simp [kidL]
  | x :: xs, ys => by rw [List.cons_append, kidL_cons, kidL_cons, kidL_append xs ys, and_assoc]
mutual
theorem gd_kidP : ∀ (x : PartD) (d : Nat), gdP d x = true → kidP x
  | .mk k t n ps os, d, h => by
    rw [gdP_mk] at h
    rw [kidP_mk]
    split at h
    · simp only [Bool.and_eq_true, decide_eq_true_eq] at h
      exact .inl ⟨.inl ‹_›, h.1.2, h.2⟩
    split at h
    · simp only [Bool.and_eq_true, decide_eq_true_eq] at h
      exact .inl ⟨.inr ‹_›, h.1.2, h.2⟩
    split at h
    · simp only [Bool.and_eq_true] at h
      exact .inr ⟨‹_›, gd_kidL ps _ _ h.1.2, gd_kidL os _ _ h.2⟩
    · cases h
theorem gd_kidL : ∀ (xs : List PartD) (d : Nat) (b : Bool), gdL d b xs = true → kidL xs
  | [], d, b, _ => by simp [kidL]
  | x :: xs, d, b, h => by
    rw [gdL] at h
    simp only [Bool.and_eq_true] at h
    rw [kidL_cons]
    exact ⟨gd_kidP x d h.1.1, gd_kidL xs d _ h.2⟩
end
/-- What no valid row holds: two texts side by side, or a PartIf or PartEach that is not valid. -/
def sick (l : List PartD) : Prop := (∃ xs x y ys, l = xs ++ x :: y :: ys ∧ x.kind = 1 ∧ y.kind = 1) ∨ ∃ x ∈ l, (x.kind = 3 ∨ x.kind = 4) ∧ ∀ d, gdP d x = false
theorem gdL_head {d : Nat} : ∀ {xs ys : List PartD} {b : Bool}, gdL d b (xs ++ ys) = true → ∃ b', gdL d b' ys = true
  | [], ys, b, h => ⟨b, h⟩
  | x :: xs, ys, b, h => by
    rw [List.cons_append, gdL] at h
    simp only [Bool.and_eq_true] at h
    exact gdL_head h.2
theorem sick_bad {l : List PartD} (h : sick l) (d : Nat) (b : Bool) : gdL d b l = false := by
  cases hg : gdL d b l with
  | false => rfl
  | true =>
    exfalso
    rcases h with ⟨xs, x, y, ys, rfl, hx, hy⟩ | ⟨x, hx, _, hf⟩
    · obtain ⟨b', hb⟩ := gdL_head hg
      rw [gdL, gdL] at hb
      simp only [Bool.and_eq_true, hx, hy, decide_true, Bool.true_and] at hb
      exact absurd hb.2.1.2 (by decide)
    · obtain ⟨xs, ys, rfl⟩ := List.append_of_mem hx
      obtain ⟨b', hb⟩ := gdL_head hg
      rw [gdL] at hb
      simp only [Bool.and_eq_true] at hb
      rw [hf d] at hb
      exact absurd hb.1.1 (by decide)
theorem joinT_kinds : ∀ (l : List PartD) (u : Bs), (joinT l u).map PartD.kind = l.map PartD.kind
  | [], u => rfl
  | [.mk k t n a b], u => rfl
  | x :: y :: r, u => by
    have := joinT_kinds (y :: r) u
    simp only [joinT, List.map_cons] at this ⊢
    rw [this]
theorem sick_snoc {l : List PartD} (h : sick l) (p : PartD) : sick (l ++ [p]) := by
  rcases h with ⟨xs, x, y, ys, rfl, hx, hy⟩ | ⟨x, hx, h⟩
  · exact .inl ⟨xs, x, y, ys ++ [p], by simp, hx, hy⟩
  · exact .inr ⟨x, by simp [hx], h⟩
theorem two_of_kinds {l l' : List PartD} (hk : l'.map PartD.kind = l.map PartD.kind) (h : ∃ xs x y ys, l = xs ++ x :: y :: ys ∧ x.kind = 1 ∧ y.kind = 1) : ∃ xs x y ys, l' = xs ++ x :: y :: ys ∧ x.kind = 1 ∧ y.kind = 1 := by
  obtain ⟨xs, x, y, ys, rfl, hx, hy⟩ := h
  rw [List.map_append, List.map_cons, List.map_cons] at hk
  obtain ⟨us, vs, rfl, h1, h2⟩ := List.map_eq_append_iff.1 hk
  obtain ⟨a, vs', rfl, h3, h4⟩ := List.map_eq_cons_iff.1 h2
  obtain ⟨b, cs, rfl, h5, h6⟩ := List.map_eq_cons_iff.1 h4
  exact ⟨us, a, b, cs, rfl, h3.trans hx, h5.trans hy⟩
theorem sick_join {l : List PartD} (h : sick l) {t : Bs} (ht : endT l = some t) (u : Bs) : sick (joinT l u) := by
  rcases h with h | ⟨x, hx, hk, hf⟩
  · exact .inl (two_of_kinds (joinT_kinds l u) h)
  · obtain ⟨ys, n, a, b, rfl⟩ := endT_some ht
    rw [joinT_snoc]
    rcases List.mem_append.1 hx with hx | hx
    · exact .inr ⟨x, by simp [hx], hk, hf⟩
    · simp only [List.mem_singleton] at hx
      subst hx
      rw [kind_mk] at hk
      omega
theorem sick_putR {l : List PartD} (h : sick l) (p : PartD) : sick (putR l p) := by
  unfold putR
  split
  · exact h
  split
  · split
    · rename_i t ht
      split
      · exact sick_join h ht _
      · exact sick_snoc h p
    · exact sick_snoc h p
  · exact sick_snoc h p
theorem sick_srG : ∀ (xs out : List PartD), sick out → sick (srG out xs)
  | [], out, h => by rw [srG_nil]; exact h
  | x :: xs, out, h => by rw [srG_cons]; exact sick_srG xs _ (sick_putR h _)
theorem sick_ne {l : List PartD} (h : sick l) : l ≠ [] := by
  rintro rfl
  rcases h with ⟨xs, x, y, ys, e, _⟩ | ⟨x, hx, _⟩
  · simp at e
  · simp at hx
theorem putS_none {out : List PartD} {p : PartD} (h : putS out p = none) : sick (putR out p) := by
  unfold putS at h
  unfold putR
  split at h
  · cases h
  rename_i e
  rw [if_neg e]
  split at h
  · rename_i e1
    rw [if_pos e1]
    split at h
    · rename_i t ht
      split at h
      · cases h
      · rename_i hl
        rw [if_neg hl]
        obtain ⟨ys, n, a, b, rfl⟩ := endT_some ht
        exact .inl ⟨ys, .mk 1 t n a b, p, [], by simp, rfl, e1⟩
    · cases h
  · cases h
mutual
theorem smP_none : ∀ x : PartD, kidP x → smP x = none → (x.kind = 3 ∨ x.kind = 4) ∧ (∀ d, gdP d (srP x) = false) ∧ emptyK (srP x) = false
  | .mk k t n ps os, hk, h => by
    rw [kidP_mk] at hk
    rw [smP_mk] at h
    rw [srP_mk, kind_mk]
    rcases hk with ⟨_, rfl, rfl⟩ | ⟨hk, h1, h2⟩
    · rw [smG_nil] at h; cases h
    · refine ⟨hk, ?_⟩
      have hsick : sick (srG [] ps) ∨ sick (srG [] os) := by
        cases e1 : smG [] ps with
        | none => exact .inl (smG_none ps [] h1 e1)
        | some a =>
          cases e2 : smG [] os with
          | none => exact .inr (smG_none os [] h2 e2)
          | some b => rw [e1, e2] at h; cases h
      constructor
      · intro d
        rw [gdP_mk, if_neg (by omega), if_neg (by omega), if_pos hk]
        rcases hsick with hs | hs
        · rw [sick_bad hs]; simp
        · rw [sick_bad hs]; simp
      · show ((decide (k = 3) || decide (k = 4)) && decide (srG [] ps = []) && decide (srG [] os = [])) = false
        rcases hsick with hs | hs
        · rw [decide_eq_false (p := srG [] ps = []) (sick_ne hs)]; simp
        · rw [decide_eq_false (p := srG [] os = []) (sick_ne hs)]; simp
theorem smG_none : ∀ xs out : List PartD, kidL xs → smG out xs = none → sick (srG out xs)
  | [], out, _, h => by rw [smG_nil] at h; cases h
  | x :: xs, out, hk, h => by
    rw [kidL_cons] at hk
    rw [smG_cons] at h
    rw [srG_cons]
    split at h
    · rename_i hx
      obtain ⟨h1, h2, h3⟩ := smP_none x hk.1 hx
      refine sick_srG xs _ ?_
      have hkd : (srP x).kind = x.kind := by cases x; rw [srP_mk]; rfl
      unfold putR
      rw [h3, if_neg (by decide), if_neg (by rw [hkd]; omega)]
      exact .inr ⟨srP x, by simp, by rw [hkd]; exact h1, h2⟩
    · rename_i p hp
      rw [smP_srP x p hp]
      split at h
      · rename_i ho
        exact sick_srG xs _ (putS_none ho)
      · rename_i o ho
        rw [putS_putR ho]
        exact smG_none xs o hk.2 h
end
end Go.Proofs.Ytdedddmnacomfaa

/- Parts put in place of holes; what simpler parts are once more. Plain. -/
namespace Go.Proofs.Ytdedddmnacomfaa
set_option maxRecDepth 100000
set_option linter.unusedVariables false
set_option linter.unusedSimpArgs false
open Go.RowKit
mutual
/-- What stands for a part when others are put in place of the holes with a name. -/
def isP (m : Bs) (o : List PartD) : PartD → List PartD
  | .mk k t n ps os => if k = 2 ∧ n = m then o else [.mk k t n (isL m o ps) (isL m o os)]
def isL (m : Bs) (o : List PartD) : List PartD → List PartD
  | [] => []
  | x :: xs => isP m o x ++ isL m o xs
end
theorem isP_mk (m : Bs) (o : List PartD) (k : Int) (t n : Bs) (ps os : List PartD) : isP m o (.mk k t n ps os) = if k = 2 ∧ n = m then o else [.mk k t n (isL m o ps) (isL m o os)] := by rw [isP]
theorem isL_nil (m : Bs) (o : List PartD) : isL m o [] = [] := by rw [isL]
theorem isL_cons (m : Bs) (o : List PartD) (x : PartD) (xs : List PartD) : isL m o (x :: xs) = isP m o x ++ isL m o xs := by rw [isL]
theorem isL_append (m : Bs) (o : List PartD) : ∀ xs ys : List PartD, isL m o (xs ++ ys) = isL m o xs ++ isL m o ys
  | [], ys => by rw [List.nil_append, isL_nil, List.nil_append]
  | x :: xs, ys => by rw [List.cons_append, isL_cons, isL_cons, isL_append m o xs ys, List.append_assoc]
theorem isL_snoc {m : Bs} {o xs : List PartD} {k : Nat} {x : PartD} (h : xs[k]? = some x) : isL m o (xs.take (k + 1)) = isL m o (xs.take k) ++ isP m o x := by
  rw [take_snoc' h, isL_append, isL_cons, isL_nil, List.append_nil]
mutual
theorem isP_wt (m : Bs) (o : List PartD) : ∀ x : PartD, wtL (isP m o x) ≤ (wtP x + 1) * (wtL o + 1)
  | .mk k t n ps os => by
    have h1 := isL_wt m o ps
    have h2 := isL_wt m o os
    rw [isP_mk, wtP_mk]
    split
    · have : 1 * (wtL o + 1) ≤ (t.length + n.length + wtL ps + wtL os + 1) * (wtL o + 1) := Nat.mul_le_mul_right _ (by omega)
      omega
    · rw [wtL_one, wtP_mk]
      have e : (t.length + n.length + wtL ps + wtL os + 1) * (wtL o + 1) = (t.length + n.length + 1) * (wtL o + 1) + wtL ps * (wtL o + 1) + wtL os * (wtL o + 1) := by
        rw [← Nat.add_mul, ← Nat.add_mul]; congr 1; omega
      have : (t.length + n.length + 1) * 1 ≤ (t.length + n.length + 1) * (wtL o + 1) := Nat.mul_le_mul_left _ (by omega)
      omega
theorem isL_wt (m : Bs) (o : List PartD) : ∀ xs : List PartD, wtL (isL m o xs) ≤ wtL xs * (wtL o + 1)
  | [] => by rw [isL_nil, wtL_nil]; omega
  | x :: xs => by
    have h1 := isP_wt m o x
    have h2 := isL_wt m o xs
    rw [isL_cons, wtL_append, show x :: xs = [x] ++ xs from rfl, wtL_append, wtL_one, Nat.add_mul]
    rw [show 1 + wtP x = wtP x + 1 by omega]
    omega
end
mutual
theorem kid_isP (m : Bs) {o : List PartD} (ho : kidL o) : ∀ x : PartD, kidP x → kidL (isP m o x)
  | .mk k t n ps os, h => by
    rw [kidP_mk] at h
    rw [isP_mk]
    split
    · exact ho
    · rw [kidL_cons, kidP_mk]
      refine ⟨?_, by simp [kidL]⟩
      rcases h with ⟨hk, rfl, rfl⟩ | ⟨hk, h1, h2⟩
      · exact .inl ⟨hk, isL_nil _ _, isL_nil _ _⟩
      · exact .inr ⟨hk, kid_isL m ho ps h1, kid_isL m ho os h2⟩
theorem kid_isL (m : Bs) {o : List PartD} (ho : kidL o) : ∀ xs : List PartD, kidL xs → kidL (isL m o xs)
  | [], _ => by rw [isL_nil]; simp [kidL]
  | x :: xs, h => by
    rw [kidL_cons] at h
    rw [isL_cons, kidL_append]
    exact ⟨kid_isP m ho x h.1, kid_isL m ho xs h.2⟩
end
mutual
/-- Nothing in it is empty, and no two texts stand side by side. -/
def plnP : PartD → Bool
  | .mk k _ _ ps os => !((decide (k = 3) || decide (k = 4)) && decide (ps = []) && decide (os = [])) && plnL false ps && plnL false os
def plnL : Bool → List PartD → Bool
  | _, [] => true
  | b, x :: xs => plnP x && !(b && decide (x.kind = 1)) && plnL (decide (x.kind = 1)) xs
end
theorem plnP_mk (k : Int) (t n : Bs) (ps os : List PartD) : plnP (.mk k t n ps os) = (!((decide (k = 3) || decide (k = 4)) && decide (ps = []) && decide (os = [])) && plnL false ps && plnL false os) := by rw [plnP]
theorem plnL_cons (b : Bool) (x : PartD) (xs : List PartD) : plnL b (x :: xs) = (plnP x && !(b && decide (x.kind = 1)) && plnL (decide (x.kind = 1)) xs) := by rw [plnL]
theorem plnL_append : ∀ (xs ys : List PartD) (b : Bool), plnL b (xs ++ ys) = (plnL b xs && plnL (lastT b xs) ys)
  | [], ys, b => by simp [plnL, lastT]
  | x :: xs, ys, b => by
    rw [List.cons_append, plnL_cons, plnL_cons, plnL_append xs ys, lastT_cons]
    simp only [Bool.and_assoc]
theorem endT_last : ∀ (xs : List PartD), (endT xs).isSome = lastT false xs
  | xs => by
    rcases List.eq_nil_or_concat xs with rfl | ⟨ys, ⟨k, t', n, a, b⟩, rfl⟩
    · rfl
    · rw [List.concat_eq_append, endT_snoc, lastT_snoc, kind_mk]
      by_cases h : k = 1 <;> simp [h]
theorem pln_putR {out : List PartD} {p : PartD} (ho : plnL false out = true) (hp : emptyK p = true ∨ plnP p = true) : (∃ o, putS out p = some o ∧ plnL false o = true) ∨ putS out p = none := by
  unfold putS
  split
  · exact .inl ⟨out, rfl, ho⟩
  rename_i he
  have hpp : plnP p = true := hp.resolve_left he
  have snoc : endT out = none ∨ p.kind ≠ 1 → plnL false (out ++ [p]) = true := by
    intro h
    have hl := endT_last out
    rw [plnL_append, ho, plnL_cons, hpp]
    rcases h with h | h
    · rw [h] at hl
      rw [← hl]; simp [plnL]
    · simp [plnL, h]
  split
  · rename_i e1
    split
    · rename_i t ht
      split
      · left
        refine ⟨_, rfl, ?_⟩
        obtain ⟨ys, n, a, b, rfl⟩ := endT_some ht
        rw [joinT_snoc]
        rw [plnL_append, plnL_cons, plnP_mk] at ho ⊢
        exact ho
      · exact .inr rfl
    · rename_i ht
      exact .inl ⟨_, rfl, snoc (.inl ht)⟩
  · rename_i e1
    exact .inl ⟨_, rfl, snoc (.inr e1)⟩
mutual
theorem pln_smP : ∀ (x p : PartD), smP x = some p → emptyK p = true ∨ plnP p = true
  | .mk k t n ps os, p, h => by
    rw [smP_mk] at h
    split at h
    · rename_i a b h1 h2
      have g1 := pln_smG ps [] a (by simp [plnL]) h1
      have g2 := pln_smG os [] b (by simp [plnL]) h2
      have e := Option.some.inj h
      subst e
      rw [plnP_mk, g1, g2]
      show ((decide (k = 3) || decide (k = 4)) && decide (a = []) && decide (b = [])) = true ∨ _
      cases ((decide (k = 3) || decide (k = 4)) && decide (a = []) && decide (b = [])) <;> simp
    · cases h
theorem pln_smG : ∀ (xs out r : List PartD), plnL false out = true → smG out xs = some r → plnL false r = true
  | [], out, r, ho, h => by rw [smG_nil] at h; exact Option.some.inj h ▸ ho
  | x :: xs, out, r, ho, h => by
    rw [smG_cons] at h
    split at h
    · cases h
    · rename_i p hp
      split at h
      · cases h
      · rename_i o hq
        rcases pln_putR ho (pln_smP x p hp) with ⟨o', h1, h2⟩ | h1
        · rw [hq] at h1
          exact pln_smG xs o r (Option.some.inj h1 ▸ h2) h
        · rw [hq] at h1; cases h1
end
mutual
theorem sm_plnP : ∀ x : PartD, plnP x = true → smP x = some x
  | .mk k t n ps os, h => by
    rw [plnP_mk] at h
    simp only [Bool.and_eq_true] at h
    rw [smP_mk, sm_plnL ps [] h.1.2, sm_plnL os [] h.2]
    rfl
theorem sm_plnL : ∀ (xs out : List PartD), plnL (lastT false out) xs = true → smG out xs = some (out ++ xs)
  | [], out, _ => by rw [smG_nil, List.append_nil]
  | x :: xs, out, h => by
    rw [plnL_cons] at h
    simp only [Bool.and_eq_true] at h
    have hx := sm_plnP x h.1.1
    have he : emptyK x = false := by
      obtain ⟨k, t, n, ps, os⟩ := x
      have := h.1.1
      rw [plnP_mk] at this
      simp only [Bool.and_eq_true, Bool.not_eq_true'] at this
      exact this.1.1
    have hput : putS out x = some (out ++ [x]) := by
      unfold putS
      rw [he, if_neg (by decide)]
      split
      · rename_i e1
        have h2 := h.1.2
        have hl := endT_last out
        rw [e1] at h2
        cases hq : endT out with
        | none => rfl
        | some t => rw [hq] at hl; rw [← hl] at h2; simp at h2
      · rfl
    rw [smG_cons, hx]
    dsimp only
    rw [hput]
    dsimp only
    rw [sm_plnL xs (out ++ [x]) (by rw [lastT_snoc]; exact h.2), List.append_assoc, List.singleton_append]
end
theorem sm_again {xs r : List PartD} (h : smG [] xs = some r) : smG [] r = some r := by
  have := pln_smG xs [] r (by simp [plnL]) h
  have h2 := sm_plnL r [] this
  rwa [List.nil_append] at h2
end Go.Proofs.Ytdedddmnacomfaa

/- Simpler parts of valid parts are valid. Plain. -/
namespace Go.Proofs.Ytdedddmnacomfaa
set_option maxRecDepth 100000
set_option linter.unusedVariables false
set_option linter.unusedSimpArgs false
open Go.RowKit
theorem dbl_cons2 (c a b : UInt8) (r : Bs) : dbl c (a :: b :: r) = ((decide (a = c) && decide (b = c)) || dbl c (b :: r)) := by rw [dbl]
theorem dbl_append {c : UInt8} : ∀ {t u : Bs}, dbl c t = false → dbl c u = false → ¬ (t.getLast? = some c ∧ u.head? = some c) → dbl c (t ++ u) = false
  | [], u, _, hu, _ => hu
  | [a], [], _, _, _ => rfl
  | [a], b :: r, _, hu, hn => by
    show dbl c (a :: b :: r) = false
    rw [dbl_cons2, hu]
    have : ¬ (a = c ∧ b = c) := fun h => hn ⟨by simp [h.1], by simp [h.2]⟩
    by_cases ha : a = c
    · have hb : ¬ b = c := fun h => this ⟨ha, h⟩
      simp [hb]
    · simp [ha]
  | a :: b :: r, u, ht, hu, hn => by
    rw [dbl_cons2] at ht
    simp only [Bool.or_eq_false_iff] at ht
    have := dbl_append (t := b :: r) (u := u) ht.2 hu (by simpa using hn)
    show dbl c (a :: b :: (r ++ u)) = false
    rw [dbl_cons2, ht.1]
    simpa using this
theorem edge_ends {t : Bs} (h : edgeT t = false) (h0 : t ≠ []) : (∀ c, t.head? = some c → brace c = false) ∧ ∀ c, t.getLast? = some c → brace c = false := by
  unfold edgeT at h
  simp only [Bool.or_eq_false_iff] at h
  constructor
  · intro c hc
    cases t with
    | nil => exact absurd rfl h0
    | cons a r =>
      obtain rfl : a = c := by simpa using hc
      exact h.1
  · intro c hc
    have hl := List.length_pos_iff.2 h0
    rw [List.getLast?_eq_getElem?] at hc
    rw [List.getD_eq_getElem?_getD, List.getD_eq_getElem?_getD, hc] at h
    exact h.2
theorem edge_of {t : Bs} (h1 : ∀ c, t.head? = some c → brace c = false) (h2 : ∀ c, t.getLast? = some c → brace c = false) (h0 : t ≠ []) : edgeT t = false := by
  unfold edgeT
  simp only [Bool.or_eq_false_iff]
  constructor
  · cases t with
    | nil => exact absurd rfl h0
    | cons a r => exact h1 a rfl
  · have hl := List.length_pos_iff.2 h0
    have e := List.getElem?_eq_getElem (l := t) (i := t.length - 1) (by omega)
    rw [List.getD_eq_getElem?_getD, e]
    refine h2 _ ?_
    rw [List.getLast?_eq_getElem?, e]; rfl
theorem txtB_join {t u : Bs} (ht : txtB t = true) (hu : txtB u = true) (hl : (t ++ u).length ≤ 600) : txtB (t ++ u) = true := by
  unfold txtB textB at *
  simp only [Bool.and_eq_true, Bool.not_eq_true', decide_eq_true_eq, decide_eq_false_iff_not] at *
  obtain ⟨⟨⟨⟨⟨_, t1⟩, t2⟩, t3⟩, t4⟩, t5⟩ := ht
  obtain ⟨⟨⟨⟨⟨_, u1⟩, u2⟩, u3⟩, u4⟩, u5⟩ := hu
  obtain ⟨e1, e2⟩ := edge_ends t5 t2
  obtain ⟨f1, f2⟩ := edge_ends u5 u2
  have hb : ∀ c, brace c = true → ¬ (t.getLast? = some c ∧ u.head? = some c) := fun c hc h => by rw [e2 c h.1] at hc; cases hc
  have hne : t ++ u ≠ [] := by simp [t2]
  refine ⟨⟨⟨⟨⟨hl, ?_⟩, hne⟩, dbl_append t3 u3 (hb 123 (by decide))⟩, dbl_append t4 u4 (hb 125 (by decide))⟩, edge_of ?_ ?_ hne⟩
  · unfold allB at *
    rw [List.all_append, t1, u1]; rfl
  · intro c hc
    cases t with
    | nil => exact absurd rfl t2
    | cons a r => exact e1 c (by simpa using hc)
  · intro c hc
    have : (t ++ u).getLast? = u.getLast? := by
      rw [List.getLast?_append]
      cases hq : u.getLast? with
      | none => rw [List.getLast?_eq_none_iff] at hq; exact absurd hq u2
      | some x => rfl
    rw [this] at hc
    exact f2 c hc
theorem gd_snoc {d : Nat} {xs : List PartD} {p : PartD} (h : gdL d false xs = true) (hp : gdP d p = true) (hn : endT xs = none ∨ p.kind ≠ 1) : gdL d false (xs ++ [p]) = true := by
  have hl := endT_last xs
  rw [gdL_append, h, gdL_one, hp]
  rcases hn with hn | hn
  · rw [hn] at hl; rw [← hl]; rfl
  · simp [hn]
theorem gd_putS {d : Nat} {out o : List PartD} {p : PartD} (h : gdL d false out = true) (hp : emptyK p = true ∨ gdP d p = true) (hq : putS out p = some o) : gdL d false o = true := by
  unfold putS at hq
  split at hq
  · exact Option.some.inj hq ▸ h
  rename_i he
  have hpp := hp.resolve_left he
  split at hq
  · rename_i e1
    split at hq
    · rename_i t ht
      split at hq
      · rename_i hl
        obtain ⟨ys, n, a, b, rfl⟩ := endT_some ht
        obtain ⟨k, u, n', a', b'⟩ := p
        rw [kind_mk] at e1
        subst e1
        rw [joinT_snoc] at hq
        have hq := Option.some.inj hq
        subst hq
        rw [gdL_append, gdL_one, gdP_mk, if_pos rfl] at h ⊢
        rw [gdP_mk, if_pos rfl] at hpp
        simp only [Bool.and_eq_true] at h hpp ⊢
        exact ⟨h.1, ⟨⟨⟨txtB_join h.2.1.1.1.1 hpp.1.1.1 hl, h.2.1.1.1.2⟩, h.2.1.1.2⟩, h.2.1.2⟩, h.2.2⟩
      · cases hq
    · rename_i ht
      exact Option.some.inj hq ▸ gd_snoc h hpp (.inl ht)
  · rename_i e1
    exact Option.some.inj hq ▸ gd_snoc h hpp (.inr e1)
mutual
theorem gd_smP : ∀ (x p : PartD) (d : Nat), gdP d x = true → smP x = some p → emptyK p = true ∨ gdP d p = true
  | .mk k t n ps os, p, d, hg, h => by
    rw [smP_mk] at h
    rw [gdP_mk] at hg
    split at h
    · rename_i a b h1 h2
      have e := Option.some.inj h
      subst e
      right
      rw [gdP_mk]
      split at hg
      · rename_i k1
        simp only [Bool.and_eq_true, decide_eq_true_eq] at hg
        obtain ⟨⟨⟨g1, g2⟩, rfl⟩, rfl⟩ := hg
        rw [smG_nil] at h1 h2
        rw [if_pos k1, ← Option.some.inj h1, ← Option.some.inj h2, g1, g2]; rfl
      rename_i k1
      rw [if_neg k1]
      split at hg
      · rename_i k2
        simp only [Bool.and_eq_true, decide_eq_true_eq] at hg
        obtain ⟨⟨⟨g1, g2⟩, rfl⟩, rfl⟩ := hg
        rw [smG_nil] at h1 h2
        rw [if_pos k2, ← Option.some.inj h1, ← Option.some.inj h2]
        simp only [Bool.and_eq_true, decide_eq_true_eq]
        exact ⟨⟨⟨g1, g2⟩, trivial⟩, trivial⟩
      rename_i k2
      rw [if_neg k2]
      split at hg
      · rename_i k3
        rw [if_pos k3]
        simp only [Bool.and_eq_true] at hg ⊢
        obtain ⟨⟨⟨⟨⟨g1, g2⟩, g3⟩, g4⟩, g5⟩, g6⟩ := hg
        refine ⟨⟨⟨⟨⟨g1, g2⟩, ?_⟩, g4⟩, gd_smG ps [] a (d - 1) (gdL_nil _ _) ⟨_, g5⟩ h1⟩, gd_smG os [] b (d - 1) (gdL_nil _ _) ⟨_, g6⟩ h2⟩
        by_cases k4 : k = 4
        · have : os = [] := by simpa [k4] using g3
          subst this
          rw [smG_nil] at h2
          rw [← Option.some.inj h2]; simp
        · simp [k4]
      · cases hg
    · cases h
theorem gd_smG : ∀ (xs out r : List PartD) (d : Nat), gdL d false out = true → (∃ b, gdL d b xs = true) → smG out xs = some r → gdL d false r = true
  | [], out, r, d, ho, _, h => by rw [smG_nil] at h; exact Option.some.inj h ▸ ho
  | x :: xs, out, r, d, ho, ⟨b, hg⟩, h => by
    rw [gdL] at hg
    simp only [Bool.and_eq_true] at hg
    rw [smG_cons] at h
    split at h
    · cases h
    · rename_i p hp
      split at h
      · cases h
      · rename_i o hq
        exact gd_smG xs o r d (gd_putS ho (gd_smP x p d hg.1.1 hp) hq) ⟨_, hg.2⟩ h
end
theorem cnt_join : ∀ (l : List PartD) (u : Bs), cntL (joinT l u) = cntL l
  | [], _ => rfl
  | [.mk k t n a b], u => by simp [joinT, cntL, cntP]
  | x :: y :: r, u => by
    have := cnt_join (y :: r) u
    have e1 : ∀ (z : PartD) (l : List PartD), cntL (z :: l) = 1 + cntP z + cntL l := fun z l => by rw [cntL]
    rw [show joinT (x :: y :: r) u = x :: joinT (y :: r) u by rw [joinT], e1, this, e1 x (y :: r)]
theorem cnt_putS {out o : List PartD} {p : PartD} (h : putS out p = some o) : cntL o ≤ cntL out + (1 + cntP p) := by
  unfold putS at h
  have hs : cntL (out ++ [p]) = cntL out + (1 + cntP p) := by rw [cntL_append, cntL_one]
  split at h
  · rw [← Option.some.inj h]; omega
  split at h
  · split at h
    · split at h
      · rw [← Option.some.inj h, cnt_join]; omega
      · cases h
    · rw [← Option.some.inj h]; omega
  · rw [← Option.some.inj h]; omega
mutual
theorem cnt_smP : ∀ (x p : PartD), smP x = some p → cntP p ≤ cntP x
  | .mk k t n ps os, p, h => by
    rw [smP_mk] at h
    split at h
    · rename_i a b h1 h2
      rw [← Option.some.inj h, cntP_mk, cntP_mk]
      have g1 := cnt_smG ps [] a h1
      have g2 := cnt_smG os [] b h2
      rw [cntL_nil] at g1 g2
      omega
    · cases h
theorem cnt_smG : ∀ (xs out r : List PartD), smG out xs = some r → cntL r ≤ cntL out + cntL xs
  | [], out, r, h => by rw [smG_nil] at h; rw [← Option.some.inj h]; omega
  | x :: xs, out, r, h => by
    rw [smG_cons] at h
    split at h
    · cases h
    · rename_i p hp
      split at h
      · cases h
      · rename_i o hq
        have h1 := cnt_smP x p hp
        have h2 := cnt_putS hq
        have h3 := cnt_smG xs o r h
        rw [cntL]
        omega
end
def simM (xs : List PartD) : Option (List PartD) := if partsB xs = true then smG [] xs else none
theorem sim_valid {xs r : List PartD} (h : simM xs = some r) : partsB xs = true ∧ partsB r = true ∧ smG [] xs = some r ∧ simM r = some r := by
  unfold simM at h
  split at h
  · rename_i hp
    have hb := hp
    unfold partsB at hb
    simp only [Bool.and_eq_true, decide_eq_true_eq] at hb
    have hv : partsB r = true := by
      have h1 := cnt_smG xs [] r h
      rw [cntL_nil] at h1
      unfold partsB
      rw [gd_smG xs [] r 3 (gdL_nil _ _) ⟨_, hb.2⟩ h, decide_eq_true (by omega)]; rfl
    refine ⟨hp, hv, h, ?_⟩
    unfold simM
    rw [if_pos hv]
    exact sm_again h
  · cases h
/-- The reference's: the parts if they are valid. -/
theorem sim_ref (xs : List PartD) (hp : partsB xs = true) : (if partsB (srG [] xs) = true then some (srG [] xs) else none) = simM xs := by
  have hb := hp
  unfold partsB at hb
  simp only [Bool.and_eq_true, decide_eq_true_eq] at hb
  cases h : smG [] xs with
  | none =>
    have hs := smG_none xs [] (gd_kidL xs _ _ hb.2) h
    rw [if_neg]
    · unfold simM; rw [if_pos hp, h]
    · intro hq
      unfold partsB at hq
      simp only [Bool.and_eq_true] at hq
      rw [sick_bad hs] at hq
      cases hq.2
  | some r =>
    have hm : simM xs = some r := by unfold simM; rw [if_pos hp, h]
    obtain ⟨_, hv, _, _⟩ := sim_valid hm
    rw [smG_srG xs [] r h, if_pos hv, hm]
/-- Parts put into others, made simpler: what the program finds. -/
def insM (xs : List PartD) (m : Bs) (o : List PartD) : Option (List PartD) :=
  if partsB xs = true ∧ nameB m = true ∧ partsB o = true then (match smG [] (isL m o xs) with
    | some r => if partsB r = true then some r else none
    | none => none) else none
theorem ins_ref (xs : List PartD) (m : Bs) (o : List PartD) (h : partsB xs = true ∧ nameB m = true ∧ partsB o = true) : (if partsB (srG [] (isL m o xs)) = true then some (srG [] (isL m o xs)) else none) = insM xs m o := by
  have hb := h.1
  have ho := h.2.2
  unfold partsB at hb ho
  simp only [Bool.and_eq_true, decide_eq_true_eq] at hb ho
  have hk := kid_isL m (gd_kidL o _ _ ho.2) xs (gd_kidL xs _ _ hb.2)
  unfold insM
  rw [if_pos h]
  cases hq : smG [] (isL m o xs) with
  | none =>
    have hs := smG_none _ [] hk hq
    rw [if_neg]
    intro hp
    unfold partsB at hp
    simp only [Bool.and_eq_true] at hp
    rw [sick_bad hs] at hp
    cases hp.2
  | some r => rw [smG_srG _ [] r hq]
end Go.Proofs.Ytdedddmnacomfaa

/- Simpler parts, by places. Plain. -/
namespace Go.Proofs.Ytdedddmnacomfaa
set_option maxRecDepth 100000
set_option linter.unusedVariables false
set_option linter.unusedSimpArgs false
open Go.RowKit
theorem last_form {o : List PartD} {k2 : Int} {t2 n2 : Bs} {a2 b2 : List PartD} (hx : o[o.length - 1]? = some (.mk k2 t2 n2 a2 b2)) : ∃ ys, o = ys ++ [.mk k2 t2 n2 a2 b2] ∧ ys.length = o.length - 1 := by
  obtain ⟨h1, h2⟩ := List.getElem?_eq_some_iff.1 hx
  refine ⟨o.take (o.length - 1), ?_, by rw [List.length_take]; omega⟩
  have := take_snoc' hx
  rw [show o.length - 1 + 1 = o.length by omega, List.take_length] at this
  exact this
theorem endT_at {o : List PartD} {k2 : Int} {t2 n2 : Bs} {a2 b2 : List PartD} (hx : o[o.length - 1]? = some (.mk k2 t2 n2 a2 b2)) : endT o = if k2 = 1 then some t2 else none := by
  obtain ⟨ys, e, _⟩ := last_form hx
  rw [e, endT_snoc]
theorem joinT_at {o : List PartD} {k2 : Int} {t2 n2 : Bs} {a2 b2 : List PartD} (hx : o[o.length - 1]? = some (.mk k2 t2 n2 a2 b2)) (u : Bs) : joinT o u = o.set (o.length - 1) (.mk k2 (t2 ++ u) n2 a2 b2) := by
  obtain ⟨ys, e, hl⟩ := last_form hx
  rw [← hl]
  rw [e, joinT_snoc, List.set_append_right _ _ (Nat.le_refl _), Nat.sub_self, List.set_cons_zero]
theorem put_hit {o : List PartD} {k2 : Int} {t2 n2 t nm : Bs} {a2 b2 a b : List PartD} (hx : o[o.length - 1]? = some (.mk k2 t2 n2 a2 b2)) (h : k2 = 1) : putS o (.mk 1 t nm a b) = if (t2 ++ t).length ≤ 600 then some (o.set (o.length - 1) (.mk k2 (t2 ++ t) n2 a2 b2)) else none := by
  subst h
  unfold putS
  rw [if_neg (by simp [emptyK]), kind_mk, if_pos rfl, endT_at hx, if_pos rfl]
  dsimp only [PartD.txt]
  rw [joinT_at hx]
  first | rfl | (split <;> rfl)
theorem put_new {o : List PartD} {kd : Int} {t nm : Bs} {a b : List PartD} (he : emptyK (.mk kd t nm a b) = false) (h : kd ≠ 1 ∨ endT o = none) : putS o (.mk kd t nm a b) = some (o ++ [.mk kd t nm a b]) := by
  unfold putS
  rw [if_neg (by rw [he]; decide), kind_mk]
  rcases h with h | h
  · rw [if_neg h]
  · split
    · rw [h]
    · rfl
theorem put_skip {o : List PartD} {p : PartD} (he : emptyK p = true) : putS o p = some o := by
  unfold putS; rw [if_pos he]
theorem putR_hit {o : List PartD} {k2 : Int} {t2 n2 t nm : Bs} {a2 b2 a b : List PartD} (hx : o[o.length - 1]? = some (.mk k2 t2 n2 a2 b2)) (h : k2 = 1) : putR o (.mk 1 t nm a b) = if (t2 ++ t).length ≤ 600 then o.set (o.length - 1) (.mk k2 (t2 ++ t) n2 a2 b2) else o ++ [.mk 1 t nm a b] := by
  subst h
  unfold putR
  rw [if_neg (by simp [emptyK]), kind_mk, if_pos rfl, endT_at hx, if_pos rfl]
  dsimp only [PartD.txt]
  rw [joinT_at hx]
  first | rfl | (split <;> rfl)
theorem putR_new {o : List PartD} {kd : Int} {t nm : Bs} {a b : List PartD} (he : emptyK (.mk kd t nm a b) = false) (h : kd ≠ 1 ∨ endT o = none) : putR o (.mk kd t nm a b) = o ++ [.mk kd t nm a b] := by
  unfold putR
  rw [if_neg (by rw [he]; decide), kind_mk]
  rcases h with h | h
  · rw [if_neg h]
  · split
    · rw [h]
    · rfl
theorem putR_skip {o : List PartD} {p : PartD} (he : emptyK p = true) : putR o p = o := by
  unfold putR; rw [if_pos he]
theorem emptyK_mk (kd : Int) (t nm : Bs) (a b : List PartD) : emptyK (.mk kd t nm a b) = true ↔ (kd = 3 ∨ kd = 4) ∧ a = [] ∧ b = [] := by
  simp [emptyK, and_assoc]
theorem wt_join : ∀ (o : List PartD) (u : Bs), wtL (joinT o u) ≤ wtL o + u.length := by
  intro o u
  by_cases h0 : o = []
  · subst h0; simp [joinT]
  · obtain ⟨⟨k2, t2, n2, a2, b2⟩, hx⟩ := get_some (xs := o) (k := o.length - 1) (by have := List.length_pos_iff.2 h0; omega)
    obtain ⟨ys, e, _⟩ := last_form hx
    rw [e, joinT_snoc, wtL_append, wtL_append, wtL_one, wtL_one, wtP_mk, wtP_mk, List.length_append]
    omega
theorem wt_putR (o : List PartD) (p : PartD) : wtL (putR o p) ≤ wtL o + (1 + wtP p) := by
  obtain ⟨kd, t, nm, a, b⟩ := p
  have hj := wt_join o t
  have hs : wtL (o ++ [.mk kd t nm a b]) = wtL o + (1 + wtP (.mk kd t nm a b)) := by rw [wtL_append, wtL_one]
  have hw := wtP_mk kd t nm a b
  unfold putR
  split
  · omega
  split
  · split
    · split
      · show wtL (joinT o t) ≤ _
        omega
      · omega
    · omega
  · omega
mutual
theorem wt_srP : ∀ x : PartD, wtP (srP x) ≤ wtP x
  | .mk k t n ps os => by
    have h1 := wt_srG ps []
    have h2 := wt_srG os []
    rw [wtL_nil] at h1 h2
    rw [srP_mk, wtP_mk, wtP_mk]
    omega
theorem wt_srG : ∀ xs out : List PartD, wtL (srG out xs) ≤ wtL out + wtL xs
  | [], out => by rw [srG_nil, wtL_nil]; omega
  | x :: xs, out => by
    have h1 := wt_srP x
    have h2 := wt_srG xs (putR out (srP x))
    have h3 := wt_putR out (srP x)
    rw [srG_cons, show x :: xs = [x] ++ xs from rfl, wtL_append, wtL_one]
    omega
end
theorem wt_smG {xs r : List PartD} (h : smG [] xs = some r) : wtL r ≤ wtL xs := by
  have := wt_srG xs []
  rw [smG_srG _ _ _ h, wtL_nil] at this
  omega
end Go.Proofs.Ytdedddmnacomfaa
