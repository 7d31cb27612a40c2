/- Data; what comes when parts are filled in: as data. No program. -/
import Derived.Test.YtdedddmnacomfaaVFP
import Derived.Test.YtdedddmnacomfaaVK2
import Derived.Test.YtdedddmnacomfaaVF12

namespace Go.Proofs.Ytdedddmnacomfaa
set_option maxRecDepth 100000
set_option linter.unusedVariables false
set_option linter.unusedSimpArgs false
open Go.RowKit
structure FieldD where
  name : Bs
  text : Bs
  holds : Bool
  items : List Bs
  deriving DecidableEq
def strs (l : List Bs) : List (List PV) := l.map fun t => [.str t]
def encF (f : FieldD) : List PV := [.str f.name, .str f.text, .bool f.holds, .seq (strs f.items)]
def encFs (l : List FieldD) : List (List PV) := l.map encF
def noF : FieldD := ⟨[], [], false, []⟩
def findF : List FieldD → Bs → FieldD
  | [], _ => noF
  | f :: r, n => if f.name = n then f else findF r n
def hasF (l : List FieldD) (n : Bs) : Bool := l.any fun f => decide (f.name = n)
def itemN : Bs := [105, 116, 101, 109]
def withF (data : List FieldD) (t : Bs) : List FieldD := ⟨itemN, t, false, []⟩ :: data.filter fun f => !decide (f.name = itemN)
def valB (s : Bs) : Bool := decide (s.length ≤ 40) && textB s
def fldB (f : FieldD) : Bool := nameB f.name && valB f.text && decide (f.items.length ≤ 5) && f.items.all valB
/-- Fields behind others: each valid, its name a new one. -/
def datL : List FieldD → List FieldD → Bool
  | _, [] => true
  | pre, f :: r => fldB f && !hasF pre f.name && datL (pre ++ [f]) r
def dataB (l : List FieldD) : Bool := decide (l.length ≤ 8) && datL [] l
theorem datL_append : ∀ (xs ys pre : List FieldD), datL pre (xs ++ ys) = (datL pre xs && datL (pre ++ xs) ys)
  | [], ys, pre => by simp [datL]
  | x :: xs, ys, pre => by
    rw [List.cons_append, datL, datL, datL_append xs ys, List.append_assoc, List.singleton_append]
    simp only [Bool.and_assoc]
theorem datL_take {l : List FieldD} {k : Nat} {f : FieldD} (h : l[k]? = some f) : datL [] (l.take (k + 1)) = (datL [] (l.take k) && (fldB f && !hasF (l.take k) f.name)) := by
  have e : l.take (k + 1) = l.take k ++ [f] := by
    obtain ⟨h1, rfl⟩ := List.getElem?_eq_some_iff.1 h
    exact List.take_succ_eq_append_getElem h1
  rw [e, datL_append, datL, datL, List.nil_append, Bool.and_true]
theorem datL_fail {l : List FieldD} {k : Nat} {f : FieldD} (h : l[k]? = some f) (hb : (fldB f && !hasF (l.take k) f.name) = false) : datL [] l = false := by
  have e : l = l.take (k + 1) ++ l.drop (k + 1) := (List.take_append_drop _ _).symm
  rw [e, datL_append, datL_take h, hb]; simp
/-- Bounds on data: texts are short, lists too. -/
def dBd (l : List FieldD) : Prop := ∀ f ∈ l, f.name.length ≤ 1000 ∧ f.text.length ≤ 40 ∧ f.items.length ≤ 5 ∧ ∀ t ∈ f.items, t.length ≤ 40
theorem find_mem : ∀ (l : List FieldD) (n : Bs), findF l n ∈ l ∨ findF l n = noF
  | [], _ => .inr rfl
  | f :: r, n => by
    unfold findF
    split
    · exact .inl (by simp)
    · rcases find_mem r n with h | h
      · exact .inl (by simp [h])
      · exact .inr h
theorem find_bd {l : List FieldD} (h : dBd l) (n : Bs) : (findF l n).text.length ≤ 40 ∧ (findF l n).items.length ≤ 5 ∧ ∀ t ∈ (findF l n).items, t.length ≤ 40 := by
  rcases find_mem l n with hm | hm
  · exact (h _ hm).2
  · rw [hm]; exact ⟨by simp [noF], by simp [noF], by simp [noF]⟩
theorem with_bd {l : List FieldD} (h : dBd l) {t : Bs} (ht : t.length ≤ 40) : dBd (withF l t) := by
  intro f hf
  unfold withF at hf
  rcases List.mem_cons.1 hf with rfl | hf
  · exact ⟨by simp [itemN], ht, by simp, by simp⟩
  · exact h f (List.mem_filter.1 hf).1
theorem datL_mem : ∀ {l pre : List FieldD}, datL pre l = true → ∀ f ∈ l, fldB f = true
  | [], _, _, f, hf => by simp at hf
  | x :: xs, pre, h, f, hf => by
    rw [datL] at h
    simp only [Bool.and_eq_true] at h
    rcases List.mem_cons.1 hf with rfl | hf
    · exact h.1.1
    · exact datL_mem h.2 f hf
theorem valB_len {s : Bs} (h : valB s = true) : s.length ≤ 40 := by
  unfold valB at h
  simp only [Bool.and_eq_true, decide_eq_true_eq] at h
  exact h.1
theorem dataB_bd {l : List FieldD} (h : dataB l = true) : dBd l := by
  unfold dataB at h
  simp only [Bool.and_eq_true] at h
  intro f hf
  have := datL_mem h.2 f hf
  unfold fldB at this
  simp only [Bool.and_eq_true, decide_eq_true_eq, List.all_eq_true] at this
  obtain ⟨⟨⟨h1, h2⟩, h3⟩, h4⟩ := this
  exact ⟨by have := (nameB_len h1).2; omega, valB_len h2, h3, fun t ht => valB_len (h4 t ht)⟩
inductive Ev where
  | txt (t : Bs)
  | hole (f : FieldD) (s : St)
mutual
def evP (data : List FieldD) (s : St) : PartD → List Ev × St
  | .mk k t n ps os =>
    if k = 1 then ([.txt t], afterS s t)
    else if k = 2 then ([.hole (findF data n) s], behindM s)
    else if k = 3 then (if (findF data n).holds = true then evL data s ps else evL data s os)
    else if k = 4 then ((findF data n).items.flatMap fun it => (evL (withF data it) s ps).1, s)
    else ([], s)
def evL (data : List FieldD) (s : St) : List PartD → List Ev × St
  | [] => ([], s)
  | x :: xs => ((evP data s x).1 ++ (evL data (evP data s x).2 xs).1, (evL data (evP data s x).2 xs).2)
end
theorem evP_mk (data : List FieldD) (s : St) (k : Int) (t n : Bs) (ps os : List PartD) : evP data s (.mk k t n ps os) =
    if k = 1 then ([.txt t], afterS s t)
    else if k = 2 then ([.hole (findF data n) s], behindM s)
    else if k = 3 then (if (findF data n).holds = true then evL data s ps else evL data s os)
    else if k = 4 then ((findF data n).items.flatMap fun it => (evL (withF data it) s ps).1, s)
    else ([], s) := by rw [evP]
theorem evL_nil (data : List FieldD) (s : St) : evL data s [] = ([], s) := by rw [evL]
theorem evL_cons (data : List FieldD) (s : St) (x : PartD) (xs : List PartD) : evL data s (x :: xs) = ((evP data s x).1 ++ (evL data (evP data s x).2 xs).1, (evL data (evP data s x).2 xs).2) := by rw [evL]
theorem evL_append (data : List FieldD) : ∀ (xs ys : List PartD) (s : St), evL data s (xs ++ ys) = ((evL data s xs).1 ++ (evL data (evL data s xs).2 ys).1, (evL data (evL data s xs).2 ys).2)
  | [], ys, s => by simp [evL_nil]
  | x :: xs, ys, s => by rw [List.cons_append, evL_cons, evL_cons, evL_append data xs ys, List.append_assoc]
theorem evL_snoc {data : List FieldD} {s : St} {xs : List PartD} {k : Nat} {x : PartD} (h : xs[k]? = some x) : evL data s (xs.take (k + 1)) = ((evL data s (xs.take k)).1 ++ (evP data (evL data s (xs.take k)).2 x).1, (evP data (evL data s (xs.take k)).2 x).2) := by
  rw [take_snoc' h, evL_append, evL_cons, evL_nil, List.append_nil]
/-- The weight of what comes. -/
def wE : Ev → Nat
  | .txt t => t.length + 1
  | .hole f _ => 18 * f.text.length + 2
def wEs (l : List Ev) : Nat := (l.map wE).sum
theorem wEs_nil : wEs [] = 0 := rfl
theorem wEs_cons (e : Ev) (l : List Ev) : wEs (e :: l) = wE e + wEs l := by simp [wEs]
theorem wEs_append (a b : List Ev) : wEs (a ++ b) = wEs a + wEs b := by simp [wEs]
theorem wEs_flat {α : Type} (g : α → List Ev) (m : Nat) : ∀ l : List α, (∀ x ∈ l, wEs (g x) ≤ m) → wEs (l.flatMap g) ≤ l.length * m
  | [], _ => by simp [wEs_nil]
  | x :: l, h => by
    rw [List.flatMap_cons, wEs_append, List.length_cons, Nat.add_mul, Nat.one_mul]
    have h1 := h x (by simp)
    have h2 := wEs_flat g m l (fun y hy => h y (by simp [hy]))
    omega
mutual
theorem evP_wt : ∀ (x : PartD) (d : Nat) (data : List FieldD) (s : St), gdP d x = true → dBd data → wEs (evP data s x).1 ≤ 5 ^ d * (722 * (wtP x + 1))
  | .mk k t n ps os, d, data, s, hg, hd => by
    have hp : 1 ≤ 5 ^ d := Nat.pow_pos (by omega)
    have hf := find_bd hd n
    have big : ∀ m : Nat, m ≤ 722 * (wtP (.mk k t n ps os) + 1) → m ≤ 5 ^ d * (722 * (wtP (.mk k t n ps os) + 1)) := fun m h => Nat.le_trans h (Nat.le_mul_of_pos_left _ hp)
    rw [gdP_mk] at hg
    rw [evP_mk]
    split
    · refine big _ ?_
      rw [wEs_cons, wEs_nil, wE, wtP_mk]
      omega
    rename_i k1
    rw [if_neg k1] at hg
    split
    · refine big _ ?_
      rw [wEs_cons, wEs_nil, wE, wtP_mk]
      omega
    rename_i k2
    rw [if_neg k2] at hg
    by_cases k34 : k = 3 ∨ k = 4
    · rw [if_pos k34] at hg
      simp only [Bool.and_eq_true, Bool.not_eq_true', decide_eq_false_iff_not] at hg
      have hd0 : d ≠ 0 := hg.1.1.2
      have e5 : 5 ^ d = 5 * 5 ^ (d - 1) := by rw [← Nat.pow_succ']; congr 1; omega
      have h1 := fun da hda => evL_wt ps (d - 1) da s false hg.1.2 hda
      have h2 := evL_wt os (d - 1) data s false hg.2 hd
      have w1 : 5 ^ (d - 1) * (722 * wtL ps) ≤ 5 ^ (d - 1) * (722 * (wtP (.mk k t n ps os) + 1)) := Nat.mul_le_mul_left _ (by rw [wtP_mk]; omega)
      have w2 : 5 ^ (d - 1) * (722 * wtL os) ≤ 5 ^ (d - 1) * (722 * (wtP (.mk k t n ps os) + 1)) := Nat.mul_le_mul_left _ (by rw [wtP_mk]; omega)
      rw [e5, Nat.mul_assoc]
      split
      · split
        · have := h1 data hd; omega
        · omega
      · split
        · have h3 := wEs_flat (fun it => (evL (withF data it) s ps).1) (5 ^ (d - 1) * (722 * wtL ps)) (findF data n).items (fun it hit => h1 _ (with_bd hd (hf.2.2 it hit)))
          have h4 : (findF data n).items.length * (5 ^ (d - 1) * (722 * wtL ps)) ≤ 5 * (5 ^ (d - 1) * (722 * wtL ps)) := Nat.mul_le_mul_right _ hf.2.1
          dsimp only
          omega
        · simp [wEs_nil]
    · rw [if_neg k34] at hg; cases hg
theorem evL_wt : ∀ (xs : List PartD) (d : Nat) (data : List FieldD) (s : St) (b : Bool), gdL d b xs = true → dBd data → wEs (evL data s xs).1 ≤ 5 ^ d * (722 * wtL xs)
  | [], d, data, s, b, _, _ => by rw [evL_nil]; simp [wEs_nil]
  | x :: xs, d, data, s, b, hg, hd => by
    rw [gdL] at hg
    simp only [Bool.and_eq_true] at hg
    have h1 := evP_wt x d data s hg.1.1 hd
    have h2 := evL_wt xs d data (evP data s x).2 _ hg.2 hd
    rw [evL_cons, wEs_append]
    have e : wtL (x :: xs) = (wtP x + 1) + wtL xs := by rw [show x :: xs = [x] ++ xs from rfl, wtL_append, wtL_one]; omega
    rw [e, Nat.mul_add, Nat.mul_add]
    omega
end
mutual
/-- Where the state behind parts is no bad one, it is the one behind what comes. -/
theorem ev_chkP : ∀ (x : PartD) (d : Nat) (data : List FieldD) (s : St), gdP d x = true → (chkP s x).mode ≠ 15 → (evP data s x).2 = chkP s x
  | .mk k t n ps os, d, data, s, hg, hm => by
    rw [gdP_mk] at hg
    rw [chkP_mk] at hm ⊢
    rw [evP_mk]
    by_cases k1 : k = 1
    · rw [if_pos k1, if_pos k1]
    rw [if_neg k1] at hg hm
    rw [if_neg k1, if_neg k1]
    by_cases k2 : k = 2
    · rw [if_pos k2, if_pos k2]
    rw [if_neg k2] at hg hm
    rw [if_neg k2, if_neg k2]
    by_cases k34 : k = 3 ∨ k = 4
    · rw [if_pos k34] at hg
      simp only [Bool.and_eq_true] at hg
      by_cases k4 : k = 4
      · rw [if_pos k4] at hm ⊢
        rw [if_neg (show ¬ k = 3 by omega), if_pos k4]
        by_cases e : chkL s ps = s
        · rw [if_pos e]
        · rw [if_neg e] at hm; exact absurd rfl hm
      · rw [if_neg k4] at hm ⊢
        rw [if_pos (show k = 3 by omega)]
        by_cases e : chkL s ps = chkL s os
        · rw [if_pos e] at hm ⊢
          split
          · exact ev_chkL ps (d - 1) data s false hg.1.2 hm
          · rw [e] at hm ⊢; exact ev_chkL os (d - 1) data s false hg.2 hm
        · rw [if_neg e] at hm; exact absurd rfl hm
    · rw [if_neg k34] at hg; cases hg
theorem ev_chkL : ∀ (xs : List PartD) (d : Nat) (data : List FieldD) (s : St) (b : Bool), gdL d b xs = true → (chkL s xs).mode ≠ 15 → (evL data s xs).2 = chkL s xs
  | [], d, data, s, b, _, _ => by rw [evL_nil, chkL_nil]
  | x :: xs, d, data, s, b, hg, hm => by
    rw [gdL] at hg
    simp only [Bool.and_eq_true] at hg
    rw [chkL_cons] at hm ⊢
    rw [evL_cons]
    by_cases e : (chkP s x).mode = 15
    · rw [if_pos e] at hm; exact absurd rfl hm
    · rw [if_neg e] at hm ⊢
      have := ev_chkP x d data s hg.1.1 e
      dsimp only
      rw [this]
      exact ev_chkL xs d data _ _ hg.2 hm
end
theorem chk_take {xs : List PartD} {s : St} (hs : stV s = true) (hm : (chkL s xs).mode ≠ 15) (k : Nat) : (chkL s (xs.take k)).mode ≠ 15 := by
  intro h
  have h2 := chkL_split xs k s hs
  rw [mode15 (stV_chkL _ _ hs) h, chkL_bad] at h2
  rw [← h2] at hm
  exact hm rfl
theorem gdL_take {d : Nat} {b : Bool} {xs : List PartD} (h : gdL d b xs = true) (k : Nat) : gdL d b (xs.take k) = true := by
  rw [← List.take_append_drop k xs, gdL_append] at h
  simp only [Bool.and_eq_true] at h
  exact h.1
/-- The place and the text of a hole. -/
def hole1 : Ev → List (Int × Bs)
  | .txt _ => []
  | .hole f s => [(placeM s, f.text)]
def holesE (l : List Ev) : List (Int × Bs) := l.flatMap hole1
def holesM (xs : List PartD) (data : List FieldD) : List (Int × Bs) := if safeM xs = true ∧ dataB data = true then holesE (evL data st0 xs).1 else []
theorem holesE_append (a b : List Ev) : holesE (a ++ b) = holesE a ++ holesE b := by simp [holesE]
theorem wEs_pos (e : Ev) : 1 ≤ wE e := by cases e <;> simp [wE]
theorem len_wEs : ∀ l : List Ev, l.length ≤ wEs l
  | [] => by simp
  | e :: l => by have h1 := wEs_pos e; have h2 := len_wEs l; rw [wEs_cons, List.length_cons]; omega
theorem holesE_len : ∀ l : List Ev, (holesE l).length ≤ l.length
  | [] => by simp [holesE]
  | e :: l => by
    have h := holesE_len l
    have h1 : (hole1 e).length ≤ 1 := by cases e <;> simp [hole1]
    have : holesE (e :: l) = hole1 e ++ holesE l := by simp [holesE]
    rw [this, List.length_append, List.length_cons]
    omega
end Go.Proofs.Ytdedddmnacomfaa

/- What is filled in: the state behind it; its parts; the holes' texts in it. Plain. -/
namespace Go.Proofs.Ytdedddmnacomfaa
set_option maxRecDepth 100000
set_option linter.unusedVariables false
set_option linter.unusedSimpArgs false
open Go.RowKit
theorem safe_parts {xs : List PartD} (h : safeM xs = true) : partsB xs = true ∧ gdL 3 false xs = true ∧ chkL st0 xs = st0 ∧ (chkL st0 xs).mode ≠ 15 := by
  unfold safeM at h
  simp only [Bool.and_eq_true, decide_eq_true_eq] at h
  have h2 := h.1
  unfold partsB at h2
  simp only [Bool.and_eq_true] at h2
  exact ⟨h.1, h2.2, h.2, by rw [h.2]; decide⟩
end Go.Proofs.Ytdedddmnacomfaa

/- Holes of parts with their states; what is chosen of filled holes. Plain. -/
namespace Go.Proofs.Ytdedddmnacomfaa
set_option maxRecDepth 100000
set_option linter.unusedVariables false
set_option linter.unusedSimpArgs false
open Go.RowKit
mutual
/-- The holes of a part: the name, and the state before each; and the state behind the part. -/
def wkP (s : St) : PartD → List (Bs × St) × St
  | .mk k t n ps os =>
    if k = 1 then ([], afterS s t)
    else if k = 2 then ([(n, s)], behindM s)
    else if k = 3 then ((wkL s ps).1 ++ (wkL s os).1, (wkL s ps).2)
    else if k = 4 then ((wkL s ps).1, s)
    else ([], s)
def wkL (s : St) : List PartD → List (Bs × St) × St
  | [] => ([], s)
  | x :: xs => ((wkP s x).1 ++ (wkL (wkP s x).2 xs).1, (wkL (wkP s x).2 xs).2)
end
theorem wkP_mk (s : St) (k : Int) (t n : Bs) (ps os : List PartD) : wkP s (.mk k t n ps os) =
    if k = 1 then ([], afterS s t)
    else if k = 2 then ([(n, s)], behindM s)
    else if k = 3 then ((wkL s ps).1 ++ (wkL s os).1, (wkL s ps).2)
    else if k = 4 then ((wkL s ps).1, s)
    else ([], s) := by rw [wkP]
theorem wkL_nil (s : St) : wkL s [] = ([], s) := by rw [wkL]
theorem wkL_cons (s : St) (x : PartD) (xs : List PartD) : wkL s (x :: xs) = ((wkP s x).1 ++ (wkL (wkP s x).2 xs).1, (wkL (wkP s x).2 xs).2) := by rw [wkL]
mutual
theorem wk_chkP : ∀ (x : PartD) (d : Nat) (s : St), gdP d x = true → (chkP s x).mode ≠ 15 → (wkP s x).2 = chkP s x
  | .mk k t n ps os, d, s, hg, hm => by
    rw [gdP_mk] at hg
    rw [chkP_mk] at hm ⊢
    rw [wkP_mk]
    by_cases k1 : k = 1
    · rw [if_pos k1, if_pos k1]
    rw [if_neg k1] at hg hm
    rw [if_neg k1, if_neg k1]
    by_cases k2 : k = 2
    · rw [if_pos k2, if_pos k2]
    rw [if_neg k2] at hg hm
    rw [if_neg k2, if_neg k2]
    by_cases k34 : k = 3 ∨ k = 4
    · rw [if_pos k34] at hg
      simp only [Bool.and_eq_true] at hg
      by_cases k4 : k = 4
      · rw [if_pos k4] at hm ⊢
        rw [if_neg (show ¬ k = 3 by omega), if_pos k4]
        by_cases e : chkL s ps = s
        · rw [if_pos e]
        · rw [if_neg e] at hm; exact absurd rfl hm
      · rw [if_pos (show k = 3 by omega)]
        rw [if_neg k4] at hm ⊢
        by_cases e : chkL s ps = chkL s os
        · rw [if_pos e] at hm ⊢
          exact wk_chkL ps (d - 1) s false hg.1.2 hm
        · rw [if_neg e] at hm; exact absurd rfl hm
    · rw [if_neg k34] at hg; cases hg
theorem wk_chkL : ∀ (xs : List PartD) (d : Nat) (s : St) (b : Bool), gdL d b xs = true → (chkL s xs).mode ≠ 15 → (wkL s xs).2 = chkL s xs
  | [], d, s, b, _, _ => by rw [wkL_nil, chkL_nil]
  | x :: xs, d, s, b, hg, hm => by
    rw [gdL] at hg
    simp only [Bool.and_eq_true] at hg
    rw [chkL_cons] at hm ⊢
    rw [wkL_cons]
    by_cases e : (chkP s x).mode = 15
    · rw [if_pos e] at hm; exact absurd rfl hm
    · rw [if_neg e] at hm ⊢
      have := wk_chkP x d s hg.1.1 e
      dsimp only
      rw [this]
      exact wk_chkL xs d _ _ hg.2 hm
end
/-- The children of a part that is no bad one lead to no bad state. -/
theorem kids_chk {s : St} {k : Int} {t n : Bs} {ps os : List PartD} (hm : (chkP s (.mk k t n ps os)).mode ≠ 15) (hk : k = 3 ∨ k = 4) : (chkL s ps).mode ≠ 15 ∧ (k = 3 → chkL s os = chkL s ps) ∧ (k = 4 → chkL s ps = s) := by
  rw [chkP_mk, if_neg (by omega), if_neg (by omega)] at hm
  by_cases k4 : k = 4
  · rw [if_pos k4] at hm
    by_cases e : chkL s ps = s
    · rw [if_pos e] at hm; exact ⟨by rw [e]; exact hm, fun h => by omega, fun _ => e⟩
    · rw [if_neg e] at hm; exact absurd rfl hm
  · rw [if_neg k4] at hm
    by_cases e : chkL s ps = chkL s os
    · rw [if_pos e] at hm; exact ⟨hm, fun _ => e.symm, fun h => absurd h k4⟩
    · rw [if_neg e] at hm; exact absurd rfl hm
mutual
/-- The number of holes. -/
def hlP : PartD → Nat
  | .mk k _ _ ps os => (if k = 2 then 1 else 0) + hlL ps + hlL os
def hlL : List PartD → Nat
  | [] => 0
  | x :: xs => hlP x + hlL xs
end
end Go.Proofs.Ytdedddmnacomfaa

/- Rows of numbers; holes with their states, by places; their weights. Plain. -/
namespace Go.Proofs.Ytdedddmnacomfaa
set_option maxRecDepth 100000
set_option linter.unusedVariables false
set_option linter.unusedSimpArgs false
open Go.RowKit
theorem wtL_take (xs : List PartD) (k : Nat) : wtL (xs.take k) ≤ wtL xs := by
  have := wtL_append (xs.take k) (xs.drop k)
  rw [List.take_append_drop] at this; omega
theorem gd_none {d : Nat} {k : Int} {t n : Bs} {ps os : List PartD} (h : gdP d (.mk k t n ps os) = true) (hk : ¬ (k = 3 ∨ k = 4)) : (k = 1 ∨ k = 2) ∧ ps = [] ∧ os = [] := by
  rw [gdP_mk] at h
  by_cases k1 : k = 1
  · rw [if_pos k1] at h
    simp only [Bool.and_eq_true, decide_eq_true_eq] at h
    obtain ⟨⟨_, rfl⟩, rfl⟩ := h
    exact ⟨.inl k1, rfl, rfl⟩
  rw [if_neg k1] at h
  by_cases k2 : k = 2
  · rw [if_pos k2] at h
    simp only [Bool.and_eq_true, decide_eq_true_eq] at h
    obtain ⟨⟨_, rfl⟩, rfl⟩ := h
    exact ⟨.inr k2, rfl, rfl⟩
  rw [if_neg k2, if_neg hk] at h
  cases h
theorem gd_each {d : Nat} {k : Int} {t n : Bs} {ps os : List PartD} (h : gdP d (.mk k t n ps os) = true) (hk : k = 4) : os = [] := by
  rw [gdP_mk, if_neg (by omega), if_neg (by omega), if_pos (by omega)] at h
  simp only [Bool.and_eq_true] at h
  have := h.1.1.1.2
  simpa [hk] using this
theorem gd_at {d : Nat} {x : PartD} : ∀ {xs : List PartD} {b : Bool} {k : Nat}, gdL d b xs = true → xs[k]? = some x → gdP d x = true
  | [], _, _, _, h => by simp at h
  | y :: ys, b, 0, hg, h => by
    obtain rfl : y = x := by simpa using h
    rw [gdL] at hg
    simp only [Bool.and_eq_true] at hg
    exact hg.1.1
  | y :: ys, b, k + 1, hg, h => by
    rw [gdL] at hg
    simp only [Bool.and_eq_true] at hg
    exact gd_at hg.2 (by simpa using h)
theorem kids_ok {d : Nat} {s : St} {k : Int} {t n : Bs} {ps os : List PartD} (h : gdP d (.mk k t n ps os) = true) (hs : s.mode ≠ 15) (hm : (chkP s (.mk k t n ps os)).mode ≠ 15) : (chkL s ps).mode ≠ 15 ∧ (chkL s os).mode ≠ 15 := by
  by_cases hk : k = 3 ∨ k = 4
  · obtain ⟨h1, h2, h3⟩ := kids_chk hm hk
    refine ⟨h1, ?_⟩
    by_cases k4 : k = 4
    · rw [gd_each h k4, chkL_nil]; exact hs
    · rw [h2 (by omega)]; exact h1
  · obtain ⟨_, rfl, rfl⟩ := gd_none h hk
    rw [chkL_nil]; exact ⟨hs, hs⟩
/-- One more part of a list that leads to no bad state. -/
theorem chk_at {s : St} {xs : List PartD} {k : Nat} {x : PartD} {d : Nat} {b : Bool} (hv : stV s = true) (hg : gdL d b xs = true) (hm : (chkL s xs).mode ≠ 15) (hx : xs[k]? = some x) :
    gdP d x = true ∧ (chkL s (xs.take k)).mode ≠ 15 ∧ (chkP (chkL s (xs.take k)) x).mode ≠ 15 ∧ (wkL s (xs.take k)).2 = chkL s (xs.take k) ∧ chkL s (xs.take (k + 1)) = chkP (chkL s (xs.take k)) x ∧ chkL (chkL s (xs.take k)) [x] = chkP (chkL s (xs.take k)) x := by
  have h0 := chk_take hv hm 0
  rw [List.take_zero, chkL_nil] at h0
  have h1 := chk_take hv hm k
  have h2 := chk_take hv hm (k + 1)
  have hsn := chkL_snoc hx h0 h1
  have h3 : (chkP (chkL s (xs.take k)) x).mode ≠ 15 := by
    intro h
    rw [hsn, if_pos h] at h2
    exact h2 rfl
  refine ⟨gd_at hg hx, h1, h3, wk_chkL _ d s b (gdL_take hg k) h1, by rw [hsn, if_neg h3], ?_⟩
  rw [chkL_cons, if_neg h3, chkL_nil]
end Go.Proofs.Ytdedddmnacomfaa

/- Data: places of fields. Plain. -/
namespace Go.Proofs.Ytdedddmnacomfaa
set_option maxRecDepth 100000
set_option linter.unusedVariables false
set_option linter.unusedSimpArgs false
open Go.RowKit
theorem encFs_get (l : List FieldD) (k : Nat) : (encFs l)[k]? = (l[k]?).map encF := by unfold encFs; rw [List.getElem?_map]
theorem strK_get (l : List Bs) (k : Nat) : (strs l)[k]? = (l[k]?).map fun t => [.str t] := by unfold strs; rw [List.getElem?_map]
theorem encFs_length (l : List FieldD) : (encFs l).length = l.length := by unfold encFs; simp
theorem strs_length (l : List Bs) : (strs l).length = l.length := by unfold strs; simp
theorem encFs_all (l : List FieldD) : (∀ e ∈ encFs l, e.length = 4) = True := eq_true (by
  intro e he; unfold encFs at he
  obtain ⟨f, _, rfl⟩ := List.mem_map.1 he; rfl)
theorem strs_all (l : List Bs) : (∀ e ∈ strs l, e.length = 1) = True := eq_true (by
  intro e he; unfold strs at he
  obtain ⟨f, _, rfl⟩ := List.mem_map.1 he; rfl)
theorem encF_mk (n t : Bs) (h : Bool) (i : List Bs) : encF ⟨n, t, h, i⟩ = [.str n, .str t, .bool h, .seq (strs i)] := rfl
theorem encFs_append (a b : List FieldD) : encFs (a ++ b) = encFs a ++ encFs b := by unfold encFs; rw [List.map_append]
theorem encFs_nil : encFs [] = [] := rfl
theorem encFs_one (f : FieldD) : encFs [f] = [encF f] := rfl
theorem strs_nil : strs [] = [] := rfl
theorem strK_inj {a b : List Bs} (h : strs a = strs b) : a = b := by
  induction a generalizing b with
  | nil => cases b with
    | nil => rfl
    | cons y ys => simp [strs] at h
  | cons x xs ih => cases b with
    | nil => simp [strs] at h
    | cons y ys =>
      unfold strs at h
      rw [List.map_cons, List.map_cons] at h
      simp only [List.cons.injEq, PV.str.injEq, and_true] at h
      rw [h.1, ih h.2]
theorem encF_inj {f g : FieldD} (h : encF f = encF g) : f = g := by
  obtain ⟨n, t, b, i⟩ := f
  obtain ⟨n', t', b', i'⟩ := g
  rw [encF_mk, encF_mk] at h
  simp only [List.cons.injEq, PV.str.injEq, PV.bool.injEq, PV.seq.injEq, and_true] at h
  obtain ⟨rfl, rfl, rfl, h⟩ := h
  rw [strK_inj h]
theorem encFs_inj {a b : List FieldD} (h : encFs a = encFs b) : a = b := by
  induction a generalizing b with
  | nil => cases b with
    | nil => rfl
    | cons y ys => simp [encFs] at h
  | cons x xs ih => cases b with
    | nil => simp [encFs] at h
    | cons y ys =>
      unfold encFs at h
      rw [List.map_cons, List.map_cons, List.cons.injEq] at h
      rw [encF_inj h.1, ih h.2]
theorem encFs_iff {a b : List FieldD} : encFs a = encFs b ↔ a = b := ⟨encFs_inj, fun h => h ▸ rfl⟩
theorem strs_iff {a b : List Bs} : strs a = strs b ↔ a = b := ⟨strK_inj, fun h => h ▸ rfl⟩
/-- Lengths that are numbers. -/
def okF (l : List FieldD) : Prop := l.length ≤ 9223372036854775807 ∧ ∀ f ∈ l, f.name.length ≤ 9223372036854775807 ∧ f.text.length ≤ 9223372036854775807 ∧ f.items.length ≤ 9223372036854775807 ∧ ∀ t ∈ f.items, t.length ≤ 9223372036854775807
theorem okF_get {l : List FieldD} (h : okF l) {k : Nat} {f : FieldD} (hx : l[k]? = some f) : f.name.length ≤ 9223372036854775807 ∧ f.text.length ≤ 9223372036854775807 ∧ f.items.length ≤ 9223372036854775807 ∧ ∀ t ∈ f.items, t.length ≤ 9223372036854775807 := h.2 f (List.mem_of_getElem? hx)
theorem drop_at {α : Type} {l : List α} {k : Nat} {f : α} (hx : l[k]? = some f) : l.drop k = f :: l.drop (k + 1) := by
  obtain ⟨h1, rfl⟩ := List.getElem?_eq_some_iff.1 hx
  exact List.drop_eq_getElem_cons h1
theorem hasF_take {l : List FieldD} {k : Nat} {f : FieldD} (hx : l[k]? = some f) (n : Bs) : hasF (l.take (k + 1)) n = (hasF (l.take k) n || decide (f.name = n)) := by
  rw [take_snoc' hx]; unfold hasF; rw [List.any_append]; simp
theorem hasF_some {l : List FieldD} {k j : Nat} {f : FieldD} (hx : l[j]? = some f) (hj : j < k) : hasF (l.take k) f.name = true := by
  unfold hasF
  rw [List.any_eq_true]
  refine ⟨f, ?_, by simp⟩
  obtain ⟨h1, rfl⟩ := List.getElem?_eq_some_iff.1 hx
  rw [List.mem_take_iff_getElem]; exact ⟨j, by omega, rfl⟩
theorem with_take {l : List FieldD} {k : Nat} {f : FieldD} (hx : l[k]? = some f) (t : Bs) : withF (l.take (k + 1)) t = if f.name = itemN then withF (l.take k) t else withF (l.take k) t ++ [f] := by
  unfold withF
  rw [take_snoc' hx, List.filter_append]
  split
  · rename_i h; simp [h]
  · rename_i h; simp [h]
theorem with_len (l : List FieldD) (t : Bs) : (withF l t).length ≤ l.length + 1 := by
  unfold withF
  have := List.length_filter_le (fun f : FieldD => !decide (f.name = itemN)) l
  simp only [List.length_cons]; omega
theorem items_all {l : List Bs} {k : Nat} {t : Bs} (hx : l[k]? = some t) : (l.take (k + 1)).all valB = ((l.take k).all valB && valB t) := by
  rw [take_snoc' hx, List.all_append]; simp
theorem items_bad {l : List Bs} {k : Nat} {t : Bs} (hx : l[k]? = some t) (h : valB t = false) : l.all valB = false := by
  rw [List.all_eq_false]
  exact ⟨t, List.mem_of_getElem? hx, by rw [h]; decide⟩
end Go.Proofs.Ytdedddmnacomfaa

/- What comes when parts are filled in, by steps; bounds. Plain. -/
namespace Go.Proofs.Ytdedddmnacomfaa
set_option maxRecDepth 100000
set_option linter.unusedVariables false
set_option linter.unusedSimpArgs false
open Go.RowKit
mutual
theorem stV_ev9P (data : List FieldD) : ∀ (x : PartD) (s : St), stV s = true → stV (evP data s x).2 = true
  | .mk k t n ps os, s, h => by
    have h1 := stV_ev9L data ps s h
    have h2 := stV_ev9L data os s h
    rw [evP_mk]
    split
    · exact stV_afterS s t
    split
    · exact stV_behind s
    split
    · split
      · exact h1
      · exact h2
    split
    · exact h
    · exact h
theorem stV_ev9L (data : List FieldD) : ∀ (xs : List PartD) (s : St), stV s = true → stV (evL data s xs).2 = true
  | [], s, h => by rw [evL_nil]; exact h
  | x :: xs, s, h => by rw [evL_cons]; exact stV_ev9L data xs _ (stV_ev9P data x s h)
end
theorem ev_split {data : List FieldD} {s : St} {xs : List PartD} {k : Nat} {x : PartD} (h : xs[k]? = some x) : wEs (evL data s (xs.take k)).1 + wEs (evP data (evL data s (xs.take k)).2 x).1 ≤ wEs (evL data s xs).1 := by
  have e : evL data s xs = evL data s (xs.take (k + 1) ++ xs.drop (k + 1)) := by rw [List.take_append_drop]
  rw [e, evL_append, evL_snoc h]
  simp only [wEs_append]
  omega
/-- What comes of some items. -/
def evI (data : List FieldD) (s : St) (ps : List PartD) (its : List Bs) : List Ev := its.flatMap fun it => (evL (withF data it) s ps).1
theorem evI_nil (data : List FieldD) (s : St) (ps : List PartD) : evI data s ps [] = [] := rfl
theorem evI_snoc {data : List FieldD} {s : St} {ps : List PartD} {its : List Bs} {j : Nat} {t : Bs} (h : its[j]? = some t) : evI data s ps (its.take (j + 1)) = evI data s ps (its.take j) ++ (evL (withF data t) s ps).1 := by
  unfold evI
  rw [take_snoc' h, List.flatMap_append]; simp
theorem evI_split {data : List FieldD} {s : St} {ps : List PartD} {its : List Bs} {j : Nat} {t : Bs} (h : its[j]? = some t) : wEs (evI data s ps (its.take j)) + wEs (evL (withF data t) s ps).1 ≤ wEs (evI data s ps its) := by
  have e : evI data s ps its = evI data s ps (its.take (j + 1) ++ its.drop (j + 1)) := by rw [List.take_append_drop]
  have e2 : evI data s ps (its.take (j + 1) ++ its.drop (j + 1)) = evI data s ps (its.take (j + 1)) ++ evI data s ps (its.drop (j + 1)) := by unfold evI; rw [List.flatMap_append]
  rw [e, e2, evI_snoc h]
  simp only [wEs_append]
  omega
section
variable {data : List FieldD} {s : St} {k : Int} {t n : Bs} {ps os : List PartD}
theorem ev1 (h : k = 1) : evP data s (.mk k t n ps os) = ([.txt t], afterS s t) := by rw [evP_mk, if_pos h]
theorem ev2 (h : k = 2) : evP data s (.mk k t n ps os) = ([.hole (findF data n) s], behindM s) := by rw [evP_mk, if_neg (by omega), if_pos h]
theorem ev3 (h : k = 3) (hh : (findF data n).holds = true) : evP data s (.mk k t n ps os) = evL data s ps := by rw [evP_mk, if_neg (by omega), if_neg (by omega), if_pos h, if_pos hh]
theorem ev3o (h : k = 3) (hh : (findF data n).holds = false) : evP data s (.mk k t n ps os) = evL data s os := by rw [evP_mk, if_neg (by omega), if_neg (by omega), if_pos h, if_neg (by rw [hh]; decide)]
theorem ev4 (h : k = 4) : evP data s (.mk k t n ps os) = (evI data s ps (findF data n).items, s) := by rw [evP_mk, if_neg (by omega), if_neg (by omega), if_neg (by omega), if_pos h]; rfl
theorem ev0 (h1 : ¬ k = 1) (h2 : ¬ k = 2) (h3 : ¬ k = 3) (h4 : ¬ k = 4) : evP data s (.mk k t n ps os) = ([], s) := by rw [evP_mk, if_neg h1, if_neg h2, if_neg h3, if_neg h4]
end
/-- Deeper parts: the depth goes down. -/
theorem gd_deep {d : Nat} {k : Int} {t n : Bs} {ps os : List PartD} (h : gdP d (.mk k t n ps os) = true) (hk : k = 3 ∨ k = 4) : 1 ≤ d ∧ gdL (d - 1) false ps = true ∧ gdL (d - 1) false os = true := by
  rw [gdP_mk, if_neg (by omega), if_neg (by omega), if_pos hk] at h
  simp only [Bool.and_eq_true, Bool.not_eq_true', decide_eq_false_iff_not] at h
  exact ⟨by omega, h.1.2, h.2⟩
theorem wE_txt (t : Bs) : wE (.txt t) = t.length + 1 := rfl
theorem wE_hole (f : FieldD) (s : St) : wE (.hole f s) = 18 * f.text.length + 2 := rfl
theorem wEs_one (e : Ev) : wEs [e] = wE e := by rw [wEs_cons, wEs_nil]; rfl
section
variable {data : List FieldD} {k : Int} {t n : Bs} {ps os : List PartD}
end
end Go.Proofs.Ytdedddmnacomfaa

/- Texts in holes are short. Plain. -/
namespace Go.Proofs.Ytdedddmnacomfaa
set_option maxRecDepth 100000
set_option linter.unusedVariables false
set_option linter.unusedSimpArgs false
open Go.RowKit
theorem holesE_flat {α : Type} (f : α → List Ev) : ∀ l : List α, holesE (l.flatMap f) = l.flatMap fun x => holesE (f x)
  | [] => rfl
  | x :: l => by rw [List.flatMap_cons, List.flatMap_cons, holesE_append, holesE_flat f l]
mutual
theorem ev_t40P : ∀ (x : PartD) (data : List FieldD) (s : St), dBd data → ∀ h ∈ holesE (evP data s x).1, h.2.length ≤ 40
  | .mk k t n ps os, data, s, hd => by
    have h1 := ev_t40L ps
    have h2 := ev_t40L os
    rw [evP_mk]
    split
    · intro h hh; simp [holesE, hole1] at hh
    split
    · intro h hh
      have hh : h = (placeM s, (findF data n).text) := by simpa [holesE, hole1] using hh
      rw [hh]
      exact (find_bd hd n).1
    split
    · split
      · exact h1 data s hd
      · exact h2 data s hd
    split
    · intro h hh
      rw [holesE_flat] at hh
      obtain ⟨it, hi, hh⟩ := List.mem_flatMap.1 hh
      exact h1 _ s (with_bd hd ((find_bd hd n).2.2 it hi)) h hh
    · intro h hh; simp [holesE] at hh
theorem ev_t40L : ∀ (xs : List PartD) (data : List FieldD) (s : St), dBd data → ∀ h ∈ holesE (evL data s xs).1, h.2.length ≤ 40
  | [], data, s, _ => by intro h hh; rw [evL_nil] at hh; simp [holesE] at hh
  | x :: xs, data, s, hd => by
    intro h hh
    rw [evL_cons, holesE_append] at hh
    rcases List.mem_append.1 hh with hh | hh
    · exact ev_t40P x data s hd h hh
    · exact ev_t40L xs data _ hd h hh
end
end Go.Proofs.Ytdedddmnacomfaa
