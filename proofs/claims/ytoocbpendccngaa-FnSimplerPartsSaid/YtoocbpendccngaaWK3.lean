/- Data; what comes when parts are filled in: as data. No program. -/
import Derived.Test.YtoocbpendccngaaWFP
import Derived.Test.YtoocbpendccngaaWFE

namespace Go.Proofs.Ytoocbpendccngaa
set_option maxRecDepth 100000
set_option linter.unusedVariables false
set_option linter.unusedSimpArgs false
open Go.RowKit
structure FieldD where
  name : Bs
  text : Bs
  holds : Bool
  items : List Bs
  deriving DecidableEq
def strs (l : List Bs) : List (List PV) := l.map fun t => [.str t]
def encF (f : FieldD) : List PV := [.str f.name, .str f.text, .bool f.holds, .seq (strs f.items)]
def encFs (l : List FieldD) : List (List PV) := l.map encF
def noF : FieldD := ⟨[], [], false, []⟩
def findF : List FieldD → Bs → FieldD
  | [], _ => noF
  | f :: r, n => if f.name = n then f else findF r n
def hasF (l : List FieldD) (n : Bs) : Bool := l.any fun f => decide (f.name = n)
def itemN : Bs := [105, 116, 101, 109]
def withF (data : List FieldD) (t : Bs) : List FieldD := ⟨itemN, t, false, []⟩ :: data.filter fun f => !decide (f.name = itemN)
def valB (s : Bs) : Bool := decide (s.length ≤ 40) && textB s
def fldB (f : FieldD) : Bool := nameB f.name && valB f.text && decide (f.items.length ≤ 5) && f.items.all valB
/-- Fields behind others: each valid, its name a new one. -/
def datL : List FieldD → List FieldD → Bool
  | _, [] => true
  | pre, f :: r => fldB f && !hasF pre f.name && datL (pre ++ [f]) r
def dataB (l : List FieldD) : Bool := decide (l.length ≤ 8) && datL [] l
theorem datL_append : ∀ (xs ys pre : List FieldD), datL pre (xs ++ ys) = (datL pre xs && datL (pre ++ xs) ys)
  | [], ys, pre => by simp [datL]
  | x :: xs, ys, pre => by
    rw [List.cons_append, datL, datL, datL_append xs ys, List.append_assoc, List.singleton_append]
    simp only [Bool.and_assoc]
theorem datL_take {l : List FieldD} {k : Nat} {f : FieldD} (h : l[k]? = some f) : datL [] (l.take (k + 1)) = (datL [] (l.take k) && (fldB f && !hasF (l.take k) f.name)) := by
  have e : l.take (k + 1) = l.take k ++ [f] := by
    obtain ⟨h1, rfl⟩ := List.getElem?_eq_some_iff.1 h
    exact List.take_succ_eq_append_getElem h1
  rw [e, datL_append, datL, datL, List.nil_append, Bool.and_true]
theorem datL_fail {l : List FieldD} {k : Nat} {f : FieldD} (h : l[k]? = some f) (hb : (fldB f && !hasF (l.take k) f.name) = false) : datL [] l = false := by
  have e : l = l.take (k + 1) ++ l.drop (k + 1) := (List.take_append_drop _ _).symm
  rw [e, datL_append, datL_take h, hb]; simp
/-- Bounds on data: texts are short, lists too. -/
def dBd (l : List FieldD) : Prop := ∀ f ∈ l, f.name.length ≤ 1000 ∧ f.text.length ≤ 40 ∧ f.items.length ≤ 5 ∧ ∀ t ∈ f.items, t.length ≤ 40
theorem find_mem : ∀ (l : List FieldD) (n : Bs), findF l n ∈ l ∨ findF l n = noF
  | [], _ => .inr rfl
  | f :: r, n => by
    unfold findF
    split
    · exact .inl (by simp)
    · rcases find_mem r n with h | h
      · exact .inl (by simp [h])
      · exact .inr h
theorem find_bd {l : List FieldD} (h : dBd l) (n : Bs) : (findF l n).text.length ≤ 40 ∧ (findF l n).items.length ≤ 5 ∧ ∀ t ∈ (findF l n).items, t.length ≤ 40 := by
  rcases find_mem l n with hm | hm
  · exact (h _ hm).2
  · rw [hm]; exact ⟨by simp [noF], by simp [noF], by simp [noF]⟩
theorem with_bd {l : List FieldD} (h : dBd l) {t : Bs} (ht : t.length ≤ 40) : dBd (withF l t) := by
  intro f hf
  unfold withF at hf
  rcases List.mem_cons.1 hf with rfl | hf
  · exact ⟨by simp [itemN], ht, by simp, by simp⟩
  · exact h f (List.mem_filter.1 hf).1
theorem datL_mem : ∀ {l pre : List FieldD}, datL pre l = true → ∀ f ∈ l, fldB f = true
  | [], _, _, f, hf => by simp at hf
  | x :: xs, pre, h, f, hf => by
    rw [datL] at h
    simp only [Bool.and_eq_true] at h
    rcases List.mem_cons.1 hf with rfl | hf
    · exact h.1.1
    · exact datL_mem h.2 f hf
theorem valB_len {s : Bs} (h : valB s = true) : s.length ≤ 40 := by
  unfold valB at h
  simp only [Bool.and_eq_true, decide_eq_true_eq] at h
  exact h.1
theorem dataB_bd {l : List FieldD} (h : dataB l = true) : dBd l := by
  unfold dataB at h
  simp only [Bool.and_eq_true] at h
  intro f hf
  have := datL_mem h.2 f hf
  unfold fldB at this
  simp only [Bool.and_eq_true, decide_eq_true_eq, List.all_eq_true] at this
  obtain ⟨⟨⟨h1, h2⟩, h3⟩, h4⟩ := this
  exact ⟨by have := (nameB_len h1).2; omega, valB_len h2, h3, fun t ht => valB_len (h4 t ht)⟩
inductive Ev where
  | txt (t : Bs)
  | hole (f : FieldD) (s : St)
mutual
def evP (data : List FieldD) (s : St) : PartD → List Ev × St
  | .mk k t n ps os =>
    if k = 1 then ([.txt t], afterS s t)
    else if k = 2 then ([.hole (findF data n) s], behindM s)
    else if k = 3 then (if (findF data n).holds = true then evL data s ps else evL data s os)
    else if k = 4 then ((findF data n).items.flatMap fun it => (evL (withF data it) s ps).1, s)
    else ([], s)
def evL (data : List FieldD) (s : St) : List PartD → List Ev × St
  | [] => ([], s)
  | x :: xs => ((evP data s x).1 ++ (evL data (evP data s x).2 xs).1, (evL data (evP data s x).2 xs).2)
end
theorem evP_mk (data : List FieldD) (s : St) (k : Int) (t n : Bs) (ps os : List PartD) : evP data s (.mk k t n ps os) =
    if k = 1 then ([.txt t], afterS s t)
    else if k = 2 then ([.hole (findF data n) s], behindM s)
    else if k = 3 then (if (findF data n).holds = true then evL data s ps else evL data s os)
    else if k = 4 then ((findF data n).items.flatMap fun it => (evL (withF data it) s ps).1, s)
    else ([], s) := by rw [evP]
theorem evL_nil (data : List FieldD) (s : St) : evL data s [] = ([], s) := by rw [evL]
theorem evL_cons (data : List FieldD) (s : St) (x : PartD) (xs : List PartD) : evL data s (x :: xs) = ((evP data s x).1 ++ (evL data (evP data s x).2 xs).1, (evL data (evP data s x).2 xs).2) := by rw [evL]
theorem evL_append (data : List FieldD) : ∀ (xs ys : List PartD) (s : St), evL data s (xs ++ ys) = ((evL data s xs).1 ++ (evL data (evL data s xs).2 ys).1, (evL data (evL data s xs).2 ys).2)
  | [], ys, s => by simp [evL_nil]
  | x :: xs, ys, s => by rw [List.cons_append, evL_cons, evL_cons, evL_append data xs ys, List.append_assoc]
theorem evL_snoc {data : List FieldD} {s : St} {xs : List PartD} {k : Nat} {x : PartD} (h : xs[k]? = some x) : evL data s (xs.take (k + 1)) = ((evL data s (xs.take k)).1 ++ (evP data (evL data s (xs.take k)).2 x).1, (evP data (evL data s (xs.take k)).2 x).2) := by
  rw [take_snoc' h, evL_append, evL_cons, evL_nil, List.append_nil]
/-- The weight of what comes. -/
def wE : Ev → Nat
  | .txt t => t.length + 1
  | .hole f _ => 18 * f.text.length + 2
def wEs (l : List Ev) : Nat := (l.map wE).sum
theorem wEs_nil : wEs [] = 0 := rfl
theorem wEs_cons (e : Ev) (l : List Ev) : wEs (e :: l) = wE e + wEs l := by simp [wEs]
theorem wEs_append (a b : List Ev) : wEs (a ++ b) = wEs a + wEs b := by simp [wEs]
theorem wEs_flat {α : Type} (g : α → List Ev) (m : Nat) : ∀ l : List α, (∀ x ∈ l, wEs (g x) ≤ m) → wEs (l.flatMap g) ≤ l.length * m
  | [], _ => by simp [wEs_nil]
  | x :: l, h => by
    rw [List.flatMap_cons, wEs_append, List.length_cons, Nat.add_mul, Nat.one_mul]
    have h1 := h x (by simp)
    have h2 := wEs_flat g m l (fun y hy => h y (by simp [hy]))
    omega
mutual
theorem evP_wt : ∀ (x : PartD) (d : Nat) (data : List FieldD) (s : St), gdP d x = true → dBd data → wEs (evP data s x).1 ≤ 5 ^ d * (722 * (wtP x + 1))
  | .mk k t n ps os, d, data, s, hg, hd => by
    have hp : 1 ≤ 5 ^ d := Nat.pow_pos (by omega)
    have hf := find_bd hd n
    have big : ∀ m : Nat, m ≤ 722 * (wtP (.mk k t n ps os) + 1) → m ≤ 5 ^ d * (722 * (wtP (.mk k t n ps os) + 1)) := fun m h => Nat.le_trans h (Nat.le_mul_of_pos_left _ hp)
    rw [gdP_mk] at hg
    rw [evP_mk]
    split
    · refine big _ ?_
      rw [wEs_cons, wEs_nil, wE, wtP_mk]
      omega
    rename_i k1
    rw [if_neg k1] at hg
    split
    · refine big _ ?_
      rw [wEs_cons, wEs_nil, wE, wtP_mk]
      omega
    rename_i k2
    rw [if_neg k2] at hg
    by_cases k34 : k = 3 ∨ k = 4
    · rw [if_pos k34] at hg
      simp only [Bool.and_eq_true, Bool.not_eq_true', decide_eq_false_iff_not] at hg
      have hd0 : d ≠ 0 := hg.1.1.2
      have e5 : 5 ^ d = 5 * 5 ^ (d - 1) := by rw [← Nat.pow_succ']; congr 1; omega
      have h1 := fun da hda => evL_wt ps (d - 1) da s false hg.1.2 hda
      have h2 := evL_wt os (d - 1) data s false hg.2 hd
      have w1 : 5 ^ (d - 1) * (722 * wtL ps) ≤ 5 ^ (d - 1) * (722 * (wtP (.mk k t n ps os) + 1)) := Nat.mul_le_mul_left _ (by rw [wtP_mk]; omega)
      have w2 : 5 ^ (d - 1) * (722 * wtL os) ≤ 5 ^ (d - 1) * (722 * (wtP (.mk k t n ps os) + 1)) := Nat.mul_le_mul_left _ (by rw [wtP_mk]; omega)
      rw [e5, Nat.mul_assoc]
      split
      · split
        · have := h1 data hd; omega
        · omega
      · split
        · have h3 := wEs_flat (fun it => (evL (withF data it) s ps).1) (5 ^ (d - 1) * (722 * wtL ps)) (findF data n).items (fun it hit => h1 _ (with_bd hd (hf.2.2 it hit)))
          have h4 : (findF data n).items.length * (5 ^ (d - 1) * (722 * wtL ps)) ≤ 5 * (5 ^ (d - 1) * (722 * wtL ps)) := Nat.mul_le_mul_right _ hf.2.1
          dsimp only
          omega
        · simp [wEs_nil]
    · rw [if_neg k34] at hg; cases hg
theorem evL_wt : ∀ (xs : List PartD) (d : Nat) (data : List FieldD) (s : St) (b : Bool), gdL d b xs = true → dBd data → wEs (evL data s xs).1 ≤ 5 ^ d * (722 * wtL xs)
  | [], d, data, s, b, _, _ => by rw [evL_nil]; simp [wEs_nil]
  | x :: xs, d, data, s, b, hg, hd => by
    rw [gdL] at hg
    simp only [Bool.and_eq_true] at hg
    have h1 := evP_wt x d data s hg.1.1 hd
    have h2 := evL_wt xs d data (evP data s x).2 _ hg.2 hd
    rw [evL_cons, wEs_append]
    have e : wtL (x :: xs) = (wtP x + 1) + wtL xs := by rw [show x :: xs = [x] ++ xs from rfl, wtL_append, wtL_one]; omega
    rw [e, Nat.mul_add, Nat.mul_add]
    omega
end
def outP : Ev → Bs
  | .txt t => t
  | .hole f _ => f.text
def outS : Ev → Bs
  | .txt t => t
  | .hole f s => escFor (placeM s) f.text
def cat (g : Ev → Bs) (l : List Ev) : Bs := l.flatMap g
theorem cat_nil (g : Ev → Bs) : cat g [] = [] := rfl
theorem cat_cons (g : Ev → Bs) (e : Ev) (l : List Ev) : cat g (e :: l) = g e ++ cat g l := by simp [cat]
theorem cat_append (g : Ev → Bs) (a b : List Ev) : cat g (a ++ b) = cat g a ++ cat g b := by simp [cat]
theorem cat_len {g : Ev → Bs} (h : ∀ e, (g e).length ≤ wE e) : ∀ l, (cat g l).length ≤ wEs l
  | [] => by simp [cat]
  | e :: l => by
    rw [cat_cons, wEs_cons, List.length_append]
    have h1 := h e
    have h2 := cat_len h l
    omega
theorem outP_len (e : Ev) : (outP e).length ≤ wE e := by cases e <;> simp only [outP, wE] <;> omega
theorem outS_len (e : Ev) : (outS e).length ≤ wE e := by
  cases e with
  | txt t => simp only [outS, wE]; omega
  | hole f s => have := escFor_len (placeM s) f.text; simp only [outS, wE]; omega
def plainM (xs : List PartD) (data : List FieldD) : Bs := if partsB xs = true ∧ dataB data = true then cat outP (evL data st0 xs).1 else []
def fillM (xs : List PartD) (data : List FieldD) : Option Bs := if safeM xs = true ∧ dataB data = true then some (cat outS (evL data st0 xs).1) else none
end Go.Proofs.Ytoocbpendccngaa

/- Data: places of fields. Plain. -/
namespace Go.Proofs.Ytoocbpendccngaa
set_option maxRecDepth 100000
set_option linter.unusedVariables false
set_option linter.unusedSimpArgs false
open Go.RowKit
theorem encFs_get (l : List FieldD) (k : Nat) : (encFs l)[k]? = (l[k]?).map encF := by unfold encFs; rw [List.getElem?_map]
theorem strK_get (l : List Bs) (k : Nat) : (strs l)[k]? = (l[k]?).map fun t => [.str t] := by unfold strs; rw [List.getElem?_map]
theorem encFs_length (l : List FieldD) : (encFs l).length = l.length := by unfold encFs; simp
theorem strs_length (l : List Bs) : (strs l).length = l.length := by unfold strs; simp
theorem encFs_all (l : List FieldD) : (∀ e ∈ encFs l, e.length = 4) = True := eq_true (by
  intro e he; unfold encFs at he
  obtain ⟨f, _, rfl⟩ := List.mem_map.1 he; rfl)
theorem strs_all (l : List Bs) : (∀ e ∈ strs l, e.length = 1) = True := eq_true (by
  intro e he; unfold strs at he
  obtain ⟨f, _, rfl⟩ := List.mem_map.1 he; rfl)
theorem encF_mk (n t : Bs) (h : Bool) (i : List Bs) : encF ⟨n, t, h, i⟩ = [.str n, .str t, .bool h, .seq (strs i)] := rfl
theorem encFs_append (a b : List FieldD) : encFs (a ++ b) = encFs a ++ encFs b := by unfold encFs; rw [List.map_append]
theorem encFs_one (f : FieldD) : encFs [f] = [encF f] := rfl
theorem strK_inj {a b : List Bs} (h : strs a = strs b) : a = b := by
  induction a generalizing b with
  | nil => cases b with
    | nil => rfl
    | cons y ys => simp [strs] at h
  | cons x xs ih => cases b with
    | nil => simp [strs] at h
    | cons y ys =>
      unfold strs at h
      rw [List.map_cons, List.map_cons] at h
      simp only [List.cons.injEq, PV.str.injEq, and_true] at h
      rw [h.1, ih h.2]
theorem encF_inj {f g : FieldD} (h : encF f = encF g) : f = g := by
  obtain ⟨n, t, b, i⟩ := f
  obtain ⟨n', t', b', i'⟩ := g
  rw [encF_mk, encF_mk] at h
  simp only [List.cons.injEq, PV.str.injEq, PV.bool.injEq, PV.seq.injEq, and_true] at h
  obtain ⟨rfl, rfl, rfl, h⟩ := h
  rw [strK_inj h]
theorem encFs_inj {a b : List FieldD} (h : encFs a = encFs b) : a = b := by
  induction a generalizing b with
  | nil => cases b with
    | nil => rfl
    | cons y ys => simp [encFs] at h
  | cons x xs ih => cases b with
    | nil => simp [encFs] at h
    | cons y ys =>
      unfold encFs at h
      rw [List.map_cons, List.map_cons, List.cons.injEq] at h
      rw [encF_inj h.1, ih h.2]
theorem encFs_iff {a b : List FieldD} : encFs a = encFs b ↔ a = b := ⟨encFs_inj, fun h => h ▸ rfl⟩
/-- Lengths that are numbers. -/
def okF (l : List FieldD) : Prop := l.length ≤ 9223372036854775807 ∧ ∀ f ∈ l, f.name.length ≤ 9223372036854775807 ∧ f.text.length ≤ 9223372036854775807 ∧ f.items.length ≤ 9223372036854775807 ∧ ∀ t ∈ f.items, t.length ≤ 9223372036854775807
theorem okF_get {l : List FieldD} (h : okF l) {k : Nat} {f : FieldD} (hx : l[k]? = some f) : f.name.length ≤ 9223372036854775807 ∧ f.text.length ≤ 9223372036854775807 ∧ f.items.length ≤ 9223372036854775807 ∧ ∀ t ∈ f.items, t.length ≤ 9223372036854775807 := h.2 f (List.mem_of_getElem? hx)
theorem drop_at {α : Type} {l : List α} {k : Nat} {f : α} (hx : l[k]? = some f) : l.drop k = f :: l.drop (k + 1) := by
  obtain ⟨h1, rfl⟩ := List.getElem?_eq_some_iff.1 hx
  exact List.drop_eq_getElem_cons h1
theorem hasF_take {l : List FieldD} {k : Nat} {f : FieldD} (hx : l[k]? = some f) (n : Bs) : hasF (l.take (k + 1)) n = (hasF (l.take k) n || decide (f.name = n)) := by
  rw [take_snoc' hx]; unfold hasF; rw [List.any_append]; simp
theorem hasF_some {l : List FieldD} {k j : Nat} {f : FieldD} (hx : l[j]? = some f) (hj : j < k) : hasF (l.take k) f.name = true := by
  unfold hasF
  rw [List.any_eq_true]
  refine ⟨f, ?_, by simp⟩
  obtain ⟨h1, rfl⟩ := List.getElem?_eq_some_iff.1 hx
  rw [List.mem_take_iff_getElem]; exact ⟨j, by omega, rfl⟩
theorem with_take {l : List FieldD} {k : Nat} {f : FieldD} (hx : l[k]? = some f) (t : Bs) : withF (l.take (k + 1)) t = if f.name = itemN then withF (l.take k) t else withF (l.take k) t ++ [f] := by
  unfold withF
  rw [take_snoc' hx, List.filter_append]
  split
  · rename_i h; simp [h]
  · rename_i h; simp [h]
theorem with_len (l : List FieldD) (t : Bs) : (withF l t).length ≤ l.length + 1 := by
  unfold withF
  have := List.length_filter_le (fun f : FieldD => !decide (f.name = itemN)) l
  simp only [List.length_cons]; omega
theorem items_all {l : List Bs} {k : Nat} {t : Bs} (hx : l[k]? = some t) : (l.take (k + 1)).all valB = ((l.take k).all valB && valB t) := by
  rw [take_snoc' hx, List.all_append]; simp
theorem items_bad {l : List Bs} {k : Nat} {t : Bs} (hx : l[k]? = some t) (h : valB t = false) : l.all valB = false := by
  rw [List.all_eq_false]
  exact ⟨t, List.mem_of_getElem? hx, by rw [h]; decide⟩
end Go.Proofs.Ytoocbpendccngaa

/- What is filled in: the state behind it; its parts; the holes' texts in it. Plain. -/
namespace Go.Proofs.Ytoocbpendccngaa
set_option maxRecDepth 100000
set_option linter.unusedVariables false
set_option linter.unusedSimpArgs false
open Go.RowKit
theorem cat_flat {α : Type} (o : Ev → Bs) (g : α → List Ev) : ∀ l : List α, cat o (l.flatMap g) = l.flatMap fun x => cat o (g x)
  | [] => rfl
  | x :: l => by rw [List.flatMap_cons, cat_append, cat_flat o g l, List.flatMap_cons]
theorem safe_parts {xs : List PartD} (h : safeM xs = true) : partsB xs = true ∧ gdL 3 false xs = true ∧ chkL st0 xs = st0 ∧ (chkL st0 xs).mode ≠ 15 := by
  unfold safeM at h
  simp only [Bool.and_eq_true, decide_eq_true_eq] at h
  have h2 := h.1
  unfold partsB at h2
  simp only [Bool.and_eq_true] at h2
  exact ⟨h.1, h2.2, h.2, by rw [h.2]; decide⟩
end Go.Proofs.Ytoocbpendccngaa

/- What comes when parts are filled in, by steps; bounds. Plain. -/
namespace Go.Proofs.Ytoocbpendccngaa
set_option maxRecDepth 100000
set_option linter.unusedVariables false
set_option linter.unusedSimpArgs false
open Go.RowKit
mutual
theorem stV_ev9P (data : List FieldD) : ∀ (x : PartD) (s : St), stV s = true → stV (evP data s x).2 = true
  | .mk k t n ps os, s, h => by
    have h1 := stV_ev9L data ps s h
    have h2 := stV_ev9L data os s h
    rw [evP_mk]
    split
    · exact stV_afterS s t
    split
    · exact stV_behind s
    split
    · split
      · exact h1
      · exact h2
    split
    · exact h
    · exact h
theorem stV_ev9L (data : List FieldD) : ∀ (xs : List PartD) (s : St), stV s = true → stV (evL data s xs).2 = true
  | [], s, h => by rw [evL_nil]; exact h
  | x :: xs, s, h => by rw [evL_cons]; exact stV_ev9L data xs _ (stV_ev9P data x s h)
end
theorem ev_split {data : List FieldD} {s : St} {xs : List PartD} {k : Nat} {x : PartD} (h : xs[k]? = some x) : wEs (evL data s (xs.take k)).1 + wEs (evP data (evL data s (xs.take k)).2 x).1 ≤ wEs (evL data s xs).1 := by
  have e : evL data s xs = evL data s (xs.take (k + 1) ++ xs.drop (k + 1)) := by rw [List.take_append_drop]
  rw [e, evL_append, evL_snoc h]
  simp only [wEs_append]
  omega
/-- What comes of some items. -/
def evI (data : List FieldD) (s : St) (ps : List PartD) (its : List Bs) : List Ev := its.flatMap fun it => (evL (withF data it) s ps).1
theorem evI_nil (data : List FieldD) (s : St) (ps : List PartD) : evI data s ps [] = [] := rfl
theorem evI_snoc {data : List FieldD} {s : St} {ps : List PartD} {its : List Bs} {j : Nat} {t : Bs} (h : its[j]? = some t) : evI data s ps (its.take (j + 1)) = evI data s ps (its.take j) ++ (evL (withF data t) s ps).1 := by
  unfold evI
  rw [take_snoc' h, List.flatMap_append]; simp
theorem evI_split {data : List FieldD} {s : St} {ps : List PartD} {its : List Bs} {j : Nat} {t : Bs} (h : its[j]? = some t) : wEs (evI data s ps (its.take j)) + wEs (evL (withF data t) s ps).1 ≤ wEs (evI data s ps its) := by
  have e : evI data s ps its = evI data s ps (its.take (j + 1) ++ its.drop (j + 1)) := by rw [List.take_append_drop]
  have e2 : evI data s ps (its.take (j + 1) ++ its.drop (j + 1)) = evI data s ps (its.take (j + 1)) ++ evI data s ps (its.drop (j + 1)) := by unfold evI; rw [List.flatMap_append]
  rw [e, e2, evI_snoc h]
  simp only [wEs_append]
  omega
section
variable {data : List FieldD} {s : St} {k : Int} {t n : Bs} {ps os : List PartD}
theorem ev1 (h : k = 1) : evP data s (.mk k t n ps os) = ([.txt t], afterS s t) := by rw [evP_mk, if_pos h]
theorem ev2 (h : k = 2) : evP data s (.mk k t n ps os) = ([.hole (findF data n) s], behindM s) := by rw [evP_mk, if_neg (by omega), if_pos h]
theorem ev3 (h : k = 3) (hh : (findF data n).holds = true) : evP data s (.mk k t n ps os) = evL data s ps := by rw [evP_mk, if_neg (by omega), if_neg (by omega), if_pos h, if_pos hh]
theorem ev3o (h : k = 3) (hh : (findF data n).holds = false) : evP data s (.mk k t n ps os) = evL data s os := by rw [evP_mk, if_neg (by omega), if_neg (by omega), if_pos h, if_neg (by rw [hh]; decide)]
theorem ev4 (h : k = 4) : evP data s (.mk k t n ps os) = (evI data s ps (findF data n).items, s) := by rw [evP_mk, if_neg (by omega), if_neg (by omega), if_neg (by omega), if_pos h]; rfl
theorem ev0 (h1 : ¬ k = 1) (h2 : ¬ k = 2) (h3 : ¬ k = 3) (h4 : ¬ k = 4) : evP data s (.mk k t n ps os) = ([], s) := by rw [evP_mk, if_neg h1, if_neg h2, if_neg h3, if_neg h4]
end
/-- Deeper parts: the depth goes down. -/
theorem gd_deep {d : Nat} {k : Int} {t n : Bs} {ps os : List PartD} (h : gdP d (.mk k t n ps os) = true) (hk : k = 3 ∨ k = 4) : 1 ≤ d ∧ gdL (d - 1) false ps = true ∧ gdL (d - 1) false os = true := by
  rw [gdP_mk, if_neg (by omega), if_neg (by omega), if_pos hk] at h
  simp only [Bool.and_eq_true, Bool.not_eq_true', decide_eq_false_iff_not] at h
  exact ⟨by omega, h.1.2, h.2⟩
theorem wE_txt (t : Bs) : wE (.txt t) = t.length + 1 := rfl
theorem wE_hole (f : FieldD) (s : St) : wE (.hole f s) = 18 * f.text.length + 2 := rfl
theorem wEs_one (e : Ev) : wEs [e] = wE e := by rw [wEs_cons, wEs_nil]; rfl
def plW (data : List FieldD) (xs : List PartD) : Nat := wEs (evL data st0 xs).1
section
variable {data : List FieldD} {k : Int} {t n : Bs} {ps os : List PartD}
end
end Go.Proofs.Ytoocbpendccngaa

/- Simpler parts; parts put into others. Plain. -/
namespace Go.Proofs.Ytoocbpendccngaa
set_option maxRecDepth 100000
set_option linter.unusedVariables false
set_option linter.unusedSimpArgs false
open Go.RowKit
def PartD.txt : PartD → Bs
  | .mk _ t _ _ _ => t
/-- The text that stands at the end, if one does. -/
def endT : List PartD → Option Bs
  | [] => none
  | [.mk k t _ _ _] => if k = 1 then some t else none
  | _ :: y :: r => endT (y :: r)
/-- A text put behind the text at the end. -/
def joinT : List PartD → Bs → List PartD
  | [], _ => []
  | [.mk k t n a b], u => [.mk k (t ++ u) n a b]
  | x :: y :: r, u => x :: joinT (y :: r) u
def emptyK : PartD → Bool
  | .mk k _ _ ps os => (decide (k = 3) || decide (k = 4)) && decide (ps = []) && decide (os = [])
theorem endT_snoc : ∀ (xs : List PartD) (k : Int) (t n : Bs) (a b : List PartD), endT (xs ++ [.mk k t n a b]) = if k = 1 then some t else none
  | [], k, t, n, a, b => rfl
  | [x], k, t, n, a, b => by simp [endT]
  | x :: y :: r, k, t, n, a, b => by
    have := endT_snoc (y :: r) k t n a b
    simpa [endT] using this
theorem joinT_snoc : ∀ (xs : List PartD) (k : Int) (t n : Bs) (a b : List PartD) (u : Bs), joinT (xs ++ [.mk k t n a b]) u = xs ++ [.mk k (t ++ u) n a b]
  | [], k, t, n, a, b, u => rfl
  | [x], k, t, n, a, b, u => by simp [joinT]
  | x :: y :: r, k, t, n, a, b, u => by
    have := joinT_snoc (y :: r) k t n a b u
    simpa [joinT] using this
theorem endT_some {xs : List PartD} {t : Bs} (h : endT xs = some t) : ∃ ys n a b, xs = ys ++ [.mk 1 t n a b] := by
  rcases List.eq_nil_or_concat xs with rfl | ⟨ys, ⟨k, t', n, a, b⟩, rfl⟩
  · cases h
  · rw [List.concat_eq_append, endT_snoc] at h
    split at h
    · cases h; subst_vars; exact ⟨ys, n, a, b, List.concat_eq_append⟩
    · cases h
/-- A part put behind others, as the program does: none where a text would be too long. -/
def putS (out : List PartD) (p : PartD) : Option (List PartD) :=
  if emptyK p = true then some out
  else if p.kind = 1 then (match endT out with
    | some t => if (t ++ p.txt).length ≤ 600 then some (joinT out p.txt) else none
    | none => some (out ++ [p]))
  else some (out ++ [p])
/-- .. as the reference does: the text stands for itself there. -/
def putR (out : List PartD) (p : PartD) : List PartD :=
  if emptyK p = true then out
  else if p.kind = 1 then (match endT out with
    | some t => if (t ++ p.txt).length ≤ 600 then joinT out p.txt else out ++ [p]
    | none => out ++ [p])
  else out ++ [p]
mutual
def smP : PartD → Option PartD
  | .mk k t n ps os => match smG [] ps, smG [] os with
    | some a, some b => some (.mk k t n a b)
    | _, _ => none
def smG (out : List PartD) : List PartD → Option (List PartD)
  | [] => some out
  | x :: xs => match smP x with
    | none => none
    | some p => match putS out p with
      | none => none
      | some o => smG o xs
end
mutual
def srP : PartD → PartD
  | .mk k t n ps os => .mk k t n (srG [] ps) (srG [] os)
def srG (out : List PartD) : List PartD → List PartD
  | [] => out
  | x :: xs => srG (putR out (srP x)) xs
end
theorem smP_mk (k : Int) (t n : Bs) (ps os : List PartD) : smP (.mk k t n ps os) = match smG [] ps, smG [] os with
    | some a, some b => some (.mk k t n a b)
    | _, _ => none := by rw [smP]
theorem smG_nil (out : List PartD) : smG out [] = some out := by rw [smG]
theorem smG_cons (out : List PartD) (x : PartD) (xs : List PartD) : smG out (x :: xs) = match smP x with
    | none => none
    | some p => match putS out p with
      | none => none
      | some o => smG o xs := by rw [smG]
theorem srP_mk (k : Int) (t n : Bs) (ps os : List PartD) : srP (.mk k t n ps os) = .mk k t n (srG [] ps) (srG [] os) := by rw [srP]
theorem srG_nil (out : List PartD) : srG out [] = out := by rw [srG]
theorem srG_cons (out : List PartD) (x : PartD) (xs : List PartD) : srG out (x :: xs) = srG (putR out (srP x)) xs := by rw [srG]
theorem smG_append : ∀ (xs ys out : List PartD), smG out (xs ++ ys) = (smG out xs).bind fun o => smG o ys
  | [], ys, out => by rw [smG_nil]; rfl
  | x :: xs, ys, out => by
    rw [List.cons_append, smG_cons, smG_cons]
    cases smP x with
    | none => rfl
    | some p =>
      dsimp only
      cases putS out p with
      | none => rfl
      | some o => exact smG_append xs ys o
theorem smG_snoc {out : List PartD} {xs : List PartD} {k : Nat} {x : PartD} (h : xs[k]? = some x) : smG out (xs.take (k + 1)) = (smG out (xs.take k)).bind fun o => (smP x).bind fun p => putS o p := by
  rw [take_snoc' h, smG_append]
  congr 1
  funext o
  rw [smG_cons]
  cases smP x with
  | none => rfl
  | some p =>
    dsimp only
    show (match putS o p with | none => none | some o => smG o []) = putS o p
    cases putS o p with
    | none => rfl
    | some o' => exact smG_nil o'
theorem smG_stop {out : List PartD} {xs : List PartD} (k : Nat) (h : smG out (xs.take k) = none) : smG out xs = none := by
  have := smG_append (xs.take k) (xs.drop k) out
  rw [List.take_append_drop, h] at this
  exact this
theorem srG_append : ∀ (xs ys out : List PartD), srG out (xs ++ ys) = srG (srG out xs) ys
  | [], ys, out => by rw [srG_nil]; rfl
  | x :: xs, ys, out => by rw [List.cons_append, srG_cons, srG_cons, srG_append xs ys]
theorem srG_snoc {out : List PartD} {xs : List PartD} {k : Nat} {x : PartD} (h : xs[k]? = some x) : srG out (xs.take (k + 1)) = putR (srG out (xs.take k)) (srP x) := by
  rw [take_snoc' h, srG_append, srG_cons, srG_nil]
theorem putS_putR {out o : List PartD} {p : PartD} (h : putS out p = some o) : putR out p = o := by
  unfold putS at h
  unfold putR
  split at h
  · rename_i e; rw [if_pos e]; exact Option.some.inj h
  rename_i e
  rw [if_neg e]
  split at h
  · rename_i e1
    rw [if_pos e1]
    split at h
    · rename_i t ht
      split at h
      · rename_i hl; rw [if_pos hl]; exact Option.some.inj h
      · cases h
    · exact Option.some.inj h
  · rename_i e1; rw [if_neg e1]; exact Option.some.inj h
mutual
theorem smP_srP : ∀ (x p : PartD), smP x = some p → srP x = p
  | .mk k t n ps os, p, h => by
    rw [smP_mk] at h
    rw [srP_mk]
    split at h
    · rename_i a b h1 h2
      rw [smG_srG ps [] a h1, smG_srG os [] b h2]
      exact Option.some.inj h
    · cases h
theorem smG_srG : ∀ (xs out r : List PartD), smG out xs = some r → srG out xs = r
  | [], out, r, h => by rw [smG_nil] at h; rw [srG_nil]; exact Option.some.inj h
  | x :: xs, out, r, h => by
    rw [smG_cons] at h
    rw [srG_cons]
    split at h
    · cases h
    · rename_i p hp
      rw [smP_srP x p hp]
      split at h
      · cases h
      · rename_i o ho
        rw [putS_putR ho]
        exact smG_srG xs o r h
end
mutual
/-- Texts and holes have no parts within them; kinds are known. -/
def kidP : PartD → Prop
  | .mk k _ _ ps os => (k = 1 ∨ k = 2) ∧ ps = [] ∧ os = [] ∨ (k = 3 ∨ k = 4) ∧ kidL ps ∧ kidL os
def kidL : List PartD → Prop
  | [] => True
  | x :: xs => kidP x ∧ kidL xs
end
theorem kidP_mk (k : Int) (t n : Bs) (ps os : List PartD) : kidP (.mk k t n ps os) ↔ (k = 1 ∨ k = 2) ∧ ps = [] ∧ os = [] ∨ (k = 3 ∨ k = 4) ∧ kidL ps ∧ kidL os := by rw [kidP]
theorem kidL_cons (x : PartD) (xs : List PartD) : kidL (x :: xs) ↔ kidP x ∧ kidL xs := by rw [kidL]
mutual
theorem gd_kidP : ∀ (x : PartD) (d : Nat), gdP d x = true → kidP x
  | .mk k t n ps os, d, h => by
    rw [gdP_mk] at h
    rw [kidP_mk]
    split at h
    · simp only [Bool.and_eq_true, decide_eq_true_eq] at h
      exact .inl ⟨.inl ‹_›, h.1.2, h.2⟩
    split at h
    · simp only [Bool.and_eq_true, decide_eq_true_eq] at h
      exact .inl ⟨.inr ‹_›, h.1.2, h.2⟩
    split at h
    · simp only [Bool.and_eq_true] at h
      exact .inr ⟨‹_›, gd_kidL ps _ _ h.1.2, gd_kidL os _ _ h.2⟩
    · cases h
theorem gd_kidL : ∀ (xs : List PartD) (d : Nat) (b : Bool), gdL d b xs = true → kidL xs
  | [], d, b, _ => by simp [kidL]
  | x :: xs, d, b, h => by
    rw [gdL] at h
    simp only [Bool.and_eq_true] at h
    rw [kidL_cons]
    exact ⟨gd_kidP x d h.1.1, gd_kidL xs d _ h.2⟩
end
/-- What no valid row holds: two texts side by side, or a PartIf or PartEach that is not valid. -/
def sick (l : List PartD) : Prop := (∃ xs x y ys, l = xs ++ x :: y :: ys ∧ x.kind = 1 ∧ y.kind = 1) ∨ ∃ x ∈ l, (x.kind = 3 ∨ x.kind = 4) ∧ ∀ d, gdP d x = false
theorem gdL_head {d : Nat} : ∀ {xs ys : List PartD} {b : Bool}, gdL d b (xs ++ ys) = true → ∃ b', gdL d b' ys = true
  | [], ys, b, h => ⟨b, h⟩
  | x :: xs, ys, b, h => by
    rw [List.cons_append, gdL] at h
    simp only [Bool.and_eq_true] at h
    exact gdL_head h.2
theorem sick_bad {l : List PartD} (h : sick l) (d : Nat) (b : Bool) : gdL d b l = false := by
  cases hg : gdL d b l with
  | false => rfl
  | true =>
    exfalso
    rcases h with ⟨xs, x, y, ys, rfl, hx, hy⟩ | ⟨x, hx, _, hf⟩
    · obtain ⟨b', hb⟩ := gdL_head hg
      rw [gdL, gdL] at hb
      simp only [Bool.and_eq_true, hx, hy, decide_true, Bool.true_and] at hb
      exact absurd hb.2.1.2 (by decide)
    · obtain ⟨xs, ys, rfl⟩ := List.append_of_mem hx
      obtain ⟨b', hb⟩ := gdL_head hg
      rw [gdL] at hb
      simp only [Bool.and_eq_true] at hb
      rw [hf d] at hb
      exact absurd hb.1.1 (by decide)
theorem joinT_kinds : ∀ (l : List PartD) (u : Bs), (joinT l u).map PartD.kind = l.map PartD.kind
  | [], u => rfl
  | [.mk k t n a b], u => rfl
  | x :: y :: r, u => by
    have := joinT_kinds (y :: r) u
    simp only [joinT, List.map_cons] at this ⊢
    rw [this]
theorem sick_snoc {l : List PartD} (h : sick l) (p : PartD) : sick (l ++ [p]) := by
  rcases h with ⟨xs, x, y, ys, rfl, hx, hy⟩ | ⟨x, hx, h⟩
  · exact .inl ⟨xs, x, y, ys ++ [p], by simp, hx, hy⟩
  · exact .inr ⟨x, by simp [hx], h⟩
theorem two_of_kinds {l l' : List PartD} (hk : l'.map PartD.kind = l.map PartD.kind) (h : ∃ xs x y ys, l = xs ++ x :: y :: ys ∧ x.kind = 1 ∧ y.kind = 1) : ∃ xs x y ys, l' = xs ++ x :: y :: ys ∧ x.kind = 1 ∧ y.kind = 1 := by
  obtain ⟨xs, x, y, ys, rfl, hx, hy⟩ := h
  rw [List.map_append, List.map_cons, List.map_cons] at hk
  obtain ⟨us, vs, rfl, h1, h2⟩ := List.map_eq_append_iff.1 hk
  obtain ⟨a, vs', rfl, h3, h4⟩ := List.map_eq_cons_iff.1 h2
  obtain ⟨b, cs, rfl, h5, h6⟩ := List.map_eq_cons_iff.1 h4
  exact ⟨us, a, b, cs, rfl, h3.trans hx, h5.trans hy⟩
theorem sick_join {l : List PartD} (h : sick l) {t : Bs} (ht : endT l = some t) (u : Bs) : sick (joinT l u) := by
  rcases h with h | ⟨x, hx, hk, hf⟩
  · exact .inl (two_of_kinds (joinT_kinds l u) h)
  · obtain ⟨ys, n, a, b, rfl⟩ := endT_some ht
    rw [joinT_snoc]
    rcases List.mem_append.1 hx with hx | hx
    · exact .inr ⟨x, by simp [hx], hk, hf⟩
    · simp only [List.mem_singleton] at hx
      subst hx
      rw [kind_mk] at hk
      omega
theorem sick_putR {l : List PartD} (h : sick l) (p : PartD) : sick (putR l p) := by
  unfold putR
  split
  · exact h
  split
  · split
    · rename_i t ht
      split
      · exact sick_join h ht _
      · exact sick_snoc h p
    · exact sick_snoc h p
  · exact sick_snoc h p
theorem sick_srG : ∀ (xs out : List PartD), sick out → sick (srG out xs)
  | [], out, h => by rw [srG_nil]; exact h
  | x :: xs, out, h => by rw [srG_cons]; exact sick_srG xs _ (sick_putR h _)
theorem sick_ne {l : List PartD} (h : sick l) : l ≠ [] := by
  rintro rfl
  rcases h with ⟨xs, x, y, ys, e, _⟩ | ⟨x, hx, _⟩
  · simp at e
  · simp at hx
theorem putS_none {out : List PartD} {p : PartD} (h : putS out p = none) : sick (putR out p) := by
  unfold putS at h
  unfold putR
  split at h
  · cases h
  rename_i e
  rw [if_neg e]
  split at h
  · rename_i e1
    rw [if_pos e1]
    split at h
    · rename_i t ht
      split at h
      · cases h
      · rename_i hl
        rw [if_neg hl]
        obtain ⟨ys, n, a, b, rfl⟩ := endT_some ht
        exact .inl ⟨ys, .mk 1 t n a b, p, [], by simp, rfl, e1⟩
    · cases h
  · cases h
mutual
theorem smP_none : ∀ x : PartD, kidP x → smP x = none → (x.kind = 3 ∨ x.kind = 4) ∧ (∀ d, gdP d (srP x) = false) ∧ emptyK (srP x) = false
  | .mk k t n ps os, hk, h => by
    rw [kidP_mk] at hk
    rw [smP_mk] at h
    rw [srP_mk, kind_mk]
    rcases hk with ⟨_, rfl, rfl⟩ | ⟨hk, h1, h2⟩
    · rw [smG_nil] at h; cases h
    · refine ⟨hk, ?_⟩
      have hsick : sick (srG [] ps) ∨ sick (srG [] os) := by
        cases e1 : smG [] ps with
        | none => exact .inl (smG_none ps [] h1 e1)
        | some a =>
          cases e2 : smG [] os with
          | none => exact .inr (smG_none os [] h2 e2)
          | some b => rw [e1, e2] at h; cases h
      constructor
      · intro d
        rw [gdP_mk, if_neg (by omega), if_neg (by omega), if_pos hk]
        rcases hsick with hs | hs
        · rw [sick_bad hs]; simp
        · rw [sick_bad hs]; simp
      · show ((decide (k = 3) || decide (k = 4)) && decide (srG [] ps = []) && decide (srG [] os = [])) = false
        rcases hsick with hs | hs
        · rw [decide_eq_false (p := srG [] ps = []) (sick_ne hs)]; simp
        · rw [decide_eq_false (p := srG [] os = []) (sick_ne hs)]; simp
theorem smG_none : ∀ xs out : List PartD, kidL xs → smG out xs = none → sick (srG out xs)
  | [], out, _, h => by rw [smG_nil] at h; cases h
  | x :: xs, out, hk, h => by
    rw [kidL_cons] at hk
    rw [smG_cons] at h
    rw [srG_cons]
    split at h
    · rename_i hx
      obtain ⟨h1, h2, h3⟩ := smP_none x hk.1 hx
      refine sick_srG xs _ ?_
      have hkd : (srP x).kind = x.kind := by cases x; rw [srP_mk]; rfl
      unfold putR
      rw [h3, if_neg (by decide), if_neg (by rw [hkd]; omega)]
      exact .inr ⟨srP x, by simp, by rw [hkd]; exact h1, h2⟩
    · rename_i p hp
      rw [smP_srP x p hp]
      split at h
      · rename_i ho
        exact sick_srG xs _ (putS_none ho)
      · rename_i o ho
        rw [putS_putR ho]
        exact smG_none xs o hk.2 h
end
theorem afterS_join {s : St} (h : stV s = true) (t u : Bs) : afterS (afterS s t) u = afterS s (t ++ u) := by
  unfold afterS
  rw [if_pos h, if_pos h, if_pos (stV_run h t), run_append]
theorem chkL_app {s : St} (hv : stV s = true) (xs ys : List PartD) : chkL s (xs ++ ys) = chkL (chkL s xs) ys := by
  by_cases hs : s.mode = 15
  · rw [mode15 hv hs, chkL_bad, chkL_bad, chkL_bad]
  · rw [chkL_append _ _ _ hs]
    split
    · rename_i hm; rw [mode15 (stV_chkL _ _ hv) hm, chkL_bad]
    · rfl
theorem chkL_one {s : St} (hv : stV s = true) (x : PartD) : chkL s [x] = chkP s x := by
  rw [chkL_cons, chkL_nil]
  split
  · rename_i h; exact (mode15 (stV_chkP x s hv) h).symm
  · rfl
theorem chkP_empty {s : St} {p : PartD} (h : emptyK p = true) : chkP s p = s := by
  obtain ⟨k, t, n, ps, os⟩ := p
  unfold emptyK at h
  simp only [Bool.and_eq_true, Bool.or_eq_true, decide_eq_true_eq] at h
  obtain ⟨⟨hk, rfl⟩, rfl⟩ := h
  rw [chkP_mk, if_neg (by omega), if_neg (by omega), chkL_nil]
  simp
theorem chk_putR {s : St} (hv : stV s = true) (out : List PartD) (p : PartD) : chkL s (putR out p) = chkP (chkL s out) p := by
  have h9 : chkL s (out ++ [p]) = chkP (chkL s out) p := by rw [chkL_app hv, chkL_one (stV_chkL _ _ hv)]
  unfold putR
  split
  · rename_i e; rw [chkP_empty e]
  split
  · rename_i e1
    split
    · rename_i t ht
      split
      · obtain ⟨ys, n, a, b, rfl⟩ := endT_some ht
        obtain ⟨k, u, n', a', b'⟩ := p
        rw [kind_mk] at e1
        subst e1
        have hvy := stV_chkL ys s hv
        rw [joinT_snoc, chkL_app hv, chkL_one hvy, chkL_app hv, chkL_one hvy, chkP_mk, if_pos rfl, chkP_mk, if_pos rfl, chkP_mk, if_pos rfl, afterS_join hvy]; rfl
      · exact h9
    · exact h9
  · exact h9
mutual
theorem chk_srP : ∀ (x : PartD) (s : St), stV s = true → chkP s (srP x) = chkP s x
  | .mk k t n ps os, s, hv => by rw [srP_mk, chkP_mk, chkP_mk, chk_srG ps [] s hv, chk_srG os [] s hv, List.nil_append, List.nil_append]
theorem chk_srG : ∀ (xs out : List PartD) (s : St), stV s = true → chkL s (srG out xs) = chkL s (out ++ xs)
  | [], out, s, hv => by rw [srG_nil, List.append_nil]
  | x :: xs, out, s, hv => by
    have hvo := stV_chkL out s hv
    have e2 : chkL s (out ++ x :: xs) = chkL (chkP (chkL s out) x) xs := by
      rw [show out ++ x :: xs = (out ++ [x]) ++ xs by simp, chkL_app hv, chkL_app hv, chkL_one hvo]
    rw [srG_cons, chk_srG xs _ s hv, chkL_app hv, chk_putR hv, chk_srP x _ hvo, e2]
end
/-- A reading of what comes as a text, that hears of texts only what they are together. -/
theorem ev_endT {g : Ev → Bs} (hg : ∀ t, g (.txt t) = t) {data : List FieldD} {s : St} (hv : stV s = true) (ys : List PartD) (n n' : Bs) (a b a' b' : List PartD) (t u : Bs) :
    cat g (evL data s (ys ++ [.mk 1 (t ++ u) n a b])).1 = cat g (evL data s ((ys ++ [.mk 1 t n a b]) ++ [.mk 1 u n' a' b'])).1 ∧ (evL data s (ys ++ [.mk 1 (t ++ u) n a b])).2 = (evL data s ((ys ++ [.mk 1 t n a b]) ++ [.mk 1 u n' a' b'])).2 ∨ stV (evL data s ys).2 = false := by
  cases hq : stV (evL data s ys).2 with
  | false => exact .inr rfl
  | true =>
    left
    rw [evL_append, evL_append, evL_append]
    simp only [evL_cons, evL_nil, List.append_nil, evP_mk, if_true]
    rw [afterS_join hq]
    refine ⟨?_, rfl⟩
    simp only [cat_append, cat_cons, cat_nil, hg, List.append_nil, List.append_assoc]
mutual
theorem stV_evP : ∀ (x : PartD) (data : List FieldD) (s : St), stV s = true → stV (evP data s x).2 = true
  | .mk k t n ps os, data, s, h => by
    rw [evP_mk]
    split
    · exact stV_afterS s t
    split
    · exact stV_behind s
    split
    · split
      · exact stV_evL ps data s h
      · exact stV_evL os data s h
    split
    · exact h
    · exact h
theorem stV_evL : ∀ (xs : List PartD) (data : List FieldD) (s : St), stV s = true → stV (evL data s xs).2 = true
  | [], data, s, h => by rw [evL_nil]; exact h
  | x :: xs, data, s, h => by rw [evL_cons]; exact stV_evL xs data _ (stV_evP x data s h)
end
/-- The two say the same. -/
def sameEv (g : Ev → Bs) (a b : List Ev × St) : Prop := cat g a.1 = cat g b.1 ∧ a.2 = b.2
theorem ev_putR {g : Ev → Bs} (hg : ∀ t, g (.txt t) = t) {data : List FieldD} {s : St} (hv : stV s = true) (out : List PartD) (p : PartD) : sameEv g (evL data s (putR out p)) (evL data s (out ++ [p])) := by
  unfold putR
  split
  · rename_i e
    obtain ⟨k, t, n, ps, os⟩ := p
    unfold emptyK at e
    simp only [Bool.and_eq_true, Bool.or_eq_true, decide_eq_true_eq] at e
    obtain ⟨⟨hk, rfl⟩, rfl⟩ := e
    rw [evL_append, evL_cons, evL_nil, evP_mk, if_neg (by omega), if_neg (by omega)]
    by_cases k3 : k = 3
    · rw [if_pos k3]
      simp only [evL_nil, ite_self, List.append_nil]
      exact ⟨rfl, rfl⟩
    · rw [if_neg k3, if_pos (show k = 4 by omega)]
      simp only [evL_nil, List.append_nil]
      refine ⟨?_, rfl⟩
      rw [cat_append]
      have : ∀ l : List Bs, cat g (l.flatMap fun _ => ([] : List Ev)) = [] := by
        intro l
        induction l with
        | nil => rfl
        | cons x l ih => rw [List.flatMap_cons, List.nil_append]; exact ih
      rw [this, List.append_nil]
  split
  · rename_i e1
    split
    · rename_i t ht
      split
      · obtain ⟨ys, n, a, b, rfl⟩ := endT_some ht
        obtain ⟨k, u, n', a', b'⟩ := p
        rw [kind_mk] at e1
        subst e1
        rw [joinT_snoc]
        rcases ev_endT hg (data := data) hv ys n n' a b a' b' t u with h | h
        · exact h
        · rw [stV_evL ys data s hv] at h; cases h
      · exact ⟨rfl, rfl⟩
    · exact ⟨rfl, rfl⟩
  · exact ⟨rfl, rfl⟩
theorem sameEv_app {g : Ev → Bs} {data : List FieldD} {s : St} {a b : List PartD} (h : sameEv g (evL data s a) (evL data s b)) (c : List PartD) : sameEv g (evL data s (a ++ c)) (evL data s (b ++ c)) := by
  unfold sameEv at *
  rw [evL_append, evL_append]
  dsimp only
  rw [cat_append, cat_append, h.1, h.2]
  exact ⟨rfl, rfl⟩
theorem cat_flat_congr {g : Ev → Bs} {α : Type} {f f' : α → List Ev} (h : ∀ x, cat g (f x) = cat g (f' x)) (l : List α) : cat g (l.flatMap f) = cat g (l.flatMap f') := by
  rw [cat_flat, cat_flat]
  congr 1
  funext x
  exact h x
mutual
theorem ev_srP {g : Ev → Bs} (hg : ∀ t, g (.txt t) = t) : ∀ (x : PartD) (data : List FieldD) (s : St), stV s = true → sameEv g (evP data s (srP x)) (evP data s x)
  | .mk k t n ps os, data, s, hv => by
    have h1 := fun da => ev_srG hg ps [] da s hv
    have h2 := fun da => ev_srG hg os [] da s hv
    simp only [List.nil_append] at h1 h2
    rw [srP_mk, evP_mk, evP_mk]
    unfold sameEv
    split
    · exact ⟨rfl, rfl⟩
    split
    · exact ⟨rfl, rfl⟩
    split
    · split
      · exact h1 data
      · exact h2 data
    split
    · exact ⟨cat_flat_congr (fun it => (h1 _).1) _, rfl⟩
    · exact ⟨rfl, rfl⟩
theorem ev_srG {g : Ev → Bs} (hg : ∀ t, g (.txt t) = t) : ∀ (xs out : List PartD) (data : List FieldD) (s : St), stV s = true → sameEv g (evL data s (srG out xs)) (evL data s (out ++ xs))
  | [], out, data, s, hv => by rw [srG_nil, List.append_nil]; exact ⟨rfl, rfl⟩
  | x :: xs, out, data, s, hv => by
    have h1 := ev_srG hg xs (putR out (srP x)) data s hv
    have h2 := sameEv_app (ev_putR hg (data := data) hv out (srP x)) xs
    have hx := ev_srP hg x data (evL data s out).2 (stV_evL out data s hv)
    have h3 : sameEv g (evL data s (out ++ [srP x])) (evL data s (out ++ [x])) := by
      unfold sameEv at *
      rw [evL_append, evL_append, evL_cons, evL_cons, evL_nil, evL_nil]
      dsimp only
      rw [List.append_nil, List.append_nil, cat_append, cat_append, hx.1, hx.2]
      exact ⟨rfl, rfl⟩
    have h4 := sameEv_app h3 xs
    rw [srG_cons]
    unfold sameEv at *
    rw [show out ++ x :: xs = (out ++ [x]) ++ xs by simp]
    exact ⟨h1.1.trans (h2.1.trans h4.1), h1.2.trans (h2.2.trans h4.2)⟩
end
end Go.Proofs.Ytoocbpendccngaa

/- Parts put in place of holes; what simpler parts are once more. Plain. -/
namespace Go.Proofs.Ytoocbpendccngaa
set_option maxRecDepth 100000
set_option linter.unusedVariables false
set_option linter.unusedSimpArgs false
open Go.RowKit
mutual
/-- Nothing in it is empty, and no two texts stand side by side. -/
def plnP : PartD → Bool
  | .mk k _ _ ps os => !((decide (k = 3) || decide (k = 4)) && decide (ps = []) && decide (os = [])) && plnL false ps && plnL false os
def plnL : Bool → List PartD → Bool
  | _, [] => true
  | b, x :: xs => plnP x && !(b && decide (x.kind = 1)) && plnL (decide (x.kind = 1)) xs
end
theorem plnP_mk (k : Int) (t n : Bs) (ps os : List PartD) : plnP (.mk k t n ps os) = (!((decide (k = 3) || decide (k = 4)) && decide (ps = []) && decide (os = [])) && plnL false ps && plnL false os) := by rw [plnP]
theorem plnL_cons (b : Bool) (x : PartD) (xs : List PartD) : plnL b (x :: xs) = (plnP x && !(b && decide (x.kind = 1)) && plnL (decide (x.kind = 1)) xs) := by rw [plnL]
theorem plnL_append : ∀ (xs ys : List PartD) (b : Bool), plnL b (xs ++ ys) = (plnL b xs && plnL (lastT b xs) ys)
  | [], ys, b => by simp [plnL, lastT]
  | x :: xs, ys, b => by
    rw [List.cons_append, plnL_cons, plnL_cons, plnL_append xs ys, lastT_cons]
    simp only [Bool.and_assoc]
theorem endT_last : ∀ (xs : List PartD), (endT xs).isSome = lastT false xs
  | xs => by
    rcases List.eq_nil_or_concat xs with rfl | ⟨ys, ⟨k, t', n, a, b⟩, rfl⟩
    · rfl
    · rw [List.concat_eq_append, endT_snoc, lastT_snoc, kind_mk]
      by_cases h : k = 1 <;> simp [h]
theorem pln_putR {out : List PartD} {p : PartD} (ho : plnL false out = true) (hp : emptyK p = true ∨ plnP p = true) : (∃ o, putS out p = some o ∧ plnL false o = true) ∨ putS out p = none := by
  unfold putS
  split
  · exact .inl ⟨out, rfl, ho⟩
  rename_i he
  have hpp : plnP p = true := hp.resolve_left he
  have snoc : endT out = none ∨ p.kind ≠ 1 → plnL false (out ++ [p]) = true := by
    intro h
    have hl := endT_last out
    rw [plnL_append, ho, plnL_cons, hpp]
    rcases h with h | h
    · rw [h] at hl
      rw [← hl]; simp [plnL]
    · simp [plnL, h]
  split
  · rename_i e1
    split
    · rename_i t ht
      split
      · left
        refine ⟨_, rfl, ?_⟩
        obtain ⟨ys, n, a, b, rfl⟩ := endT_some ht
        rw [joinT_snoc]
        rw [plnL_append, plnL_cons, plnP_mk] at ho ⊢
        exact ho
      · exact .inr rfl
    · rename_i ht
      exact .inl ⟨_, rfl, snoc (.inl ht)⟩
  · rename_i e1
    exact .inl ⟨_, rfl, snoc (.inr e1)⟩
mutual
theorem pln_smP : ∀ (x p : PartD), smP x = some p → emptyK p = true ∨ plnP p = true
  | .mk k t n ps os, p, h => by
    rw [smP_mk] at h
    split at h
    · rename_i a b h1 h2
      have g1 := pln_smG ps [] a (by simp [plnL]) h1
      have g2 := pln_smG os [] b (by simp [plnL]) h2
      have e := Option.some.inj h
      subst e
      rw [plnP_mk, g1, g2]
      show ((decide (k = 3) || decide (k = 4)) && decide (a = []) && decide (b = [])) = true ∨ _
      cases ((decide (k = 3) || decide (k = 4)) && decide (a = []) && decide (b = [])) <;> simp
    · cases h
theorem pln_smG : ∀ (xs out r : List PartD), plnL false out = true → smG out xs = some r → plnL false r = true
  | [], out, r, ho, h => by rw [smG_nil] at h; exact Option.some.inj h ▸ ho
  | x :: xs, out, r, ho, h => by
    rw [smG_cons] at h
    split at h
    · cases h
    · rename_i p hp
      split at h
      · cases h
      · rename_i o hq
        rcases pln_putR ho (pln_smP x p hp) with ⟨o', h1, h2⟩ | h1
        · rw [hq] at h1
          exact pln_smG xs o r (Option.some.inj h1 ▸ h2) h
        · rw [hq] at h1; cases h1
end
mutual
theorem sm_plnP : ∀ x : PartD, plnP x = true → smP x = some x
  | .mk k t n ps os, h => by
    rw [plnP_mk] at h
    simp only [Bool.and_eq_true] at h
    rw [smP_mk, sm_plnL ps [] h.1.2, sm_plnL os [] h.2]
    rfl
theorem sm_plnL : ∀ (xs out : List PartD), plnL (lastT false out) xs = true → smG out xs = some (out ++ xs)
  | [], out, _ => by rw [smG_nil, List.append_nil]
  | x :: xs, out, h => by
    rw [plnL_cons] at h
    simp only [Bool.and_eq_true] at h
    have hx := sm_plnP x h.1.1
    have he : emptyK x = false := by
      obtain ⟨k, t, n, ps, os⟩ := x
      have := h.1.1
      rw [plnP_mk] at this
      simp only [Bool.and_eq_true, Bool.not_eq_true'] at this
      exact this.1.1
    have hput : putS out x = some (out ++ [x]) := by
      unfold putS
      rw [he, if_neg (by decide)]
      split
      · rename_i e1
        have h2 := h.1.2
        have hl := endT_last out
        rw [e1] at h2
        cases hq : endT out with
        | none => rfl
        | some t => rw [hq] at hl; rw [← hl] at h2; simp at h2
      · rfl
    rw [smG_cons, hx]
    dsimp only
    rw [hput]
    dsimp only
    rw [sm_plnL xs (out ++ [x]) (by rw [lastT_snoc]; exact h.2), List.append_assoc, List.singleton_append]
end
theorem sm_again {xs r : List PartD} (h : smG [] xs = some r) : smG [] r = some r := by
  have := pln_smG xs [] r (by simp [plnL]) h
  have h2 := sm_plnL r [] this
  rwa [List.nil_append] at h2
end Go.Proofs.Ytoocbpendccngaa

/- Simpler parts of valid parts are valid. Plain. -/
namespace Go.Proofs.Ytoocbpendccngaa
set_option maxRecDepth 100000
set_option linter.unusedVariables false
set_option linter.unusedSimpArgs false
open Go.RowKit
theorem dbl_cons2 (c a b : UInt8) (r : Bs) : dbl c (a :: b :: r) = ((decide (a = c) && decide (b = c)) || dbl c (b :: r)) := by rw [dbl]
theorem dbl_append {c : UInt8} : ∀ {t u : Bs}, dbl c t = false → dbl c u = false → ¬ (t.getLast? = some c ∧ u.head? = some c) → dbl c (t ++ u) = false
  | [], u, _, hu, _ => hu
  | [a], [], _, _, _ => rfl
  | [a], b :: r, _, hu, hn => by
    show dbl c (a :: b :: r) = false
    rw [dbl_cons2, hu]
    have : ¬ (a = c ∧ b = c) := fun h => hn ⟨by simp [h.1], by simp [h.2]⟩
    by_cases ha : a = c
    · have hb : ¬ b = c := fun h => this ⟨ha, h⟩
      simp [hb]
    · simp [ha]
  | a :: b :: r, u, ht, hu, hn => by
    rw [dbl_cons2] at ht
    simp only [Bool.or_eq_false_iff] at ht
    have := dbl_append (t := b :: r) (u := u) ht.2 hu (by simpa using hn)
    show dbl c (a :: b :: (r ++ u)) = false
    rw [dbl_cons2, ht.1]
    simpa using this
theorem edge_ends {t : Bs} (h : edgeT t = false) (h0 : t ≠ []) : (∀ c, t.head? = some c → brace c = false) ∧ ∀ c, t.getLast? = some c → brace c = false := by
  unfold edgeT at h
  simp only [Bool.or_eq_false_iff] at h
  constructor
  · intro c hc
    cases t with
    | nil => exact absurd rfl h0
    | cons a r =>
      obtain rfl : a = c := by simpa using hc
      exact h.1
  · intro c hc
    have hl := List.length_pos_iff.2 h0
    rw [List.getLast?_eq_getElem?] at hc
    rw [List.getD_eq_getElem?_getD, List.getD_eq_getElem?_getD, hc] at h
    exact h.2
theorem edge_of {t : Bs} (h1 : ∀ c, t.head? = some c → brace c = false) (h2 : ∀ c, t.getLast? = some c → brace c = false) (h0 : t ≠ []) : edgeT t = false := by
  unfold edgeT
  simp only [Bool.or_eq_false_iff]
  constructor
  · cases t with
    | nil => exact absurd rfl h0
    | cons a r => exact h1 a rfl
  · have hl := List.length_pos_iff.2 h0
    have e := List.getElem?_eq_getElem (l := t) (i := t.length - 1) (by omega)
    rw [List.getD_eq_getElem?_getD, e]
    refine h2 _ ?_
    rw [List.getLast?_eq_getElem?, e]; rfl
theorem txtB_join {t u : Bs} (ht : txtB t = true) (hu : txtB u = true) (hl : (t ++ u).length ≤ 600) : txtB (t ++ u) = true := by
  unfold txtB textB at *
  simp only [Bool.and_eq_true, Bool.not_eq_true', decide_eq_true_eq, decide_eq_false_iff_not] at *
  obtain ⟨⟨⟨⟨⟨_, t1⟩, t2⟩, t3⟩, t4⟩, t5⟩ := ht
  obtain ⟨⟨⟨⟨⟨_, u1⟩, u2⟩, u3⟩, u4⟩, u5⟩ := hu
  obtain ⟨e1, e2⟩ := edge_ends t5 t2
  obtain ⟨f1, f2⟩ := edge_ends u5 u2
  have hb : ∀ c, brace c = true → ¬ (t.getLast? = some c ∧ u.head? = some c) := fun c hc h => by rw [e2 c h.1] at hc; cases hc
  have hne : t ++ u ≠ [] := by simp [t2]
  refine ⟨⟨⟨⟨⟨hl, ?_⟩, hne⟩, dbl_append t3 u3 (hb 123 (by decide))⟩, dbl_append t4 u4 (hb 125 (by decide))⟩, edge_of ?_ ?_ hne⟩
  · unfold allB at *
    rw [List.all_append, t1, u1]; rfl
  · intro c hc
    cases t with
    | nil => exact absurd rfl t2
    | cons a r => exact e1 c (by simpa using hc)
  · intro c hc
    have : (t ++ u).getLast? = u.getLast? := by
      rw [List.getLast?_append]
      cases hq : u.getLast? with
      | none => rw [List.getLast?_eq_none_iff] at hq; exact absurd hq u2
      | some x => rfl
    rw [this] at hc
    exact f2 c hc
theorem gd_snoc {d : Nat} {xs : List PartD} {p : PartD} (h : gdL d false xs = true) (hp : gdP d p = true) (hn : endT xs = none ∨ p.kind ≠ 1) : gdL d false (xs ++ [p]) = true := by
  have hl := endT_last xs
  rw [gdL_append, h, gdL_one, hp]
  rcases hn with hn | hn
  · rw [hn] at hl; rw [← hl]; rfl
  · simp [hn]
theorem gd_putS {d : Nat} {out o : List PartD} {p : PartD} (h : gdL d false out = true) (hp : emptyK p = true ∨ gdP d p = true) (hq : putS out p = some o) : gdL d false o = true := by
  unfold putS at hq
  split at hq
  · exact Option.some.inj hq ▸ h
  rename_i he
  have hpp := hp.resolve_left he
  split at hq
  · rename_i e1
    split at hq
    · rename_i t ht
      split at hq
      · rename_i hl
        obtain ⟨ys, n, a, b, rfl⟩ := endT_some ht
        obtain ⟨k, u, n', a', b'⟩ := p
        rw [kind_mk] at e1
        subst e1
        rw [joinT_snoc] at hq
        have hq := Option.some.inj hq
        subst hq
        rw [gdL_append, gdL_one, gdP_mk, if_pos rfl] at h ⊢
        rw [gdP_mk, if_pos rfl] at hpp
        simp only [Bool.and_eq_true] at h hpp ⊢
        exact ⟨h.1, ⟨⟨⟨txtB_join h.2.1.1.1.1 hpp.1.1.1 hl, h.2.1.1.1.2⟩, h.2.1.1.2⟩, h.2.1.2⟩, h.2.2⟩
      · cases hq
    · rename_i ht
      exact Option.some.inj hq ▸ gd_snoc h hpp (.inl ht)
  · rename_i e1
    exact Option.some.inj hq ▸ gd_snoc h hpp (.inr e1)
mutual
theorem gd_smP : ∀ (x p : PartD) (d : Nat), gdP d x = true → smP x = some p → emptyK p = true ∨ gdP d p = true
  | .mk k t n ps os, p, d, hg, h => by
    rw [smP_mk] at h
    rw [gdP_mk] at hg
    split at h
    · rename_i a b h1 h2
      have e := Option.some.inj h
      subst e
      right
      rw [gdP_mk]
      split at hg
      · rename_i k1
        simp only [Bool.and_eq_true, decide_eq_true_eq] at hg
        obtain ⟨⟨⟨g1, g2⟩, rfl⟩, rfl⟩ := hg
        rw [smG_nil] at h1 h2
        rw [if_pos k1, ← Option.some.inj h1, ← Option.some.inj h2, g1, g2]; rfl
      rename_i k1
      rw [if_neg k1]
      split at hg
      · rename_i k2
        simp only [Bool.and_eq_true, decide_eq_true_eq] at hg
        obtain ⟨⟨⟨g1, g2⟩, rfl⟩, rfl⟩ := hg
        rw [smG_nil] at h1 h2
        rw [if_pos k2, ← Option.some.inj h1, ← Option.some.inj h2]
        simp only [Bool.and_eq_true, decide_eq_true_eq]
        exact ⟨⟨⟨g1, g2⟩, trivial⟩, trivial⟩
      rename_i k2
      rw [if_neg k2]
      split at hg
      · rename_i k3
        rw [if_pos k3]
        simp only [Bool.and_eq_true] at hg ⊢
        obtain ⟨⟨⟨⟨⟨g1, g2⟩, g3⟩, g4⟩, g5⟩, g6⟩ := hg
        refine ⟨⟨⟨⟨⟨g1, g2⟩, ?_⟩, g4⟩, gd_smG ps [] a (d - 1) (gdL_nil _ _) ⟨_, g5⟩ h1⟩, gd_smG os [] b (d - 1) (gdL_nil _ _) ⟨_, g6⟩ h2⟩
        by_cases k4 : k = 4
        · have : os = [] := by simpa [k4] using g3
          subst this
          rw [smG_nil] at h2
          rw [← Option.some.inj h2]; simp
        · simp [k4]
      · cases hg
    · cases h
theorem gd_smG : ∀ (xs out r : List PartD) (d : Nat), gdL d false out = true → (∃ b, gdL d b xs = true) → smG out xs = some r → gdL d false r = true
  | [], out, r, d, ho, _, h => by rw [smG_nil] at h; exact Option.some.inj h ▸ ho
  | x :: xs, out, r, d, ho, ⟨b, hg⟩, h => by
    rw [gdL] at hg
    simp only [Bool.and_eq_true] at hg
    rw [smG_cons] at h
    split at h
    · cases h
    · rename_i p hp
      split at h
      · cases h
      · rename_i o hq
        exact gd_smG xs o r d (gd_putS ho (gd_smP x p d hg.1.1 hp) hq) ⟨_, hg.2⟩ h
end
theorem cnt_join : ∀ (l : List PartD) (u : Bs), cntL (joinT l u) = cntL l
  | [], _ => rfl
  | [.mk k t n a b], u => by simp [joinT, cntL, cntP]
  | x :: y :: r, u => by
    have := cnt_join (y :: r) u
    have e1 : ∀ (z : PartD) (l : List PartD), cntL (z :: l) = 1 + cntP z + cntL l := fun z l => by rw [cntL]
    rw [show joinT (x :: y :: r) u = x :: joinT (y :: r) u by rw [joinT], e1, this, e1 x (y :: r)]
theorem cnt_putS {out o : List PartD} {p : PartD} (h : putS out p = some o) : cntL o ≤ cntL out + (1 + cntP p) := by
  unfold putS at h
  have hs : cntL (out ++ [p]) = cntL out + (1 + cntP p) := by rw [cntL_append, cntL_one]
  split at h
  · rw [← Option.some.inj h]; omega
  split at h
  · split at h
    · split at h
      · rw [← Option.some.inj h, cnt_join]; omega
      · cases h
    · rw [← Option.some.inj h]; omega
  · rw [← Option.some.inj h]; omega
mutual
theorem cnt_smP : ∀ (x p : PartD), smP x = some p → cntP p ≤ cntP x
  | .mk k t n ps os, p, h => by
    rw [smP_mk] at h
    split at h
    · rename_i a b h1 h2
      rw [← Option.some.inj h, cntP_mk, cntP_mk]
      have g1 := cnt_smG ps [] a h1
      have g2 := cnt_smG os [] b h2
      rw [cntL_nil] at g1 g2
      omega
    · cases h
theorem cnt_smG : ∀ (xs out r : List PartD), smG out xs = some r → cntL r ≤ cntL out + cntL xs
  | [], out, r, h => by rw [smG_nil] at h; rw [← Option.some.inj h]; omega
  | x :: xs, out, r, h => by
    rw [smG_cons] at h
    split at h
    · cases h
    · rename_i p hp
      split at h
      · cases h
      · rename_i o hq
        have h1 := cnt_smP x p hp
        have h2 := cnt_putS hq
        have h3 := cnt_smG xs o r h
        rw [cntL]
        omega
end
def simM (xs : List PartD) : Option (List PartD) := if partsB xs = true then smG [] xs else none
theorem sim_valid {xs r : List PartD} (h : simM xs = some r) : partsB xs = true ∧ partsB r = true ∧ smG [] xs = some r ∧ simM r = some r := by
  unfold simM at h
  split at h
  · rename_i hp
    have hb := hp
    unfold partsB at hb
    simp only [Bool.and_eq_true, decide_eq_true_eq] at hb
    have hv : partsB r = true := by
      have h1 := cnt_smG xs [] r h
      rw [cntL_nil] at h1
      unfold partsB
      rw [gd_smG xs [] r 3 (gdL_nil _ _) ⟨_, hb.2⟩ h, decide_eq_true (by omega)]; rfl
    refine ⟨hp, hv, h, ?_⟩
    unfold simM
    rw [if_pos hv]
    exact sm_again h
  · cases h
/-- The reference's: the parts if they are valid. -/
theorem sim_ref (xs : List PartD) (hp : partsB xs = true) : (if partsB (srG [] xs) = true then some (srG [] xs) else none) = simM xs := by
  have hb := hp
  unfold partsB at hb
  simp only [Bool.and_eq_true, decide_eq_true_eq] at hb
  cases h : smG [] xs with
  | none =>
    have hs := smG_none xs [] (gd_kidL xs _ _ hb.2) h
    rw [if_neg]
    · unfold simM; rw [if_pos hp, h]
    · intro hq
      unfold partsB at hq
      simp only [Bool.and_eq_true] at hq
      rw [sick_bad hs] at hq
      cases hq.2
  | some r =>
    have hm : simM xs = some r := by unfold simM; rw [if_pos hp, h]
    obtain ⟨_, hv, _, _⟩ := sim_valid hm
    rw [smG_srG xs [] r h, if_pos hv, hm]
theorem sim_safe {xs r : List PartD} (h : simM xs = some r) (hs : safeM xs = true) : safeM r = true := by
  obtain ⟨_, hv, hg, _⟩ := sim_valid h
  have h1 := chk_srG xs [] st0 stV_st0
  rw [smG_srG xs [] r hg, List.nil_append] at h1
  unfold safeM at hs ⊢
  simp only [Bool.and_eq_true, decide_eq_true_eq] at hs ⊢
  exact ⟨hv, h1.trans hs.2⟩
theorem sim_plain {xs r : List PartD} (h : simM xs = some r) (data : List FieldD) : plainM r data = plainM xs data := by
  obtain ⟨hx, hv, hg, _⟩ := sim_valid h
  have h1 := ev_srG (g := outP) (fun _ => rfl) xs [] data st0 stV_st0
  rw [smG_srG xs [] r hg, List.nil_append] at h1
  unfold plainM
  rw [hx, hv, h1.1]
theorem sim_fill {xs r : List PartD} (h : simM xs = some r) (hs : safeM xs = true) (data : List FieldD) : fillM r data = fillM xs data := by
  obtain ⟨hx, hv, hg, _⟩ := sim_valid h
  have h1 := ev_srG (g := outS) (fun _ => rfl) xs [] data st0 stV_st0
  rw [smG_srG xs [] r hg, List.nil_append] at h1
  unfold fillM
  rw [sim_safe h hs, hs, h1.1]
end Go.Proofs.Ytoocbpendccngaa
