/- Names in parts; sorted rows of texts. Plain. -/
import Derived.Test.YtdedddmnacomfaaVK3
import Derived.Lib.SlicesCompact

namespace Go.Proofs.Ytdedddmnacomfaa
set_option maxRecDepth 100000
set_option linter.unusedVariables false
set_option linter.unusedSimpArgs false
open Go.RowKit
mutual
/-- The names of a part and of those within it, of a kind. -/
def nmP (q : Int) : PartD → List Bs
  | .mk k _ n ps os => (if k ≠ 1 ∧ (q = 0 ∨ k = q) then [n] else []) ++ (nmL q ps ++ nmL q os)
def nmL (q : Int) : List PartD → List Bs
  | [] => []
  | x :: xs => nmP q x ++ nmL q xs
end
theorem nmP_mk (q k : Int) (t n : Bs) (ps os : List PartD) : nmP q (.mk k t n ps os) = (if k ≠ 1 ∧ (q = 0 ∨ k = q) then [n] else []) ++ (nmL q ps ++ nmL q os) := by rw [nmP]
theorem nmL_nil (q : Int) : nmL q [] = [] := by rw [nmL]
theorem nmL_cons (q : Int) (x : PartD) (xs : List PartD) : nmL q (x :: xs) = nmP q x ++ nmL q xs := by rw [nmL]
theorem nmL_append (q : Int) : ∀ xs ys : List PartD, nmL q (xs ++ ys) = nmL q xs ++ nmL q ys
  | [], ys => by rw [List.nil_append, nmL_nil, List.nil_append]
  | x :: xs, ys => by rw [List.cons_append, nmL_cons, nmL_cons, nmL_append q xs ys, List.append_assoc]
theorem nmL_snoc {q : Int} {xs : List PartD} {k : Nat} {x : PartD} (h : xs[k]? = some x) : nmL q (xs.take (k + 1)) = nmL q (xs.take k) ++ nmP q x := by
  rw [take_snoc' h, nmL_append, nmL_cons, nmL_nil, List.append_nil]
mutual
theorem nmP_len (q : Int) : ∀ x : PartD, (nmP q x).length ≤ 1 + wtP x
  | .mk k t n ps os => by
    have h1 := nmL_len q ps
    have h2 := nmL_len q os
    rw [nmP_mk, wtP_mk, List.length_append, List.length_append]
    split <;> simp only [List.length_singleton, List.length_nil] <;> omega
theorem nmL_len (q : Int) : ∀ xs : List PartD, (nmL q xs).length ≤ wtL xs
  | [] => by rw [nmL_nil]; simp
  | x :: xs => by
    have h1 := nmP_len q x
    have h2 := nmL_len q xs
    rw [nmL_cons, List.length_append, show x :: xs = [x] ++ xs from rfl, wtL_append, wtL_one]; omega
end
mutual
theorem nmP_mem (q : Int) : ∀ (x : PartD) (t : Bs), t ∈ nmP q x → t.length ≤ wtP x
  | .mk k t' n ps os, t, h => by
    rw [wtP_mk]
    rw [nmP_mk] at h
    rcases List.mem_append.1 h with h | h
    · split at h
      · simp only [List.mem_singleton] at h; subst h; omega
      · simp at h
    · rcases List.mem_append.1 h with h | h
      · have := nmL_mem q ps t h; omega
      · have := nmL_mem q os t h; omega
theorem nmL_mem (q : Int) : ∀ (xs : List PartD) (t : Bs), t ∈ nmL q xs → t.length ≤ wtL xs
  | [], t, h => by rw [nmL_nil] at h; simp at h
  | x :: xs, t, h => by
    rw [nmL_cons] at h
    rw [show x :: xs = [x] ++ xs from rfl, wtL_append, wtL_one]
    rcases List.mem_append.1 h with h | h
    · have := nmP_mem q x t h; omega
    · have := nmL_mem q xs t h; omega
end
abbrev Asc (l : List Bs) : Prop := l.Pairwise (· < ·)
theorem bs_irr (a : Bs) : ¬ a < a := List.lt_irrefl a
theorem bs_trans {a b c : Bs} (h : a < b) (k : b < c) : a < c := List.lt_trans h k
theorem bs_tri (a b : Bs) : a < b ∨ a = b ∨ b < a := by
  by_cases h : a < b
  · exact .inl h
  · by_cases k : b < a
    · exact .inr (.inr k)
    · exact .inr (.inl (List.le_antisymm (List.not_lt.1 k) (List.not_lt.1 h)))
theorem asc_ext : ∀ {a b : List Bs}, Asc a → Asc b → (∀ x, x ∈ a ↔ x ∈ b) → a = b
  | [], [], _, _, _ => rfl
  | [], y :: b, _, _, h => by have := (h y).2 (by simp); simp at this
  | x :: a, [], _, _, h => by have := (h x).1 (by simp); simp at this
  | x :: a, y :: b, ha, hb, h => by
    have ha' := List.pairwise_cons.1 ha
    have hb' := List.pairwise_cons.1 hb
    have e : x = y := by
      rcases bs_tri x y with hlt | e | hlt
      · have := (h x).1 (by simp)
        rcases List.mem_cons.1 this with e | hm
        · exact e
        · exact absurd (bs_trans hlt (hb'.1 x hm)) (bs_irr x)
      · exact e
      · have := (h y).2 (by simp)
        rcases List.mem_cons.1 this with e | hm
        · exact e.symm
        · exact absurd (bs_trans hlt (ha'.1 y hm)) (bs_irr y)
    subst e
    congr 1
    refine asc_ext ha'.2 hb'.2 fun z => ?_
    constructor
    · intro hz
      rcases List.mem_cons.1 ((h z).1 (by simp [hz])) with e | hm
      · subst e; exact absurd (ha'.1 z hz) (bs_irr z)
      · exact hm
    · intro hz
      rcases List.mem_cons.1 ((h z).2 (by simp [hz])) with e | hm
      · subst e; exact absurd (hb'.1 z hz) (bs_irr z)
      · exact hm
/-- A text put into an ascending row, once. -/
def insU : List Bs → Bs → List Bs
  | [], s => [s]
  | x :: l, s => if x < s then x :: insU l s else if x = s then x :: l else s :: x :: l
theorem insU_mem : ∀ (l : List Bs) (s x : Bs), x ∈ insU l s ↔ x = s ∨ x ∈ l
  | [], s, x => by simp [insU]
  | y :: l, s, x => by
    unfold insU
    split
    · rw [List.mem_cons, insU_mem l s x, List.mem_cons]; constructor <;> (rintro (h | h | h) <;> simp [h])
    split
    · rename_i e; subst e
      rw [List.mem_cons]; constructor
      · rintro (h | h) <;> simp [h]
      · rintro (h | h | h) <;> simp [h]
    · simp
theorem insU_asc : ∀ {l : List Bs} (s : Bs), Asc l → Asc (insU l s)
  | [], s, _ => by simp [insU]
  | y :: l, s, h => by
    have h' := List.pairwise_cons.1 h
    unfold insU
    split
    · rename_i hy
      refine List.pairwise_cons.2 ⟨fun z hz => ?_, insU_asc s h'.2⟩
      rcases (insU_mem l s z).1 hz with rfl | hz
      · exact hy
      · exact h'.1 z hz
    split
    · exact h
    · rename_i h1 h2
      have hs : s < y := by
        rcases bs_tri y s with h | h | h
        · exact absurd h h1
        · exact absurd h h2
        · exact h
      refine List.pairwise_cons.2 ⟨fun z hz => ?_, h⟩
      rcases List.mem_cons.1 hz with rfl | hz
      · exact hs
      · exact bs_trans hs (h'.1 z hz)
theorem insU_len : ∀ (l : List Bs) (s : Bs), (insU l s).length ≤ l.length + 1
  | [], s => by simp [insU]
  | y :: l, s => by
    have := insU_len l s
    unfold insU
    (repeat' split) <;> simp only [List.length_cons] <;> omega
/-- The place of a text in an ascending row. -/
theorem insU_at : ∀ (l : List Bs) (s : Bs) (k : Nat), k ≤ l.length → (∀ x ∈ l.take k, x < s) → (∀ x, l[k]? = some x → ¬ x < s) → insU l s = if l[k]? = some s then l else l.take k ++ s :: l.drop k
  | [], s, k, hk, _, _ => by simp [insU]
  | y :: l, s, 0, _, _, h => by
    have hy := h y rfl
    unfold insU
    rw [if_neg hy]
    simp only [List.getElem?_cons_zero, Option.some.injEq, List.take_zero, List.nil_append, List.drop_zero]
  | y :: l, s, k + 1, hk, h1, h2 => by
    have hy := h1 y (by simp)
    unfold insU
    rw [if_pos hy, insU_at l s k (by simpa using hk) (fun x hx => h1 x (by simp [hx])) (fun x hx => h2 x (by simpa using hx))]
    simp only [List.getElem?_cons_succ]
    split <;> simp
def usedL (l : List Bs) : List Bs := l.foldl insU []
theorem fold_asc : ∀ (l a : List Bs), Asc a → Asc (l.foldl insU a)
  | [], _, h => h
  | x :: l, a, h => fold_asc l _ (insU_asc x h)
theorem fold_mem : ∀ (l a : List Bs) (x : Bs), x ∈ l.foldl insU a ↔ x ∈ l ∨ x ∈ a
  | [], a, x => by simp
  | y :: l, a, x => by
    rw [List.foldl_cons, fold_mem l _ x, insU_mem, List.mem_cons]
    constructor
    · rintro (h | h | h) <;> simp [h]
    · rintro ((h | h) | h) <;> simp [h]
theorem usedL_asc (l : List Bs) : Asc (usedL l) := fold_asc l [] List.Pairwise.nil
theorem usedL_mem (l : List Bs) (x : Bs) : x ∈ usedL l ↔ x ∈ l := by unfold usedL; rw [fold_mem]; simp
theorem fold_len : ∀ (l a : List Bs), (l.foldl insU a).length ≤ l.length + a.length
  | [], a => by simp
  | y :: l, a => by
    have h1 := fold_len l (insU a y)
    have h2 := insU_len a y
    rw [List.foldl_cons, List.length_cons]; omega
theorem usedL_len (l : List Bs) : (usedL l).length ≤ l.length := by have := fold_len l []; simpa [usedL] using this
theorem sort_mem (l : List Bs) (x : Bs) : x ∈ l.mergeSort (fun x y => decide (x ≤ y)) ↔ x ∈ l := (List.mergeSort_perm l _).mem_iff
theorem bs_le_trans {a b c : Bs} (h : a ≤ b) (k : b ≤ c) : a ≤ c := List.le_trans h k
theorem sort_sorted (l : List Bs) : (l.mergeSort (fun x y => decide (x ≤ y))).Pairwise (· ≤ ·) := by
  have := List.pairwise_mergeSort (le := fun x y : Bs => decide (x ≤ y)) (fun a b c h k => by
    simp only [decide_eq_true_eq] at *; exact bs_le_trans h k) (fun a b => by
    simp only [Bool.or_eq_true, decide_eq_true_eq]; exact List.le_total a b) l
  exact this.imp (fun h => by simpa using h)
theorem get_bang {l : List Bs} {m : Nat} {x : Bs} (h : l[m]? = some x) : l.toArray[m]! = x := by simp [h]
theorem compact_asc (l : List Bs) (hl : l.Pairwise (· ≤ ·)) : ∀ m, m ≤ l.length → Asc (Lib.compactUpTo l.toArray m) ∧ (∀ x, x ∈ Lib.compactUpTo l.toArray m ↔ x ∈ l.take m) ∧ ∀ x ∈ Lib.compactUpTo l.toArray m, ∀ j y, l[j]? = some y → m ≤ j + 1 → x ≤ y
  | 0, _ => by simp [Lib.compactUpTo]
  | m + 1, hm => by
    obtain ⟨h1, h2, h3⟩ := compact_asc l hl m (by omega)
    obtain ⟨x, hx⟩ := get_some (xs := l) (k := m) (by omega)
    have hxb := get_bang hx
    have htk := take_snoc' hx
    have hle : ∀ (i j : Nat) (a b : Bs), l[i]? = some a → l[j]? = some b → i ≤ j → a ≤ b := by
      intro i j a b ha hb hij
      obtain ⟨hi, rfl⟩ := List.getElem?_eq_some_iff.1 ha
      obtain ⟨hj, rfl⟩ := List.getElem?_eq_some_iff.1 hb
      rcases Nat.lt_or_eq_of_le hij with h | h
      · exact List.pairwise_iff_getElem.1 hl i j hi hj h
      · subst h; exact List.le_refl _
    rw [Lib.compactUpTo_succ, htk, hxb]
    cases hk : Lib.keeps l.toArray m with
    | true =>
      simp only [if_true]
      have hne : ∀ z ∈ Lib.compactUpTo l.toArray m, z < x := by
        intro z hz
        have hzx := h3 z hz m x hx (by omega)
        rcases bs_tri z x with h | h | h
        · exact h
        · exfalso
          subst h
          have hz' := (h2 z).1 hz
          obtain ⟨i, hi, e⟩ := List.mem_iff_getElem.1 hz'
          rw [List.length_take] at hi
          rw [List.getElem_take] at e
          have hm0 : 0 < m := by omega
          obtain ⟨p, hp⟩ := get_some (xs := l) (k := m - 1) (by omega)
          have a1 := hle i (m - 1) z p (by rw [← e]; exact List.getElem?_eq_getElem _) hp (by omega)
          have a2 := hle (m - 1) m p z hp hx (by omega)
          have e2 : p = z := List.le_antisymm a2 a1
          have hpb := get_bang hp
          unfold Lib.keeps at hk
          rw [hxb, hpb, e2] at hk
          simp at hk
          omega
        · exact absurd h (List.not_lt.2 hzx)
      refine ⟨?_, ?_, ?_⟩
      · refine List.pairwise_append.2 ⟨h1, by simp, ?_⟩
        intro a ha b hb
        simp only [List.mem_singleton] at hb
        subst hb
        exact hne a ha
      · intro z
        rw [List.mem_append, h2, List.mem_append]
      · intro z hz j y hy hj
        rcases List.mem_append.1 hz with hz | hz
        · exact h3 z hz j y hy (by omega)
        · simp only [List.mem_singleton] at hz
          subst hz
          exact hle m j z y hx hy (by omega)
    | false =>
      simp only [Bool.false_eq_true, if_false, List.append_nil]
      refine ⟨h1, ?_, fun z hz j y hy hj => h3 z hz j y hy (by omega)⟩
      intro z
      rw [h2, List.mem_append]
      constructor
      · exact .inl
      · rintro (h | h)
        · exact h
        · simp only [List.mem_singleton] at h
          subst h
          unfold Lib.keeps at hk
          have hm0 : m ≠ 0 := by rintro rfl; simp at hk
          obtain ⟨p, hp⟩ := get_some (xs := l) (k := m - 1) (by omega)
          rw [hxb, get_bang hp] at hk
          have e2 : z = p := by simpa [hm0] using hk
          rw [e2]
          obtain ⟨hi, e⟩ := List.getElem?_eq_some_iff.1 hp
          rw [List.mem_take_iff_getElem]
          exact ⟨m - 1, by omega, e⟩
theorem sort_compact (l : List Bs) : Lib.compact (l.mergeSort (fun x y => decide (x ≤ y))) = usedL l := by
  have hs := sort_sorted l
  have hm := sort_mem l
  generalize hq : l.mergeSort (fun x y => decide (x ≤ y)) = q at *
  obtain ⟨h1, h2, _⟩ := compact_asc q hs q.length (Nat.le_refl _)
  refine asc_ext h1 (usedL_asc l) fun x => ?_
  unfold Lib.compact
  rw [h2, List.take_length, usedL_mem, ← hm x]
def kindOk (q : Int) : Bool := decide (q = 0) || decide (q = 2) || decide (q = 3) || decide (q = 4)
def usedM (xs : List PartD) (q : Int) : List Bs := if partsB xs = true ∧ kindOk q = true then usedL (nmL q xs) else []
def missM (xs : List PartD) (data : List FieldD) : List Bs := if partsB xs = true ∧ dataB data = true then (usedL (nmL 0 xs)).filter fun n => !hasF data n && !decide (n = itemN) else []
end Go.Proofs.Ytdedddmnacomfaa
