/- Texts of templates are read back. Plain. -/
import Derived.Test.YtnbjogilidfkdaaVX9

namespace Go.Proofs.Ytnbjogilidfkdaa
set_option maxRecDepth 100000
set_option linter.unusedVariables false
set_option linter.unusedSimpArgs false
open Go.RowKit
def badW : Bs := [98, 97, 100]
def txD (t : Bs) : PartD := .mk 1 t [] [] []
def holeD (w : Bs) : PartD := .mk 2 [] w [] []
abbrev ix1 (s : Bs) : Int := Lib.index s [123, 123]
abbrev ix2 (s : Bs) : Int := Lib.index (s.drop (ix1 s).toNat) [125, 125]
def wdR (s : Bs) : Bs := (s.take ((ix1 s).toNat + (ix2 s).toNat)).drop ((ix1 s).toNat + 2)
def rsR (s : Bs) : Bs := s.drop ((ix1 s).toNat + (ix2 s).toNat + 2)
def preR (out : List PartD) (s : Bs) : List PartD := if 0 < ix1 s then out ++ [txD (s.take (ix1 s).toNat)] else out
def eachP : Bs := [101, 97, 99, 104, 32]
def ifP : Bs := [105, 102, 32]
/-- As the program reads a word. -/
def kdI (w : Bs) : Int := if List.isPrefixOf eachP w = true then 4 else if List.isPrefixOf ifP w = true then 3 else 0
def nmI (w : Bs) : Bs := if List.isPrefixOf eachP w = true then w.drop 5 else w.drop 3
/-- What is read from a text on; f: more than its length. K: the kinds of words; lim: how deep. -/
def rdG (K : Bs → Int) : Nat → List PartD → Bs → Int → List PartD × Bs × Bs
  | 0, out, s, _ => (out, s, [])
  | f + 1, out, s, deep =>
    if s = [] then (out, [], [])
    else if ix1 s < 0 then (out ++ [txD s], [], [])
    else if ix2 s < 0 then ([], s, badW)
    else if wdR s = wEnd ∨ wdR s = wElse then (preR out s, rsR s, wdR s)
    else if K (wdR s) = 0 then rdG K f (preR out s ++ [holeD (wdR s)]) (rsR s) deep
    else if 3 ≤ deep then ([], rsR s, badW)
    else
      (fun r1 : List PartD × Bs × Bs => (fun r2 : List PartD × Bs × Bs =>
        if r2.2.2 = wEnd then rdG K f (preR out s ++ [.mk (K (wdR s)) [] (nmI (wdR s)) r1.1 r2.1]) r2.2.1 deep else ([], r2.2.1, badW))
        (if r1.2.2 = wElse ∧ K (wdR s) = 3 then rdG K f [] r1.2.1 (deep + 1) else ([], r1.2.1, r1.2.2)))
        (rdG K f [] (rsR s) (deep + 1))
theorem rdG_succ (K : Bs → Int) (f : Nat) (out : List PartD) (s : Bs) (deep : Int) : rdG K (f + 1) out s deep =
    if s = [] then (out, [], [])
    else if ix1 s < 0 then (out ++ [txD s], [], [])
    else if ix2 s < 0 then ([], s, badW)
    else if wdR s = wEnd ∨ wdR s = wElse then (preR out s, rsR s, wdR s)
    else if K (wdR s) = 0 then rdG K f (preR out s ++ [holeD (wdR s)]) (rsR s) deep
    else if 3 ≤ deep then ([], rsR s, badW)
    else
      (fun r1 : List PartD × Bs × Bs => (fun r2 : List PartD × Bs × Bs =>
        if r2.2.2 = wEnd then rdG K f (preR out s ++ [.mk (K (wdR s)) [] (nmI (wdR s)) r1.1 r2.1]) r2.2.1 deep else ([], r2.2.1, badW))
        (if r1.2.2 = wElse ∧ K (wdR s) = 3 then rdG K f [] r1.2.1 (deep + 1) else ([], r1.2.1, r1.2.2)))
        (rdG K f [] (rsR s) (deep + 1)) := by rw [rdG]
theorem ix2_room (s : Bs) (h1 : ¬ ix1 s < 0) (h2 : ¬ ix2 s < 0) : (ix1 s).toNat + (ix2 s).toNat + 2 ≤ s.length := by
  have a : ix1 s + 2 ≤ s.length := Lib.index_room s [123, 123] (show 0 ≤ ix1 s by omega)
  have b : ix2 s + 2 ≤ ((s.drop (ix1 s).toNat).length : Nat) := Lib.index_room (s.drop (ix1 s).toNat) [125, 125] (show 0 ≤ ix2 s by omega)
  rw [List.length_drop] at b
  omega
theorem rsR_len (s : Bs) (h1 : ¬ ix1 s < 0) (h2 : ¬ ix2 s < 0) : (rsR s).length + 2 ≤ s.length := by
  have := ix2_room s h1 h2
  unfold rsR
  rw [List.length_drop]; omega
theorem rdG_len (K : Bs → Int) : ∀ (f : Nat) (out : List PartD) (s : Bs) (deep : Int), (rdG K f out s deep).2.1.length ≤ s.length
  | 0, _, _, _ => Nat.le_refl _
  | f + 1, out, s, deep => by
    rw [rdG_succ]
    split
    · simp
    split
    · simp
    split
    · exact Nat.le_refl _
    have hr := rsR_len s ‹_› ‹_›
    split
    · dsimp only; omega
    split
    · have := rdG_len K f (preR out s ++ [holeD (wdR s)]) (rsR s) deep; omega
    split
    · dsimp only; omega
    have h1 := rdG_len K f [] (rsR s) (deep + 1)
    generalize hr1 : rdG K f [] (rsR s) (deep + 1) = r1 at *
    dsimp only
    split
    · rename_i h9
      have h2 := rdG_len K f [] r1.2.1 (deep + 1)
      split
      · have h3 := rdG_len K f (preR out s ++ [.mk (K (wdR s)) [] (nmI (wdR s)) r1.1 (rdG K f [] r1.2.1 (deep + 1)).1]) (rdG K f [] r1.2.1 (deep + 1)).2.1 deep
        omega
      · dsimp only; omega
    · dsimp only
      split
      · have h3 := rdG_len K f (preR out s ++ [.mk (K (wdR s)) [] (nmI (wdR s)) r1.1 []]) r1.2.1 deep
        omega
      · dsimp only; omega
/-- More fuel changes nothing. -/
theorem rdG_fuel (K : Bs → Int) : ∀ (f g : Nat) (out : List PartD) (s : Bs) (deep : Int), s.length < f → s.length < g → rdG K f out s deep = rdG K g out s deep
  | 0, _, _, _, _, h, _ => by omega
  | _ + 1, 0, _, _, _, _, h => by omega
  | f + 1, g + 1, out, s, deep, hf, hg => by
    rw [rdG_succ, rdG_succ]
    split
    · rfl
    split
    · rfl
    split
    · rfl
    have hr := rsR_len s ‹_› ‹_›
    split
    · rfl
    split
    · exact rdG_fuel K f g _ _ _ (by omega) (by omega)
    split
    · rfl
    have h1 := rdG_len K f [] (rsR s) (deep + 1)
    rw [← rdG_fuel K f g [] (rsR s) (deep + 1) (by omega) (by omega)]
    generalize rdG K f [] (rsR s) (deep + 1) = r1 at *
    dsimp only
    have h2 := rdG_len K f [] r1.2.1 (deep + 1)
    rw [← rdG_fuel K f g [] r1.2.1 (deep + 1) (by omega) (by omega)]
    split
    · split
      · exact rdG_fuel K f g _ _ _ (by omega) (by omega)
      · rfl
    · dsimp only
      split
      · exact rdG_fuel K f g _ _ _ (by omega) (by omega)
      · rfl
theorem occ_cons {a b : UInt8} {z : Bs} {x y : UInt8} : List.isPrefixOf [x, y] (a :: b :: z) = true ↔ x = a ∧ y = b := by simp [List.isPrefixOf]
theorem ix1_text {t z : Bs} (h : TxtOk t) : ix1 (t ++ 123 :: 123 :: z) = t.length := by
  refine Lib.index_first (by simp) ?_ ?_
  · unfold Lib.occAt
    rw [List.drop_left]; simp [List.isPrefixOf]
  · intro j hj
    unfold Lib.occAt
    cases hq : List.isPrefixOf [123, 123] ((t ++ 123 :: 123 :: z).drop j) with
    | false => rfl
    | true =>
      exfalso
      rw [List.drop_append_of_le_length (by omega), drop_getD hj] at hq
      by_cases h1 : j + 1 < t.length
      · rw [drop_getD h1, List.cons_append, List.cons_append, occ_cons] at hq
        have e : t = t.take j ++ 123 :: 123 :: t.drop (j + 1 + 1) := by
          conv => lhs; rw [← List.take_append_drop j t, drop_getD hj, drop_getD h1, ← hq.1, ← hq.2]
        have := h.no
        rw [e, dbl_mid] at this
        cases this
      · rw [List.drop_of_length_le (by omega), List.cons_append, List.nil_append, occ_cons] at hq
        have := h.last
        rw [show t.length - 1 = j by omega] at this
        exact this hq.1.symm
theorem ix1_none {t : Bs} (h : TxtOk t) : ix1 t < 0 := by
  have := dbl_contains 123 t
  rw [h.no] at this
  unfold Lib.contains at this
  have h9 : ¬ 0 ≤ ix1 t := by simpa using this
  omega
theorem ix1_open (z : Bs) : ix1 (123 :: 123 :: z) = 0 := Lib.index_first (by simp) (by simp [Lib.occAt, List.isPrefixOf]) (fun j hj => absurd hj (Nat.not_lt_zero j))
theorem ix2_tag {w z : Bs} (h : Wd w) : Lib.index (tagT w ++ z) [125, 125] = ((w.length + 2 : Nat) : Int) := by
  have e : tagT w ++ z = 123 :: 123 :: (w ++ 125 :: 125 :: z) := by simp [tagT]
  rw [e]
  refine Lib.index_first (by simp) ?_ ?_
  · unfold Lib.occAt
    rw [show w.length + 2 = w.length + 1 + 1 by omega, List.drop_succ_cons, List.drop_succ_cons, List.drop_left]; simp [List.isPrefixOf]
  · intro j hj
    unfold Lib.occAt
    match j, hj with
    | 0, _ => simp [List.isPrefixOf]
    | 1, _ =>
      simp [List.isPrefixOf]
    | j + 2, hj =>
      rw [List.drop_succ_cons, List.drop_succ_cons, List.drop_append_of_le_length (by omega), drop_getD (by omega)]
      have hm : w.getD j 0 ∈ w := by
        rw [List.getD_eq_getElem?_getD, List.getElem?_eq_getElem (show j < w.length by omega)]
        exact List.getElem_mem _
      have : (125 : UInt8) ≠ w.getD j 0 := fun e => h (e ▸ hm)
      cases hq : w.drop (j + 1) ++ 125 :: 125 :: z with
      | nil => simp at hq
      | cons y r =>
        rw [List.cons_append, hq]
        cases h9 : List.isPrefixOf [125, 125] (w.getD j 0 :: y :: r) with
        | false => rfl
        | true => rw [occ_cons] at h9; exact absurd h9.1 this
theorem tag_open (w z : Bs) : tagT w ++ z = 123 :: 123 :: (w ++ 125 :: 125 :: z) := by simp [tagT]
theorem tag_ix {w z : Bs} (h : Wd w) : ix1 (tagT w ++ z) = 0 ∧ ix2 (tagT w ++ z) = ((w.length + 2 : Nat) : Int) ∧ wdR (tagT w ++ z) = w ∧ rsR (tagT w ++ z) = z := by
  have e1 : ix1 (tagT w ++ z) = 0 := by rw [tag_open]; exact ix1_open _
  have e2 : ix2 (tagT w ++ z) = ((w.length + 2 : Nat) : Int) := by
    show Lib.index ((tagT w ++ z).drop (ix1 (tagT w ++ z)).toNat) [125, 125] = _
    rw [e1]; exact ix2_tag h
  refine ⟨e1, e2, ?_, ?_⟩
  · unfold wdR
    rw [e1, e2, tag_open, Int.toNat_natCast]
    simp only [Int.toNat_zero, Nat.zero_add]
    rw [show w.length + 2 = w.length + 1 + 1 by omega, List.take_succ_cons, List.take_succ_cons, List.take_left]; rfl
  · unfold rsR
    rw [e1, e2, tag_open, Int.toNat_natCast]
    simp only [Int.toNat_zero, Nat.zero_add]
    rw [show w.length + 2 + 2 = w.length + 2 + 1 + 1 by omega, List.drop_succ_cons, List.drop_succ_cons, List.drop_append, show w.length + 2 - w.length = 2 by omega, List.drop_of_length_le (by omega)]; rfl
theorem rdG_tag {K : Bs → Int} {w z : Bs} (h : Wd w) (f : Nat) (out : List PartD) (deep : Int) : rdG K (f + 1) out (tagT w ++ z) deep =
    if w = wEnd ∨ w = wElse then (out, z, w)
    else if K w = 0 then rdG K f (out ++ [holeD w]) z deep
    else if 3 ≤ deep then ([], z, badW)
    else
      (fun r1 : List PartD × Bs × Bs => (fun r2 : List PartD × Bs × Bs =>
        if r2.2.2 = wEnd then rdG K f (out ++ [.mk (K w) [] (nmI w) r1.1 r2.1]) r2.2.1 deep else ([], r2.2.1, badW))
        (if r1.2.2 = wElse ∧ K w = 3 then rdG K f [] r1.2.1 (deep + 1) else ([], r1.2.1, r1.2.2)))
        (rdG K f [] z (deep + 1)) := by
  obtain ⟨e1, e2, e3, e4⟩ := tag_ix (z := z) h
  have e5 : preR out (tagT w ++ z) = out := by unfold preR; rw [e1, if_neg (by omega)]
  rw [rdG_succ, if_neg (by rw [tag_open]; simp), if_neg (by rw [e1]; omega), if_neg (by rw [e2]; omega), e3, e4, e5]
theorem rdG_text {K : Bs → Int} {t z : Bs} (h : TxtOk t) (h2 : ¬ ix2 (123 :: 123 :: z) < 0) (f : Nat) (out : List PartD) (deep : Int) : rdG K (f + 1) out (t ++ 123 :: 123 :: z) deep = rdG K (f + 1) (out ++ [txD t]) (123 :: 123 :: z) deep := by
  have e1 := ix1_text (z := z) h
  have e2 := ix1_open z
  have hl := List.length_pos_iff.2 h.ne
  have e3 : ix2 (t ++ 123 :: 123 :: z) = ix2 (123 :: 123 :: z) := by
    show Lib.index ((t ++ 123 :: 123 :: z).drop (ix1 (t ++ 123 :: 123 :: z)).toNat) [125, 125] = Lib.index ((123 :: 123 :: z).drop (ix1 (123 :: 123 :: z)).toNat) [125, 125]
    rw [e1, e2, Int.toNat_natCast, List.drop_left]; rfl
  have e4 : wdR (t ++ 123 :: 123 :: z) = wdR (123 :: 123 :: z) := by
    unfold wdR
    rw [e3, e1, e2, Int.toNat_natCast, Int.toNat_zero, List.take_length_add_append, List.drop_append, List.drop_of_length_le (by omega), Nat.add_sub_cancel_left, List.nil_append, Nat.zero_add, Nat.zero_add]
  have e5 : rsR (t ++ 123 :: 123 :: z) = rsR (123 :: 123 :: z) := by
    unfold rsR
    rw [e3, e1, e2, Int.toNat_natCast, Int.toNat_zero, Nat.add_assoc, List.drop_append, List.drop_of_length_le (by omega), Nat.add_sub_cancel_left, List.nil_append, Nat.zero_add]
  have e6 : preR out (t ++ 123 :: 123 :: z) = out ++ [txD t] := by unfold preR; rw [e1, if_pos (by omega), Int.toNat_natCast, List.take_left]
  have e7 : preR (out ++ [txD t]) (123 :: 123 :: z) = out ++ [txD t] := by unfold preR; rw [e2, if_neg (by omega)]
  rw [rdG_succ K f out, if_neg (show ¬ t ++ 123 :: 123 :: z = [] by simp), if_neg (show ¬ ix1 (t ++ 123 :: 123 :: z) < 0 by rw [e1]; omega), if_neg (show ¬ ix2 (t ++ 123 :: 123 :: z) < 0 by rw [e3]; exact h2), e4, e5, e6]
  rw [rdG_succ K f (out ++ [txD t]), if_neg (show ¬ 123 :: 123 :: z = [] by simp), if_neg (show ¬ ix1 (123 :: 123 :: z) < 0 by rw [e2]; omega), if_neg h2, e7]
/-- Starts with a tag, or is empty. -/
theorem part_tag {d : Nat} {x : PartD} {s : Bs} (hv : Vw d x) (hk : x.kind ≠ 1) : ∃ w z, Wd w ∧ txtP x ++ s = tagT w ++ z := by
  cases hv with
  | text h => exact absurd rfl hk
  | hole h _ _ => exact ⟨_, _, wd_name h, by rw [txt_hole]⟩
  | each h _ => exact ⟨_, _, wd_each h, by rw [txt_each, List.append_assoc]⟩
  | cond h _ _ => exact ⟨_, _, wd_if h, by rw [txt_cond, List.append_assoc]⟩
theorem opn_tag {d : Nat} {xs : List PartD} {r : Bs} (h : gdL d true xs = true) (hr : Rest r) : xs = [] ∧ r = [] ∨ ∃ w z, Wd w ∧ txtL xs ++ r = tagT w ++ z := by
  cases xs with
  | nil =>
    rcases hr with rfl | ⟨z, rfl⟩ | ⟨z, rfl⟩
    · exact .inl ⟨rfl, rfl⟩
    · exact .inr ⟨_, z, wd_end, by rw [txtL_nil]; rfl⟩
    · exact .inr ⟨_, z, wd_else, by rw [txtL_nil]; rfl⟩
  | cons x xs =>
    rw [gdL] at h
    simp only [Bool.and_eq_true, Bool.true_and, Bool.not_eq_true', decide_eq_false_iff_not] at h
    rw [txtL_cons, List.append_assoc]
    exact .inr (part_tag (view h.1.1) h.1.2)
/-- Where the reading of a word is as it is of valid parts. -/
structure KdOk (K : Bs → Int) : Prop where
  name : ∀ n, nameB n = true → K n = 0
  each : ∀ n, nameB n = true → K (wEach n) = 4
  cond : ∀ n, nameB n = true → K (wIf n) = 3
theorem not_pre {p n : Bs} (h : (32 : UInt8) ∈ p) (hn : (32 : UInt8) ∉ n) : List.isPrefixOf p n = false := by
  cases hq : List.isPrefixOf p n with
  | false => rfl
  | true =>
    obtain ⟨r, rfl⟩ := List.isPrefixOf_iff_prefix.1 hq
    exact absurd (List.mem_append.2 (.inl h)) hn
theorem kdI_ok : KdOk kdI where
  name n h := by
    unfold kdI
    rw [not_pre (by decide) (no_sp h), not_pre (by decide) (no_sp h)]; rfl
  each n h := by unfold kdI; rw [if_pos (by simp [wEach, eachP, List.isPrefixOf])]
  cond n h := by
    unfold kdI
    rw [if_neg (by simp [wIf, eachP, List.isPrefixOf]), if_pos (by simp [wIf, ifP, List.isPrefixOf])]
theorem nmI_each (n : Bs) : nmI (wEach n) = n := by unfold nmI; rw [if_pos (by simp [wEach, eachP, List.isPrefixOf])]; rfl
theorem nmI_if (n : Bs) : nmI (wIf n) = n := by unfold nmI; rw [if_neg (by simp [wIf, eachP, List.isPrefixOf])]; rfl
theorem rd_rest {K : Bs → Int} {T : Bs} (h : Rest T) (f g : Nat) (o : List PartD) (d e : Int) : rdG K (f + 1) o T d = rdG K (g + 1) o T e := by
  rcases h with rfl | ⟨z, rfl⟩ | ⟨z, rfl⟩
  · rw [rdG_succ, rdG_succ, if_pos rfl, if_pos rfl]
  · rw [rdG_tag wd_end, rdG_tag wd_end, if_pos (.inl rfl), if_pos (.inl rfl)]
  · rw [rdG_tag wd_else, rdG_tag wd_else, if_pos (.inr rfl), if_pos (.inr rfl)]
theorem tag_len (w z : Bs) : (tagT w ++ z).length = w.length + 4 + z.length := by rw [tag_open]; simp; omega
theorem rd_parts {K : Bs → Int} (hK : KdOk K) : ∀ (n : Nat) (xs : List PartD) (d : Nat) (b : Bool) (T : Bs) (out : List PartD) (f : Nat) (deep : Int), wtL xs < n → gdL d b xs = true → deep + d = 3 → Rest T →
    (txtL xs ++ T).length < f → rdG K f out (txtL xs ++ T) deep = rdG K 1 (out ++ xs) T 0
  | 0, _, _, _, _, _, _, _, h, _, _, _, _ => by omega
  | n + 1, [], d, b, T, out, f, deep, _, _, _, hT, hf => by
    obtain ⟨f', rfl⟩ : ∃ f', f = f' + 1 := ⟨f - 1, by omega⟩
    rw [txtL_nil, List.nil_append, List.append_nil]
    exact rd_rest hT f' 0 out deep 0
  | n + 1, x :: xs, d, b, T, out, f, deep, hn, hg, hd, hT, hf => by
    obtain ⟨f', rfl⟩ : ∃ f', f = f' + 1 := ⟨f - 1, by omega⟩
    have hw : wtL (x :: xs) = 1 + wtP x + wtL xs := by rw [show x :: xs = [x] ++ xs from rfl, wtL_append, wtL_one]
    rw [hw] at hn
    have hg' := hg
    rw [gdL] at hg
    simp only [Bool.and_eq_true] at hg
    have hv := view hg.1.1
    rw [txtL_cons, List.append_assoc] at hf ⊢
    have next : ∀ (o : List PartD) (f'' : Nat) (b' : Bool), gdL d b' xs = true → (txtL xs ++ T).length < f'' → rdG K f'' o (txtL xs ++ T) deep = rdG K 1 (o ++ xs) T 0 :=
      fun o f'' b' h1 h2 => rd_parts hK n xs d b' T o f'' deep (by omega) h1 hd hT h2
    cases hv with
    | @text t h =>
      rw [txt_text] at hf ⊢
      have h2 : gdL d true xs = true := by simpa [kind_mk] using hg.2
      rcases opn_tag h2 hT with ⟨rfl, rfl⟩ | ⟨w, z, hwd, e⟩
      · rw [txtL_nil, List.append_nil, List.append_nil, rdG_succ, if_neg h.ne, if_pos (ix1_none h), rdG_succ, if_pos rfl]; rfl
      · have ht := next (out ++ [txD t]) (f' + 1) true h2 (by rw [List.length_append] at hf; omega)
        have hz := ix2_tag (z := z) hwd
        have hz0 := (tag_ix (z := z) hwd).2.1
        rw [e] at ht ⊢
        rw [tag_open] at ht hz0 ⊢
        rw [rdG_text h (by rw [hz0]; omega), ht, List.append_assoc]; rfl
    | @hole m h h1 h2 =>
      rw [txt_hole] at hf ⊢
      rw [tag_len] at hf
      rw [rdG_tag (wd_name h), if_neg (fun h9 => h9.elim h1 h2), if_pos (hK.name m h), next _ f' _ hg.2 (by omega), List.append_assoc]; rfl
    | @each m ps h hps =>
      have hd1 : 1 ≤ d := by
        have h9 := hg.1.1
        rw [gdP_mk, if_neg (by decide), if_neg (by decide), if_pos (.inr rfl)] at h9
        simp only [Bool.and_eq_true, Bool.not_eq_true', decide_eq_false_iff_not] at h9
        omega
      rw [wtP_mk] at hn
      rw [txt_each, List.append_assoc, List.append_nil, List.append_assoc] at hf ⊢
      rw [tag_len] at hf
      have hp := rd_parts hK n ps (d - 1) false (tagT wEnd ++ (txtL xs ++ T)) [] f' (deep + 1) (by omega) hps (by omega) (.inr (.inl ⟨_, rfl⟩)) (by omega)
      rw [rdG_tag wd_end, if_pos (.inl rfl), List.nil_append] at hp
      have hl : (txtL xs ++ T).length < f' := by
        simp only [List.length_append] at hf ⊢
        omega
      rw [rdG_tag (wd_each h), if_neg (fun h9 => h9.elim (each_end m) (each_else m)), if_neg (by rw [hK.each m h]; decide), if_neg (by omega), hp]
      simp only [end_else, false_and, if_false, if_true, hK.each m h, nmI_each]
      rw [next _ f' _ hg.2 hl, List.append_assoc]; rfl
    | @cond m ps os h hps hos =>
      have hd1 : 1 ≤ d := by
        have h9 := hg.1.1
        rw [gdP_mk, if_neg (by decide), if_neg (by decide), if_pos (.inl rfl)] at h9
        simp only [Bool.and_eq_true, Bool.not_eq_true', decide_eq_false_iff_not] at h9
        omega
      rw [wtP_mk] at hn
      rw [txt_cond] at hf ⊢
      by_cases ho : os = []
      · subst ho
        rw [if_pos rfl, List.append_assoc, List.append_assoc] at hf ⊢
        rw [tag_len] at hf
        have hp := rd_parts hK n ps (d - 1) false (tagT wEnd ++ (txtL xs ++ T)) [] f' (deep + 1) (by omega) hps (by omega) (.inr (.inl ⟨_, rfl⟩)) (by omega)
        rw [rdG_tag wd_end, if_pos (.inl rfl), List.nil_append] at hp
        have hl : (txtL xs ++ T).length < f' := by
          simp only [List.length_append] at hf ⊢
          omega
        rw [rdG_tag (wd_if h), if_neg (fun h9 => h9.elim (if_end m) (if_else m)), if_neg (by rw [hK.cond m h]; decide), if_neg (by omega), hp]
        simp only [end_else, false_and, if_false, if_true, hK.cond m h, nmI_if]
        rw [next _ f' _ hg.2 hl, List.append_assoc]; rfl
      · rw [if_neg ho] at hf ⊢
        simp only [List.append_assoc, List.nil_append, List.append_nil] at hf ⊢
        rw [tag_len] at hf
        have hp := rd_parts hK n ps (d - 1) false (tagT wElse ++ (txtL os ++ (tagT wEnd ++ (txtL xs ++ T)))) [] f' (deep + 1) (by omega) hps (by omega) (.inr (.inr ⟨_, rfl⟩)) (by omega)
        rw [rdG_tag wd_else, if_pos (.inr rfl), List.nil_append] at hp
        have hl1 : (txtL os ++ (tagT wEnd ++ (txtL xs ++ T))).length < f' := by
          simp only [List.length_append] at hf ⊢
          omega
        have hq := rd_parts hK n os (d - 1) false (tagT wEnd ++ (txtL xs ++ T)) [] f' (deep + 1) (by omega) hos (by omega) (.inr (.inl ⟨_, rfl⟩)) hl1
        rw [rdG_tag wd_end, if_pos (.inl rfl), List.nil_append] at hq
        have hl : (txtL xs ++ T).length < f' := by
          simp only [List.length_append] at hf ⊢
          omega
        rw [rdG_tag (wd_if h), if_neg (fun h9 => h9.elim (if_end m) (if_else m)), if_neg (by rw [hK.cond m h]; decide), if_neg (by omega), hp]
        simp only [true_and, hK.cond m h, if_true, hq, nmI_if]
        rw [next _ f' _ hg.2 hl, List.append_assoc]; rfl
/-- The parts whose text it is, if there are any. -/
noncomputable def readM (s : Bs) : Option (List PartD) := @dite _ (∃ xs, partsB xs = true ∧ txtL xs = s) (Classical.propDecidable _) (fun h => some h.choose) fun _ => none
theorem readM_text {xs : List PartD} (h : partsB xs = true) : readM (txtL xs) = some xs := by
  have he : ∃ ys, partsB ys = true ∧ txtL ys = txtL xs := ⟨xs, h, rfl⟩
  unfold readM
  rw [dif_pos he]
  exact congrArg some (txtL_inj he.choose_spec.1 h he.choose_spec.2)
theorem readM_some {s : Bs} {xs : List PartD} (h : readM s = some xs) : partsB xs = true ∧ txtL xs = s := by
  unfold readM at h
  split at h
  · rename_i he
    have := Option.some.inj h
    subst this
    exact he.choose_spec
  · cases h
theorem rd_valid {K : Bs → Int} (hK : KdOk K) {xs : List PartD} (h : partsB xs = true) (f : Nat) (hf : (txtL xs).length < f) : rdG K f [] (txtL xs) 0 = (xs, [], []) := by
  have hg := h
  unfold partsB at hg
  simp only [Bool.and_eq_true] at hg
  have := rd_parts hK (wtL xs + 1) xs 3 false [] [] f 0 (by omega) hg.2 (by decide) (.inl rfl) (by simpa using hf)
  rw [List.append_nil, List.nil_append] at this
  rw [this, rdG_succ, if_pos rfl]
/-- What the program's test of what was read comes to. -/
theorem read_test {K : Bs → Int} (hK : KdOk K) (s : Bs) : (if (rdG K (s.length + 1) [] s 0).2.1 = [] ∧ (rdG K (s.length + 1) [] s 0).2.2 = [] ∧ partsB (rdG K (s.length + 1) [] s 0).1 = true ∧ txtL (rdG K (s.length + 1) [] s 0).1 = s then some (rdG K (s.length + 1) [] s 0).1 else none) = readM s := by
  cases h : readM s with
  | some xs =>
    obtain ⟨h1, h2⟩ := readM_some h
    have := rd_valid hK h1 (s.length + 1) (by rw [h2]; omega)
    rw [h2] at this
    rw [this, if_pos ⟨rfl, rfl, h1, h2⟩]
  | none =>
    rw [if_neg]
    rintro ⟨_, _, h1, h2⟩
    have := readM_text h1
    rw [h2, h] at this
    cases this
end Go.Proofs.Ytnbjogilidfkdaa

/- What is read is no larger than the text. Plain. -/
namespace Go.Proofs.Ytnbjogilidfkdaa
set_option maxRecDepth 100000
set_option linter.unusedVariables false
set_option linter.unusedSimpArgs false
open Go.RowKit
theorem ix2_ge2 {s : Bs} (h1 : ¬ ix1 s < 0) (h2 : ¬ ix2 s < 0) : 2 ≤ ix2 s := by
  have hr : ix1 s + 2 ≤ s.length := Lib.index_room s [123, 123] (show 0 ≤ ix1 s by omega)
  have e2 : ix2 s = Lib.index (s.drop (ix1 s).toNat) [125, 125] := rfl
  have o1 : List.isPrefixOf [123, 123] (s.drop (ix1 s).toNat) = true := by
    rcases Lib.index_spec s [123, 123] with ⟨h9, _⟩ | ⟨i, h9, _, ho, _⟩
    · exact absurd h9 (fun h9 => by have : ix1 s = -1 := h9; omega)
    · have h8 : ix1 s = i := h9
      rw [h8, Int.toNat_natCast]; exact ho
  generalize s.drop (ix1 s).toNat = t at *
  rw [e2] at h2 ⊢
  rcases Lib.index_spec t [125, 125] with ⟨h9, _⟩ | ⟨i, h9, _, ho, _⟩
  · rw [h9] at h2; omega
  · rw [h9]
    obtain ⟨z, rfl⟩ := List.isPrefixOf_iff_prefix.1 o1
    unfold Lib.occAt at ho
    match i, ho with
    | 0, ho => simp [List.isPrefixOf] at ho
    | 1, ho => simp [List.isPrefixOf] at ho
    | n + 2, _ => omega
/-- Where a tag lies, by numbers. -/
theorem tag_at {s : Bs} (h1 : ¬ ix1 s < 0) (h2 : ¬ ix2 s < 0) : ∃ a b : Nat, Lib.index s [123, 123] = a ∧ Lib.index (s.drop a) [125, 125] = b ∧ 2 ≤ b ∧ a + b + 2 ≤ s.length ∧ wdR s = (s.take (a + b)).drop (a + 2) ∧ rsR s = s.drop (a + b + 2) ∧ ∀ out, preR out s = if 0 < a then out ++ [txD (s.take a)] else out := by
  have hg := ix2_ge2 h1 h2
  have hroom := ix2_room s h1 h2
  obtain ⟨a, ha⟩ := Int.eq_ofNat_of_zero_le (show 0 ≤ ix1 s by omega)
  obtain ⟨b, hb⟩ := Int.eq_ofNat_of_zero_le (show 0 ≤ ix2 s by omega)
  refine ⟨a, b, ha, ?_, by omega, ?_, ?_, ?_, ?_⟩
  · have : ix2 s = Lib.index (s.drop (ix1 s).toNat) [125, 125] := rfl
    rw [ha, Int.toNat_natCast] at this
    rw [← this, hb]
  · rw [ha, hb] at hroom; simpa using hroom
  · unfold wdR; rw [ha, hb]; simp
  · unfold rsR; rw [ha, hb]; simp
  · intro out; unfold preR; rw [ha]; simp
theorem nmI_len (w : Bs) : (nmI w).length ≤ w.length := by unfold nmI; split <;> (rw [List.length_drop]; omega)
theorem pre_wt (out : List PartD) {s : Bs} (h1 : ¬ ix1 s < 0) (h2 : ¬ ix2 s < 0) : wtL (preR out s) + (wdR s).length + 2 * (rsR s).length + 2 ≤ wtL out + 2 * s.length := by
  obtain ⟨a, b, ha, hb, h3, h4, e1, e2, e3⟩ := tag_at h1 h2
  rw [e1, e2, e3, List.length_drop, List.length_drop, List.length_take]
  split
  · rw [wtL_append, wtL_one]
    unfold txD
    rw [wtP_mk, List.length_take, wtL_nil]
    simp only [List.length_nil]
    omega
  · omega
theorem rdG_wt (K : Bs → Int) : ∀ (f : Nat) (out : List PartD) (s : Bs) (deep : Int), wtL (rdG K f out s deep).1 + 2 * (rdG K f out s deep).2.1.length ≤ wtL out + 2 * s.length
  | 0, _, _, _ => Nat.le_refl _
  | f + 1, out, s, deep => by
    rw [rdG_succ]
    split
    · simp
    rename_i h0
    have hs := List.length_pos_iff.2 h0
    split
    · dsimp only
      rw [wtL_append, wtL_one]
      unfold txD
      rw [wtP_mk, wtL_nil]
      simp only [List.length_nil]
      omega
    split
    · dsimp only; rw [wtL_nil]; omega
    have hp := pre_wt out ‹_› ‹_›
    split
    · dsimp only; omega
    split
    · have := rdG_wt K f (preR out s ++ [holeD (wdR s)]) (rsR s) deep
      rw [wtL_append, wtL_one] at this
      unfold holeD at this ⊢
      rw [wtP_mk, wtL_nil] at this
      simp only [List.length_nil] at this
      omega
    split
    · dsimp only; rw [wtL_nil]; omega
    have hn := nmI_len (wdR s)
    have h1 := rdG_wt K f [] (rsR s) (deep + 1)
    generalize hr1 : rdG K f [] (rsR s) (deep + 1) = r1 at *
    rw [wtL_nil] at h1
    dsimp only
    split
    · rename_i h9
      have h2 := rdG_wt K f [] r1.2.1 (deep + 1)
      rw [wtL_nil] at h2
      split
      · have h3 := rdG_wt K f (preR out s ++ [.mk (K (wdR s)) [] (nmI (wdR s)) r1.1 (rdG K f [] r1.2.1 (deep + 1)).1]) (rdG K f [] r1.2.1 (deep + 1)).2.1 deep
        rw [wtL_append, wtL_one, wtP_mk] at h3
        simp only [List.length_nil] at h3
        omega
      · dsimp only; rw [wtL_nil]; omega
    · dsimp only
      split
      · have h3 := rdG_wt K f (preR out s ++ [.mk (K (wdR s)) [] (nmI (wdR s)) r1.1 []]) r1.2.1 deep
        rw [wtL_append, wtL_one, wtP_mk, wtL_nil] at h3
        simp only [List.length_nil] at h3
        omega
      · dsimp only; rw [wtL_nil]; omega
end Go.Proofs.Ytnbjogilidfkdaa
