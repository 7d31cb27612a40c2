/- Places in a text, by steps. Plain. -/
import Derived.Test.YtoocbpendccngaaZK12

namespace Go.Proofs.Ytoocbpendccngaa
set_option maxRecDepth 100000
set_option linter.unusedVariables false
set_option linter.unusedSimpArgs false
open Go.RowKit
theorem pre_at {s : Bs} {k : Nat} {x y : UInt8} : ((s.take (k + 2)).drop k = [x, y]) ↔ List.isPrefixOf [x, y] (s.drop k) = true := by
  rw [List.drop_take, Nat.add_sub_cancel_left]
  generalize s.drop k = t
  match t with
  | [] => simp
  | [a] => simp [List.isPrefixOf]
  | a :: b :: t => simp [List.isPrefixOf]; constructor <;> (rintro ⟨rfl, rfl⟩; exact ⟨rfl, rfl⟩)
/-- None of the first k places of what follows. -/
def noAt (s sub : Bs) (a k : Nat) : Prop := Lib.NoOcc (s.drop a) sub k
theorem noAt_0 (s sub : Bs) (a : Nat) : noAt s sub a 0 := fun j h => absurd h (Nat.not_lt_zero j)
theorem noAt_succ {s : Bs} {x y : UInt8} {a k : Nat} (h : noAt s [x, y] a k) (hn : ¬ (s.take (a + k + 2)).drop (a + k) = [x, y]) : noAt s [x, y] a (k + 1) := by
  intro j hj
  by_cases h9 : j < k
  · exact h j h9
  · obtain rfl : j = k := by omega
    rw [pre_at] at hn
    unfold Lib.occAt
    rw [List.drop_drop]
    exact Bool.eq_false_iff.2 hn
theorem noAt_hit {s : Bs} {x y : UInt8} {a k : Nat} (h : noAt s [x, y] a k) (hn : (s.take (a + k + 2)).drop (a + k) = [x, y]) : Lib.index (s.drop a) [x, y] = k := by
  rw [pre_at] at hn
  have hl : k ≤ (s.drop a).length := by
    obtain ⟨q, hq⟩ := List.isPrefixOf_iff_prefix.1 hn
    have := congrArg List.length hq
    simp only [List.length_append, List.length_cons, List.length_nil, List.length_drop] at this ⊢
    omega
  refine Lib.index_hit h hl ?_
  unfold Lib.occAt
  rw [List.drop_drop]; exact hn
theorem noAt_end {s : Bs} {x y : UInt8} {a k : Nat} (h : noAt s [x, y] a k) (hl : s.length < a + k + 2) : Lib.index (s.drop a) [x, y] = -1 := by
  by_cases h9 : a ≤ s.length
  · exact Lib.index_past (by simp) h (by rw [List.length_drop]; simp only [List.length_cons, List.length_nil]; omega)
  · rw [List.drop_of_length_le (by omega)]; rfl
theorem tag_no {s : Bs} {a : Nat} (h : (s.take (a + 2)).drop a = [123, 123]) : noAt s [125, 125] a 2 := by
  rw [pre_at] at h
  obtain ⟨q, hq⟩ := List.isPrefixOf_iff_prefix.1 h
  intro j hj
  unfold Lib.occAt
  rw [← hq]
  match j, hj with
  | 0, _ => simp [List.isPrefixOf]
  | 1, _ => simp [List.isPrefixOf]
theorem tag_ix1 {s : Bs} {a : Nat} (h : (s.take (a + 2)).drop a = [123, 123]) : ix1 (s.drop a) = 0 := noAt_hit (noAt_0 s _ a) h
/-- The word of the tag at a, and where it ends. -/
def wdAt (s : Bs) (a : Nat) : Bs × Int := if ix2 (s.drop a) < 0 then ([], -1) else (wdR (s.drop a), a + ix2 (s.drop a) + 2)
theorem ix2_at {s : Bs} {a : Nat} (h : (s.take (a + 2)).drop a = [123, 123]) : ix2 (s.drop a) = Lib.index (s.drop a) [125, 125] := by
  show Lib.index ((s.drop a).drop (ix1 (s.drop a)).toNat) [125, 125] = _
  rw [tag_ix1 h]; rfl
theorem wdAt_none {s : Bs} {a k : Nat} (h : (s.take (a + 2)).drop a = [123, 123]) (hn : noAt s [125, 125] a k) (hl : s.length < a + k + 2) : wdAt s a = ([], -1) := by
  unfold wdAt
  rw [ix2_at h, noAt_end hn hl, if_pos (by decide)]
theorem wdAt_hit {s : Bs} {a k : Nat} (h : (s.take (a + 2)).drop a = [123, 123]) (hn : noAt s [125, 125] a k) (hh : (s.take (a + k + 2)).drop (a + k) = [125, 125]) : wdAt s a = ((s.take (a + k)).drop (a + 2), ((a + k + 2 : Nat) : Int)) := by
  unfold wdAt wdR
  rw [ix2_at h, noAt_hit hn hh, if_neg (by omega), tag_ix1 h, Int.toNat_natCast, Int.toNat_zero, Nat.zero_add, Nat.zero_add]
  congr 1
  rw [List.take_drop, List.drop_drop]
theorem rdS_suf : ∀ (f : Nat) (out : List PartD) (s : Bs) (deep : Int), (rdS f out s deep).2.1 <:+ s
  | 0, _, _, _ => List.suffix_refl _
  | f + 1, out, s, deep => by
    rw [rdS_succ]
    split
    · exact List.nil_suffix
    split
    · exact List.nil_suffix
    split
    · exact (rdS_suf f _ _ deep).trans (List.drop_suffix _ _)
    split
    · exact List.suffix_refl _
    have hr : rsR s <:+ s := List.drop_suffix _ _
    split
    · exact hr
    split
    · exact (rdS_suf f _ _ deep).trans hr
    have h1 := (rdS_suf f [] (rsR s) (deep - 1)).trans hr
    generalize rdS f [] (rsR s) (deep - 1) = r1 at *
    dsimp only
    split
    · have h2 := (rdS_suf f [] r1.2.1 (deep - 1)).trans h1
      split
      · exact (rdS_suf f _ _ deep).trans h2
      · exact List.suffix_refl _
    · dsimp only
      split
      · exact (rdS_suf f _ _ deep).trans h1
      · exact List.suffix_refl _
def rdJ (x : Bs × Int) : List PartD × Bs × Bs := rdS (x.1.length + 1) [] x.1 x.2
theorem rdJ_of {f : Nat} {s : Bs} {d : Int} (h : s.length < f) : rdS f [] s d = rdJ (s, d) := rdS_fuel f _ [] s d h (Nat.lt_succ_self _)
theorem rdJ_back (s : Bs) (a : Nat) (d : Int) : s.drop (s.length - (rdJ (s.drop a, d)).2.1.length) = (rdJ (s.drop a, d)).2.1 :=
  (List.suffix_iff_eq_drop.1 ((rdS_suf _ _ _ _).trans (List.drop_suffix a s))).symm
theorem rdJ_len (s : Bs) (d : Int) : (rdJ (s, d)).2.1.length ≤ s.length := rdS_len _ _ _ _
theorem short_no {s : Bs} {k : Nat} {x y : UInt8} (h : s.length < k + 2) : ¬ (s.take (k + 2)).drop k = [x, y] := by
  intro e
  have := congrArg List.length e
  rw [List.length_drop, List.length_take] at this
  simp only [List.length_cons, List.length_nil] at this
  omega
theorem tail_ne {s : Bs} {a : Nat} (h : a < s.length) : ¬ s.drop a = [] := fun e => by
  have := congrArg List.length e
  rw [List.length_drop] at this
  simp only [List.length_nil] at this
  omega
theorem rdS_text_end {s : Bs} {a k : Nat} {out : List PartD} {d : Int} (ha : a < s.length) (hno : noAt s [123, 123] a k) (hk : a + k = s.length) : rdS (s.length - a + 1) out (s.drop a) d = rdS (s.length - (a + k) + 1) (out ++ [txD ((s.take (a + k)).drop a)]) (s.drop (a + k)) d := by
  have e1 : ix1 (s.drop a) = -1 := noAt_end hno (by omega)
  rw [rdS_succ, if_neg (tail_ne ha), if_pos (by rw [e1]; decide), rdS_succ, if_pos (List.drop_of_length_le (by omega)), hk, List.take_length]
theorem rdS_text_hit {s : Bs} {a k : Nat} {out : List PartD} {d : Int} (ha : a < s.length) (hk : 1 ≤ k) (hl : a + k ≤ s.length) (hno : noAt s [123, 123] a k) (hh : (s.take (a + k + 2)).drop (a + k) = [123, 123]) : rdS (s.length - a + 1) out (s.drop a) d = rdS (s.length - (a + k) + 1) (out ++ [txD ((s.take (a + k)).drop a)]) (s.drop (a + k)) d := by
  have e1 : ix1 (s.drop a) = k := noAt_hit hno hh
  rw [rdS_succ, if_neg (tail_ne ha), if_neg (by rw [e1]; omega), if_pos (by rw [e1]; omega), e1, Int.toNat_natCast, List.drop_drop, List.take_drop]
  exact rdS_fuel _ _ _ _ _ (by rw [List.length_drop]; omega) (by rw [List.length_drop]; omega)
theorem rdS_tag {s : Bs} {a : Nat} {out : List PartD} {d : Int} (ha : a < s.length) (hT : (s.take (a + 2)).drop a = [123, 123]) : rdS (s.length - a + 1) out (s.drop a) d =
    if ix2 (s.drop a) < 0 ∨ d < 0 then (out, s.drop a, badW)
    else if wdR (s.drop a) = wEnd ∨ wdR (s.drop a) = wElse then (out, rsR (s.drop a), wdR (s.drop a))
    else if kdS (wdR (s.drop a)) = 0 then rdS (s.length - a) (out ++ [holeD (wdR (s.drop a))]) (rsR (s.drop a)) d
    else
      (fun r1 : List PartD × Bs × Bs => (fun r2 : List PartD × Bs × Bs =>
        if r2.2.2 = wEnd then rdS (s.length - a) (out ++ [.mk (kdS (wdR (s.drop a))) [] (nmI (wdR (s.drop a))) r1.1 r2.1]) r2.2.1 d else (out, s.drop a, badW))
        (if r1.2.2 = wElse ∧ kdS (wdR (s.drop a)) = 3 then rdS (s.length - a) [] r1.2.1 (d - 1) else ([], r1.2.1, r1.2.2)))
        (rdS (s.length - a) [] (rsR (s.drop a)) (d - 1)) := by
  have e1 := tag_ix1 hT
  rw [rdS_succ, if_neg (tail_ne ha), if_neg (by rw [e1]; decide), if_neg (by rw [e1]; decide)]
/-- The tag at a, by numbers. -/
theorem tag_nums {s : Bs} {a : Nat} (hT : (s.take (a + 2)).drop a = [123, 123]) (h2 : ¬ ix2 (s.drop a) < 0) : ∃ (e : Nat) (w : Bs), a + 4 ≤ e ∧ e ≤ s.length ∧ w.length + a + 4 = e ∧ wdR (s.drop a) = w ∧ rsR (s.drop a) = s.drop e ∧ (wdAt s a).1 = w ∧ (wdAt s a).2 = (e : Int) := by
  have e1 := tag_ix1 hT
  obtain ⟨q, b, h3, h4, h5, h6, h7, h8, _⟩ := tag_at (s := s.drop a) (by rw [e1]; decide) h2
  obtain rfl : q = 0 := by have : ix1 (s.drop a) = q := h3; omega
  have hb : ix2 (s.drop a) = b := by rw [ix2_at hT]; exact h4
  rw [List.length_drop] at h6
  refine ⟨a + b + 2, wdR (s.drop a), by omega, by omega, ?_, rfl, ?_, ?_, ?_⟩
  · rw [h7, List.length_drop, List.length_take, List.length_drop]; omega
  · rw [h8, List.drop_drop]; congr 1; omega
  · unfold wdAt; rw [if_neg h2]
  · unfold wdAt; rw [if_neg h2, hb]; dsimp only; omega
theorem kdS_if {w : Bs} (h1 : 3 < w.length) (h : w.take 3 = [105, 102, 32]) : kdS w = 3 ∧ nmI w = w.drop 3 ∧ ¬ w.take 5 = [101, 97, 99, 104, 32] := by
  have hp : ¬ w.take 5 = [101, 97, 99, 104, 32] := by
    intro h5
    have : w.take 3 = (w.take 5).take 3 := by rw [List.take_take]; rfl
    rw [this, h5] at h
    exact absurd h (by decide)
  have hn : ¬ List.isPrefixOf eachP w = true := by
    intro h9
    obtain ⟨q, rfl⟩ := List.isPrefixOf_iff_prefix.1 h9
    exact hp rfl
  have hy : List.isPrefixOf ifP w = true := List.isPrefixOf_iff_prefix.2 ⟨w.drop 3, by rw [show ifP = w.take 3 from h.symm, List.take_append_drop]⟩
  refine ⟨?_, ?_, hp⟩
  · unfold kdS; rw [if_neg (fun h9 => hn h9.2), if_pos ⟨h1, hy⟩]
  · unfold nmI; rw [if_neg hn]
theorem kdS_each {w : Bs} (h1 : 5 < w.length) (h : w.take 5 = [101, 97, 99, 104, 32]) : kdS w = 4 ∧ nmI w = w.drop 5 ∧ ¬ w.take 3 = [105, 102, 32] := by
  have hy : List.isPrefixOf eachP w = true := List.isPrefixOf_iff_prefix.2 ⟨w.drop 5, by rw [show eachP = w.take 5 from h.symm, List.take_append_drop]⟩
  refine ⟨?_, ?_, ?_⟩
  · unfold kdS; rw [if_pos ⟨h1, hy⟩]
  · unfold nmI; rw [if_pos hy]
  · intro h3
    have : w.take 3 = (w.take 5).take 3 := by rw [List.take_take]; rfl
    rw [this, h] at h3
    exact absurd h3 (by decide)
theorem kdS_none {w : Bs} (h1 : ¬ (3 < w.length ∧ w.take 3 = [105, 102, 32])) (h2 : ¬ (5 < w.length ∧ w.take 5 = [101, 97, 99, 104, 32])) : kdS w = 0 := by
  unfold kdS
  rw [if_neg, if_neg]
  · rintro ⟨h3, h4⟩
    obtain ⟨q, rfl⟩ := List.isPrefixOf_iff_prefix.1 h4
    exact h1 ⟨h3, rfl⟩
  · rintro ⟨h3, h4⟩
    obtain ⟨q, rfl⟩ := List.isPrefixOf_iff_prefix.1 h4
    exact h2 ⟨h3, rfl⟩
end Go.Proofs.Ytoocbpendccngaa
