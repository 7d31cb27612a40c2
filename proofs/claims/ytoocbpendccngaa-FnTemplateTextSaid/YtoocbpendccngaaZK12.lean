/- The reference's reading of a template's text. Plain. -/
import Derived.Test.YtoocbpendccngaaZK10

namespace Go.Proofs.Ytoocbpendccngaa
set_option maxRecDepth 100000
set_option linter.unusedVariables false
set_option linter.unusedSimpArgs false
open Go.RowKit
/-- What the reference's reader gives from a text on: the rest, and how it stopped. -/
def rdS : Nat → List PartD → Bs → Int → List PartD × Bs × Bs
  | 0, out, s, _ => (out, s, [])
  | f + 1, out, s, deep =>
    if s = [] then (out, [], [])
    else if ix1 s < 0 then (out ++ [txD s], [], [])
    else if 0 < ix1 s then rdS f (out ++ [txD (s.take (ix1 s).toNat)]) (s.drop (ix1 s).toNat) deep
    else if ix2 s < 0 ∨ deep < 0 then (out, s, badW)
    else if wdR s = wEnd ∨ wdR s = wElse then (out, rsR s, wdR s)
    else if kdS (wdR s) = 0 then rdS f (out ++ [holeD (wdR s)]) (rsR s) deep
    else
      (fun r1 : List PartD × Bs × Bs => (fun r2 : List PartD × Bs × Bs =>
        if r2.2.2 = wEnd then rdS f (out ++ [.mk (kdS (wdR s)) [] (nmI (wdR s)) r1.1 r2.1]) r2.2.1 deep else (out, s, badW))
        (if r1.2.2 = wElse ∧ kdS (wdR s) = 3 then rdS f [] r1.2.1 (deep - 1) else ([], r1.2.1, r1.2.2)))
        (rdS f [] (rsR s) (deep - 1))
theorem rdS_succ (f : Nat) (out : List PartD) (s : Bs) (deep : Int) : rdS (f + 1) out s deep =
    if s = [] then (out, [], [])
    else if ix1 s < 0 then (out ++ [txD s], [], [])
    else if 0 < ix1 s then rdS f (out ++ [txD (s.take (ix1 s).toNat)]) (s.drop (ix1 s).toNat) deep
    else if ix2 s < 0 ∨ deep < 0 then (out, s, badW)
    else if wdR s = wEnd ∨ wdR s = wElse then (out, rsR s, wdR s)
    else if kdS (wdR s) = 0 then rdS f (out ++ [holeD (wdR s)]) (rsR s) deep
    else
      (fun r1 : List PartD × Bs × Bs => (fun r2 : List PartD × Bs × Bs =>
        if r2.2.2 = wEnd then rdS f (out ++ [.mk (kdS (wdR s)) [] (nmI (wdR s)) r1.1 r2.1]) r2.2.1 deep else (out, s, badW))
        (if r1.2.2 = wElse ∧ kdS (wdR s) = 3 then rdS f [] r1.2.1 (deep - 1) else ([], r1.2.1, r1.2.2)))
        (rdS f [] (rsR s) (deep - 1)) := by rw [rdS]
theorem rdS_len : ∀ (f : Nat) (out : List PartD) (s : Bs) (deep : Int), (rdS f out s deep).2.1.length ≤ s.length
  | 0, _, _, _ => Nat.le_refl _
  | f + 1, out, s, deep => by
    rw [rdS_succ]
    split
    · simp
    split
    · simp
    split
    · have := rdS_len f (out ++ [txD (s.take (ix1 s).toNat)]) (s.drop (ix1 s).toNat) deep
      rw [List.length_drop] at this; omega
    split
    · exact Nat.le_refl _
    have hr := rsR_len s ‹_› (fun h => ‹¬ (_ ∨ _)› (.inl h))
    split
    · dsimp only; omega
    split
    · have := rdS_len f (out ++ [holeD (wdR s)]) (rsR s) deep; omega
    have h1 := rdS_len f [] (rsR s) (deep - 1)
    generalize rdS f [] (rsR s) (deep - 1) = r1 at *
    dsimp only
    split
    · have h2 := rdS_len f [] r1.2.1 (deep - 1)
      split
      · have h3 := rdS_len f (out ++ [.mk (kdS (wdR s)) [] (nmI (wdR s)) r1.1 (rdS f [] r1.2.1 (deep - 1)).1]) (rdS f [] r1.2.1 (deep - 1)).2.1 deep
        omega
      · exact Nat.le_refl _
    · dsimp only
      split
      · have h3 := rdS_len f (out ++ [.mk (kdS (wdR s)) [] (nmI (wdR s)) r1.1 []]) r1.2.1 deep
        omega
      · exact Nat.le_refl _
theorem rdS_fuel : ∀ (f g : Nat) (out : List PartD) (s : Bs) (deep : Int), s.length < f → s.length < g → rdS f out s deep = rdS g out s deep
  | 0, _, _, _, _, h, _ => by omega
  | _ + 1, 0, _, _, _, _, h => by omega
  | f + 1, g + 1, out, s, deep, hf, hg => by
    rw [rdS_succ, rdS_succ]
    split
    · rfl
    have hs := List.length_pos_iff.2 ‹¬ s = []›
    split
    · rfl
    split
    · exact rdS_fuel f g _ _ _ (by rw [List.length_drop]; omega) (by rw [List.length_drop]; omega)
    split
    · rfl
    have hr := rsR_len s ‹_› (fun h => ‹¬ (_ ∨ _)› (.inl h))
    split
    · rfl
    split
    · exact rdS_fuel f g _ _ _ (by omega) (by omega)
    have h1 := rdS_len f [] (rsR s) (deep - 1)
    rw [← rdS_fuel f g [] (rsR s) (deep - 1) (by omega) (by omega)]
    generalize rdS f [] (rsR s) (deep - 1) = r1 at *
    dsimp only
    have h2 := rdS_len f [] r1.2.1 (deep - 1)
    rw [← rdS_fuel f g [] r1.2.1 (deep - 1) (by omega) (by omega)]
    split
    · split
      · exact rdS_fuel f g _ _ _ (by omega) (by omega)
      · rfl
    · dsimp only
      split
      · exact rdS_fuel f g _ _ _ (by omega) (by omega)
      · rfl
/-- Behind the text ahead of it, a tag reads the same. -/
theorem tag_skip {s : Bs} (h : ¬ ix1 s < 0) : ix1 (s.drop (ix1 s).toNat) = 0 ∧ ix2 (s.drop (ix1 s).toNat) = ix2 s ∧ wdR (s.drop (ix1 s).toNat) = wdR s ∧ rsR (s.drop (ix1 s).toNat) = rsR s := by
  have e1 : ix1 (s.drop (ix1 s).toNat) = 0 := by
    have hr : ix1 s + 2 ≤ s.length := Lib.index_room s [123, 123] (show 0 ≤ ix1 s by omega)
    refine Lib.index_first (Nat.zero_le _) ?_ (fun j hj => absurd hj (Nat.not_lt_zero j))
    rcases Lib.index_spec s [123, 123] with ⟨h9, _⟩ | ⟨i, h9, _, ho, _⟩
    · exact absurd h9 (fun h9 => by have : ix1 s = -1 := h9; omega)
    · have h8 : ix1 s = i := h9
      rw [h8, Int.toNat_natCast]
      unfold Lib.occAt at ho ⊢
      rw [List.drop_zero]
      exact ho
  have e2 : ix2 (s.drop (ix1 s).toNat) = ix2 s := by
    show Lib.index ((s.drop (ix1 s).toNat).drop (ix1 (s.drop (ix1 s).toNat)).toNat) [125, 125] = _
    rw [e1]; rfl
  refine ⟨e1, e2, ?_, ?_⟩
  · unfold wdR
    rw [e1, e2, Int.toNat_zero, Nat.zero_add, Nat.zero_add, List.take_drop, List.drop_drop]
  · unfold rsR
    rw [e1, e2, Int.toNat_zero, Nat.zero_add, List.drop_drop, Nat.add_assoc]
theorem sim_rd : ∀ (f F : Nat) (out : List PartD) (s : Bs) (deep : Int), s.length < f → s.length < F → deep ≤ 3 → (rdG kdS f out s deep).2.2 ≠ badW → rdS F out s (3 - deep) = rdG kdS f out s deep
  | 0, _, _, _, _, h, _, _, _ => by omega
  | _ + 1, 0, _, _, _, _, h, _, _ => by omega
  | f + 1, F + 1, out, s, deep, hf, hF, hd, hb => by
    rw [rdG_succ] at hb ⊢
    rw [rdS_fuel (F + 1) (F + 1 + 1) out s _ hF (by omega)]
    by_cases c0 : s = []
    · rw [rdS_succ, if_pos c0, if_pos c0]
    rw [if_neg c0] at hb ⊢
    have hs := List.length_pos_iff.2 c0
    by_cases hi : ix1 s < 0
    · rw [rdS_succ, if_neg c0, if_pos hi, if_pos hi]
    rw [if_neg hi] at hb ⊢
    by_cases hj : ix2 s < 0
    · rw [if_pos hj] at hb; exact absurd rfl hb
    rw [if_neg hj] at hb ⊢
    have hr := rsR_len s hi hj
    obtain ⟨e1, e2, e3, e4⟩ := tag_skip hi
    have key : ∃ F' o', (rsR s).length < F' ∧ rdS (F + 1 + 1) out s (3 - deep) =
        if wdR s = wEnd ∨ wdR s = wElse then (preR out s, rsR s, wdR s)
        else if kdS (wdR s) = 0 then rdS F' (preR out s ++ [holeD (wdR s)]) (rsR s) (3 - deep)
        else
          (fun r1 : List PartD × Bs × Bs => (fun r2 : List PartD × Bs × Bs =>
            if r2.2.2 = wEnd then rdS F' (preR out s ++ [.mk (kdS (wdR s)) [] (nmI (wdR s)) r1.1 r2.1]) r2.2.1 (3 - deep) else o')
            (if r1.2.2 = wElse ∧ kdS (wdR s) = 3 then rdS F' [] r1.2.1 (3 - deep - 1) else ([], r1.2.1, r1.2.2)))
            (rdS F' [] (rsR s) (3 - deep - 1)) := by
      by_cases h0 : 0 < ix1 s
      · refine ⟨F, (preR out s, s.drop (ix1 s).toNat, badW), by omega, ?_⟩
        rw [rdS_succ, if_neg c0, if_neg hi, if_pos h0, rdS_succ, if_neg (fun h => by rw [h] at e1; exact absurd e1 (by decide)), if_neg (by rw [e1]; omega), if_neg (by rw [e1]; omega), if_neg (by rw [e2]; omega), e3, e4]
        have : preR out s = out ++ [txD (s.take (ix1 s).toNat)] := by unfold preR; rw [if_pos h0]
        rw [this]
      · refine ⟨F + 1, (preR out s, s, badW), by omega, ?_⟩
        have : preR out s = out := by unfold preR; rw [if_neg h0]
        rw [rdS_succ, if_neg c0, if_neg hi, if_neg h0, if_neg (by omega), this]
    obtain ⟨F', o', hF', key⟩ := key
    rw [key]
    clear key
    by_cases c1 : wdR s = wEnd ∨ wdR s = wElse
    · rw [if_pos c1, if_pos c1]
    rw [if_neg c1] at hb ⊢
    rw [if_neg c1]
    by_cases c2 : kdS (wdR s) = 0
    · rw [if_pos c2] at hb ⊢
      rw [if_pos c2]
      exact sim_rd f F' _ _ _ (by omega) (by omega) hd hb
    rw [if_neg c2] at hb ⊢
    rw [if_neg c2]
    by_cases c3 : 3 ≤ deep
    · rw [if_pos c3] at hb; exact absurd rfl hb
    rw [if_neg c3] at hb ⊢
    have h1 := rdG_len kdS f [] (rsR s) (deep + 1)
    have i1 := sim_rd f F' [] (rsR s) (deep + 1) (by omega) (by omega) (by omega)
    rw [show 3 - (deep + 1) = 3 - deep - 1 by omega] at i1
    generalize rdG kdS f [] (rsR s) (deep + 1) = r1 at *
    have h2 := rdG_len kdS f [] r1.2.1 (deep + 1)
    have i2 := sim_rd f F' [] r1.2.1 (deep + 1) (by omega) (by omega) (by omega)
    rw [show 3 - (deep + 1) = 3 - deep - 1 by omega] at i2
    dsimp only at hb ⊢
    generalize rdG kdS f [] r1.2.1 (deep + 1) = r2 at *
    by_cases c4 : r1.2.2 = wElse ∧ kdS (wdR s) = 3
    · rw [i1 (by rw [c4.1]; decide)]
      rw [if_pos c4] at hb ⊢
      rw [if_pos c4]
      by_cases h9 : r2.2.2 = wEnd
      · rw [i2 (by rw [h9]; decide), if_pos h9, if_pos h9]
        rw [if_pos h9] at hb
        exact sim_rd f F' _ _ _ (by omega) (by omega) hd hb
      · rw [if_neg h9] at hb
        exact absurd rfl hb
    · rw [if_neg c4] at hb
      dsimp only at hb
      by_cases h9 : r1.2.2 = wEnd
      · rw [i1 (by rw [h9]; decide)]
        rw [if_neg c4, if_neg c4]
        dsimp only
        rw [if_pos h9, if_pos h9]
        rw [if_pos h9] at hb
        exact sim_rd f F' _ _ _ (by omega) (by omega) hd hb
      · rw [if_neg h9] at hb
        exact absurd rfl hb
/-- What the reference's test of what was read comes to. -/
theorem read_testS (s : Bs) : (if (rdS (s.length + 1) [] s 3).2.2 = [] ∧ partsB (rdS (s.length + 1) [] s 3).1 = true ∧ txtL (rdS (s.length + 1) [] s 3).1 = s then some (rdS (s.length + 1) [] s 3).1 else none) = readM s := by
  cases h : readM s with
  | some xs =>
    obtain ⟨h1, h2⟩ := readM_some h
    have := rd_valid kdS_ok h1 (s.length + 1) (by rw [h2]; omega)
    rw [h2] at this
    have h9 := sim_rd (s.length + 1) (s.length + 1) [] s 0 (by omega) (by omega) (by omega) (by rw [this]; show ([] : Bs) ≠ badW; decide)
    rw [this] at h9
    rw [show (3 : Int) = 3 - 0 from rfl, h9, if_pos ⟨rfl, h1, h2⟩]
  | none =>
    rw [if_neg]
    rintro ⟨_, h1, h2⟩
    have := readM_text h1
    rw [h2, h] at this
    cases this
/-- With one more end, none reads. -/
theorem read_end {s : Bs} {xs : List PartD} (h : readM s = some xs) : readM (s ++ tagT wEnd) = none := by
  obtain ⟨h1, h2⟩ := readM_some h
  cases hq : readM (s ++ tagT wEnd) with
  | none => rfl
  | some ys =>
    exfalso
    obtain ⟨h3, h4⟩ := readM_some hq
    have e1 := rd_valid kdI_ok h3 ((s ++ tagT wEnd).length + 1) (by rw [h4]; omega)
    rw [h4] at e1
    have hg := h1
    unfold partsB at hg
    simp only [Bool.and_eq_true] at hg
    have e2 := rd_parts kdI_ok (wtL xs + 1) xs 3 false (tagT wEnd ++ []) [] ((s ++ tagT wEnd).length + 1) 0 (by omega) hg.2 (by decide) (.inr (.inl ⟨_, rfl⟩)) (by rw [h2, List.append_nil]; omega)
    rw [h2, List.append_nil] at e2
    rw [e1] at e2
    rw [← List.append_nil (tagT wEnd), rdG_tag wd_end, if_pos (.inl rfl)] at e2
    have : ([] : Bs) = wEnd := congrArg (fun x => x.2.2) e2
    exact absurd this (by decide)
end Go.Proofs.Ytoocbpendccngaa

/- What is read is no larger than the text. Plain. -/
namespace Go.Proofs.Ytoocbpendccngaa
set_option maxRecDepth 100000
set_option linter.unusedVariables false
set_option linter.unusedSimpArgs false
open Go.RowKit
theorem ix2_ge2 {s : Bs} (h1 : ¬ ix1 s < 0) (h2 : ¬ ix2 s < 0) : 2 ≤ ix2 s := by
  have hr : ix1 s + 2 ≤ s.length := Lib.index_room s [123, 123] (show 0 ≤ ix1 s by omega)
  have e2 : ix2 s = Lib.index (s.drop (ix1 s).toNat) [125, 125] := rfl
  have o1 : List.isPrefixOf [123, 123] (s.drop (ix1 s).toNat) = true := by
    rcases Lib.index_spec s [123, 123] with ⟨h9, _⟩ | ⟨i, h9, _, ho, _⟩
    · exact absurd h9 (fun h9 => by have : ix1 s = -1 := h9; omega)
    · have h8 : ix1 s = i := h9
      rw [h8, Int.toNat_natCast]; exact ho
  generalize s.drop (ix1 s).toNat = t at *
  rw [e2] at h2 ⊢
  rcases Lib.index_spec t [125, 125] with ⟨h9, _⟩ | ⟨i, h9, _, ho, _⟩
  · rw [h9] at h2; omega
  · rw [h9]
    obtain ⟨z, rfl⟩ := List.isPrefixOf_iff_prefix.1 o1
    unfold Lib.occAt at ho
    match i, ho with
    | 0, ho => simp [List.isPrefixOf] at ho
    | 1, ho => simp [List.isPrefixOf] at ho
    | n + 2, _ => omega
/-- Where a tag lies, by numbers. -/
theorem tag_at {s : Bs} (h1 : ¬ ix1 s < 0) (h2 : ¬ ix2 s < 0) : ∃ a b : Nat, Lib.index s [123, 123] = a ∧ Lib.index (s.drop a) [125, 125] = b ∧ 2 ≤ b ∧ a + b + 2 ≤ s.length ∧ wdR s = (s.take (a + b)).drop (a + 2) ∧ rsR s = s.drop (a + b + 2) ∧ ∀ out, preR out s = if 0 < a then out ++ [txD (s.take a)] else out := by
  have hg := ix2_ge2 h1 h2
  have hroom := ix2_room s h1 h2
  obtain ⟨a, ha⟩ := Int.eq_ofNat_of_zero_le (show 0 ≤ ix1 s by omega)
  obtain ⟨b, hb⟩ := Int.eq_ofNat_of_zero_le (show 0 ≤ ix2 s by omega)
  refine ⟨a, b, ha, ?_, by omega, ?_, ?_, ?_, ?_⟩
  · have : ix2 s = Lib.index (s.drop (ix1 s).toNat) [125, 125] := rfl
    rw [ha, Int.toNat_natCast] at this
    rw [← this, hb]
  · rw [ha, hb] at hroom; simpa using hroom
  · unfold wdR; rw [ha, hb]; simp
  · unfold rsR; rw [ha, hb]; simp
  · intro out; unfold preR; rw [ha]; simp
theorem nmI_len (w : Bs) : (nmI w).length ≤ w.length := by unfold nmI; split <;> (rw [List.length_drop]; omega)
theorem pre_wt (out : List PartD) {s : Bs} (h1 : ¬ ix1 s < 0) (h2 : ¬ ix2 s < 0) : wtL (preR out s) + (wdR s).length + 2 * (rsR s).length + 2 ≤ wtL out + 2 * s.length := by
  obtain ⟨a, b, ha, hb, h3, h4, e1, e2, e3⟩ := tag_at h1 h2
  rw [e1, e2, e3, List.length_drop, List.length_drop, List.length_take]
  split
  · rw [wtL_append, wtL_one]
    unfold txD
    rw [wtP_mk, List.length_take, wtL_nil]
    simp only [List.length_nil]
    omega
  · omega
theorem rdG_wt (K : Bs → Int) : ∀ (f : Nat) (out : List PartD) (s : Bs) (deep : Int), wtL (rdG K f out s deep).1 + 2 * (rdG K f out s deep).2.1.length ≤ wtL out + 2 * s.length
  | 0, _, _, _ => Nat.le_refl _
  | f + 1, out, s, deep => by
    rw [rdG_succ]
    split
    · simp
    rename_i h0
    have hs := List.length_pos_iff.2 h0
    split
    · dsimp only
      rw [wtL_append, wtL_one]
      unfold txD
      rw [wtP_mk, wtL_nil]
      simp only [List.length_nil]
      omega
    split
    · dsimp only; rw [wtL_nil]; omega
    have hp := pre_wt out ‹_› ‹_›
    split
    · dsimp only; omega
    split
    · have := rdG_wt K f (preR out s ++ [holeD (wdR s)]) (rsR s) deep
      rw [wtL_append, wtL_one] at this
      unfold holeD at this ⊢
      rw [wtP_mk, wtL_nil] at this
      simp only [List.length_nil] at this
      omega
    split
    · dsimp only; rw [wtL_nil]; omega
    have hn := nmI_len (wdR s)
    have h1 := rdG_wt K f [] (rsR s) (deep + 1)
    generalize hr1 : rdG K f [] (rsR s) (deep + 1) = r1 at *
    rw [wtL_nil] at h1
    dsimp only
    split
    · rename_i h9
      have h2 := rdG_wt K f [] r1.2.1 (deep + 1)
      rw [wtL_nil] at h2
      split
      · have h3 := rdG_wt K f (preR out s ++ [.mk (K (wdR s)) [] (nmI (wdR s)) r1.1 (rdG K f [] r1.2.1 (deep + 1)).1]) (rdG K f [] r1.2.1 (deep + 1)).2.1 deep
        rw [wtL_append, wtL_one, wtP_mk] at h3
        simp only [List.length_nil] at h3
        omega
      · dsimp only; rw [wtL_nil]; omega
    · dsimp only
      split
      · have h3 := rdG_wt K f (preR out s ++ [.mk (K (wdR s)) [] (nmI (wdR s)) r1.1 []]) r1.2.1 deep
        rw [wtL_append, wtL_one, wtP_mk, wtL_nil] at h3
        simp only [List.length_nil] at h3
        omega
      · dsimp only; rw [wtL_nil]; omega
theorem rdS_wt : ∀ (f : Nat) (out : List PartD) (s : Bs) (deep : Int), wtL (rdS f out s deep).1 + 2 * (rdS f out s deep).2.1.length ≤ wtL out + 2 * s.length
  | 0, _, _, _ => Nat.le_refl _
  | f + 1, out, s, deep => by
    rw [rdS_succ]
    split
    · simp
    rename_i h0
    have hs := List.length_pos_iff.2 h0
    split
    · dsimp only
      rw [wtL_append, wtL_one]
      unfold txD
      rw [wtP_mk, wtL_nil]
      simp only [List.length_nil]
      omega
    have hroom : ix1 s + 2 ≤ s.length := Lib.index_room s [123, 123] (show 0 ≤ ix1 s by omega)
    split
    · have := rdS_wt f (out ++ [txD (s.take (ix1 s).toNat)]) (s.drop (ix1 s).toNat) deep
      rw [wtL_append, wtL_one, List.length_drop] at this
      unfold txD at this ⊢
      rw [wtP_mk, wtL_nil, List.length_take] at this
      simp only [List.length_nil] at this
      omega
    split
    · exact Nat.le_refl _
    rename_i h1 h2 h3
    have hp := pre_wt out h1 (fun h => h3 (.inl h))
    have hpre : preR out s = out := by unfold preR; rw [if_neg h2]
    rw [hpre] at hp
    split
    · dsimp only; omega
    split
    · have := rdS_wt f (out ++ [holeD (wdR s)]) (rsR s) deep
      rw [wtL_append, wtL_one] at this
      unfold holeD at this ⊢
      rw [wtP_mk, wtL_nil] at this
      simp only [List.length_nil] at this
      omega
    have hn := nmI_len (wdR s)
    have h1 := rdS_wt f [] (rsR s) (deep - 1)
    generalize hr1 : rdS f [] (rsR s) (deep - 1) = r1 at *
    rw [wtL_nil] at h1
    dsimp only
    split
    · rename_i h9
      have h2 := rdS_wt f [] r1.2.1 (deep - 1)
      rw [wtL_nil] at h2
      split
      · have h3 := rdS_wt f (out ++ [.mk (kdS (wdR s)) [] (nmI (wdR s)) r1.1 (rdS f [] r1.2.1 (deep - 1)).1]) (rdS f [] r1.2.1 (deep - 1)).2.1 deep
        rw [wtL_append, wtL_one, wtP_mk] at h3
        simp only [List.length_nil] at h3
        omega
      · dsimp only; omega
    · dsimp only
      split
      · have h3 := rdS_wt f (out ++ [.mk (kdS (wdR s)) [] (nmI (wdR s)) r1.1 []]) r1.2.1 deep
        rw [wtL_append, wtL_one, wtP_mk, wtL_nil] at h3
        simp only [List.length_nil] at h3
        omega
      · dsimp only; omega
end Go.Proofs.Ytoocbpendccngaa
