/- The machine of modes, as data: states, one step, many steps. No program. -/
import Derived.Test.YtoocbpendccngaaGreatZTY
import Derived.Test.YtoocbpendccngaaGreatZD1

namespace Go.Proofs.YtoocbpendccngaaGreat
set_option maxRecDepth 100000
set_option linter.unusedVariables false
set_option linter.unusedSimpArgs false
open Go.RowKit
structure St where
  mode : Int
  tag : Bs
  attr : Bs
  seen : Bool
  deriving DecidableEq
def encS (s : St) : List PV := [.int .i64 s.mode, .str s.tag, .str s.attr, .bool s.seen]
@[go_sem] theorem encS_mk (m : Int) (t a : Bs) (b : Bool) : encS ⟨m, t, a, b⟩ = [.int .i64 m, .str t, .str a, .bool b] := rfl
@[go_sem] theorem encS_iff {s t : St} : encS s = encS t ↔ s = t := by
  constructor
  · intro h
    cases s; cases t
    simp only [encS, List.cons.injEq, PV.int.injEq, PV.str.injEq, PV.bool.injEq, true_and, and_true] at h
    obtain ⟨rfl, rfl, rfl, rfl⟩ := h
    rfl
  · rintro rfl; rfl
def bad : St := ⟨15, [], [], false⟩
def st0 : St := ⟨0, [], [], false⟩
/-- Lengths are lengths. -/
def okS (s : St) : Prop := s.tag.length ≤ 9223372036854775807 ∧ s.attr.length ≤ 9223372036854775807
def tagOk (s : St) : Bool := if 2 ≤ s.mode ∧ s.mode ≤ 8 then nameB s.tag else if s.mode = 9 then decide (s.tag = []) || nameB s.tag else decide (s.tag = [])
def attrOk (s : St) : Bool := if 4 ≤ s.mode ∧ s.mode ≤ 8 then nameB s.attr else decide (s.attr = [])
def seenOk (s : St) : Bool := if s.mode = 6 ∨ s.mode = 7 then true else if s.mode = 8 then s.seen else !s.seen
def stV (s : St) : Bool := decide (0 ≤ s.mode ∧ s.mode ≤ 15) && tagOk s && attrOk s && seenOk s
def nmByte (b : UInt8) : Bool := isLet b || isDig b || decide (b.toNat = 45)
def bareB (b : UInt8) : Bool := isLet b || isDig b || hasB [45, 95, 46, 47, 58] b
def script : Bs := [115, 99, 114, 105, 112, 116]
def longT (s : St) (b : UInt8) : St := if s.tag.length + 1 > 10 then bad else ⟨s.mode, s.tag ++ [low1 b], s.attr, s.seen⟩
def longA (s : St) (b : UInt8) : St := if s.attr.length + 1 > 10 then bad else ⟨s.mode, s.tag, s.attr ++ [low1 b], s.seen⟩
def stepTagM (s : St) (b : UInt8) : St :=
  if b.toNat = 62 then (if s.tag = script then ⟨11, [], [], false⟩ else st0)
  else if b.toNat = 32 then ⟨3, s.tag, [], false⟩
  else if s.mode = 2 ∧ nmByte b = true then longT s b
  else if s.mode = 3 ∧ isLet b = true then longA ⟨4, s.tag, s.attr, s.seen⟩ b
  else if s.mode = 4 ∧ nmByte b = true then longA s b
  else if s.mode = 4 ∧ b.toNat = 61 then ⟨5, s.tag, s.attr, s.seen⟩
  else if s.mode = 8 ∧ bareB b = true then s
  else bad
def stepV (s : St) (b : UInt8) : St :=
  if s.mode = 0 then (if b.toNat = 60 then ⟨1, [], [], false⟩ else st0)
  else if s.mode = 1 then (if isLet b = true then ⟨2, [low1 b], [], false⟩ else if b.toNat = 47 then ⟨9, [], [], false⟩ else if b.toNat = 33 then ⟨10, [], [], false⟩ else bad)
  else if s.mode = 2 ∨ s.mode = 3 ∨ s.mode = 4 ∨ s.mode = 8 then stepTagM s b
  else if s.mode = 5 then (if b.toNat = 34 then ⟨6, s.tag, s.attr, false⟩ else if b.toNat = 39 then ⟨7, s.tag, s.attr, false⟩ else if bareB b = true then ⟨8, s.tag, s.attr, true⟩ else bad)
  else if s.mode = 6 then (if b.toNat = 34 then ⟨3, s.tag, [], false⟩ else ⟨6, s.tag, s.attr, true⟩)
  else if s.mode = 7 then (if b.toNat = 39 then ⟨3, s.tag, [], false⟩ else ⟨7, s.tag, s.attr, true⟩)
  else if s.mode = 9 then (if b.toNat = 62 ∧ s.tag ≠ [] then st0 else if isLet b = true ∨ s.tag ≠ [] ∧ (isDig b = true ∨ b.toNat = 45) then longT s b else bad)
  else if s.mode = 10 then (if b.toNat = 62 then st0 else s)
  else if s.mode = 11 then (if b.toNat = 60 then ⟨14, [], [], false⟩ else if b.toNat = 34 then ⟨12, [], [], false⟩ else ⟨11, [], [], false⟩)
  else if s.mode = 14 then (if b.toNat = 60 then ⟨14, [], [], false⟩ else if b.toNat = 34 then ⟨12, [], [], false⟩ else if b.toNat = 47 then ⟨9, [], [], false⟩ else ⟨11, [], [], false⟩)
  else if s.mode = 12 then (if b.toNat = 34 then ⟨11, [], [], false⟩ else if b.toNat = 92 then ⟨13, [], [], false⟩ else if b.toNat = 60 then bad else ⟨12, [], [], false⟩)
  else if s.mode = 13 then (if b.toNat = 60 then bad else ⟨12, [], [], false⟩)
  else bad
def step (s : St) (b : UInt8) : St := if stV s = true then stepV s b else bad
def run (s : St) (t : Bs) : St := t.foldl step s
def afterS (s : St) (t : Bs) : St := if stV s = true then run s t else bad
theorem run_cons (s : St) (b : UInt8) (t : Bs) : run s (b :: t) = run (step s b) t := rfl
theorem run_append (s : St) (t u : Bs) : run s (t ++ u) = run (run s t) u := List.foldl_append
theorem run_snoc {s : St} {t : Bs} {k : Nat} (h : k < t.length) : run s (t.take (k + 1)) = step (run s (t.take k)) (t.getD k 0) := by
  rw [take_succ_getD h, run_append]; rfl
theorem stV_parts {s : St} (h : stV s = true) : 0 ≤ s.mode ∧ s.mode ≤ 15 ∧ tagOk s = true ∧ attrOk s = true ∧ seenOk s = true := by
  unfold stV at h
  simp only [Bool.and_eq_true, decide_eq_true_eq] at h
  exact ⟨h.1.1.1.1, h.1.1.1.2, h.1.1.2, h.1.2, h.2⟩
theorem stV_tag0 {s : St} (h : stV s = true) (hm : s.mode < 2 ∨ 9 < s.mode) : s.tag = [] := by
  have := (stV_parts h).2.2.1
  unfold tagOk at this
  rw [if_neg (by omega), if_neg (by omega)] at this
  simpa using this
theorem stV_attr0 {s : St} (h : stV s = true) (hm : s.mode < 4 ∨ 8 < s.mode) : s.attr = [] := by
  have := (stV_parts h).2.2.2.1
  unfold attrOk at this
  rw [if_neg (by omega)] at this
  simpa using this
theorem stV_seen0 {s : St} (h : stV s = true) (hm : s.mode < 6 ∨ 8 < s.mode) : s.seen = false := by
  have := (stV_parts h).2.2.2.2
  unfold seenOk at this
  rw [if_neg (by omega), if_neg (by omega)] at this
  simpa using this
theorem stV_seen8 {s : St} (h : stV s = true) (hm : s.mode = 8) : s.seen = true := by
  have := (stV_parts h).2.2.2.2
  unfold seenOk at this
  rw [if_neg (by omega), if_pos hm] at this
  exact this
theorem stV_tagN {s : St} (h : stV s = true) (hm : 2 ≤ s.mode ∧ s.mode ≤ 8) : nameB s.tag = true := by
  have := (stV_parts h).2.2.1
  unfold tagOk at this
  rwa [if_pos hm] at this
theorem stV_attrN {s : St} (h : stV s = true) (hm : 4 ≤ s.mode ∧ s.mode ≤ 8) : nameB s.attr = true := by
  have := (stV_parts h).2.2.2.1
  unfold attrOk at this
  rwa [if_pos hm] at this
theorem stV_tag9 {s : St} (h : stV s = true) (hm : s.mode = 9) : s.tag = [] ∨ nameB s.tag = true := by
  have := (stV_parts h).2.2.1
  unfold tagOk at this
  rw [if_neg (by omega), if_pos hm] at this
  simpa using this
theorem nameB_len {s : Bs} (h : nameB s = true) : 1 ≤ s.length ∧ s.length ≤ 10 := by
  unfold nameB at h
  simp only [Bool.and_eq_true, decide_eq_true_eq] at h
  exact ⟨h.1.1, h.1.2.1⟩
theorem stV_tag_len {s : St} (h : stV s = true) : s.tag.length ≤ 10 := by
  by_cases h1 : s.mode < 2 ∨ 9 < s.mode
  · rw [stV_tag0 h h1]; exact Nat.zero_le _
  · by_cases h2 : s.mode = 9
    · rcases stV_tag9 h h2 with e | e
      · rw [e]; exact Nat.zero_le _
      · exact (nameB_len e).2
    · exact (nameB_len (stV_tagN h (by omega))).2
theorem stV_attr_len {s : St} (h : stV s = true) : s.attr.length ≤ 10 := by
  by_cases h1 : s.mode < 4 ∨ 8 < s.mode
  · rw [stV_attr0 h h1]; exact Nat.zero_le _
  · exact (nameB_len (stV_attrN h (by omega))).2
theorem okS_of {s : St} (h : stV s = true) : okS s := ⟨by have := stV_tag_len h; omega, by have := stV_attr_len h; omega⟩
theorem stV_bad : stV bad = true := by decide
theorem stV_st0 : stV st0 = true := by decide
theorem low1_let {b : UInt8} (h : isLet b = true) : 97 ≤ (low1 b).toNat ∧ (low1 b).toNat ≤ 122 := by
  rw [low1_nat]
  unfold isLet at h
  rw [decide_eq_true_eq] at h
  split <;> omega
theorem low1_nm {b : UInt8} (h : nmByte b = true) : okNm (low1 b).toNat = true := by
  unfold nmByte at h
  simp only [Bool.or_eq_true, decide_eq_true_eq] at h
  rcases h with (h | h) | h
  · have := low1_let h
    exact okNm_t (by omega)
  · unfold isDig at h
    rw [decide_eq_true_eq] at h
    rw [low1_nat, if_neg (by omega)]
    exact okNm_t (by omega)
  · rw [low1_nat, if_neg (by omega)]
    exact okNm_t (by omega)
theorem nameB_one {c : UInt8} (h : 97 ≤ c.toNat ∧ c.toNat ≤ 122) : nameB [c] = true := by
  have hc : okNm c.toNat = true := okNm_t (by omega)
  simp [nameB, allB, h, hc]
theorem nameB_more {s : Bs} {c : UInt8} (h : nameB s = true) (hl : s.length + 1 ≤ 10) (hc : okNm c.toNat = true) : nameB (s ++ [c]) = true := by
  unfold nameB at *
  simp only [Bool.and_eq_true, decide_eq_true_eq] at h
  obtain ⟨⟨h1, h2, h3, h4⟩, h5⟩ := h
  have e : (s ++ [c]).getD 0 0 = s.getD 0 0 := by
    cases s with
    | nil => simp at h1
    | cons x r => rfl
  simp only [Bool.and_eq_true, decide_eq_true_eq, e, List.length_append, List.length_singleton]
  refine ⟨⟨by omega, by omega, h3, h4⟩, ?_⟩
  unfold allB at *
  rw [List.all_append, h5]
  simp [hc]
theorem stV_longT {s : St} {b : UInt8} (h : stV s = true) (hb : nmByte b = true) (hm : s.mode = 2 ∨ s.mode = 9 ∧ (isLet b = true ∨ s.tag ≠ [])) : stV (longT s b) = true := by
  unfold longT
  split
  · exact stV_bad
  · rename_i hl
    have hn : nameB (s.tag ++ [low1 b]) = true := by
      rcases hm with hm | ⟨hm, h2⟩
      · exact nameB_more (stV_tagN h (by omega)) (by omega) (low1_nm hb)
      · rcases stV_tag9 h hm with e | e
        · rw [e]
          exact nameB_one (low1_let (h2.resolve_right (fun h => h e)))
        · exact nameB_more e (by omega) (low1_nm hb)
    have ha := stV_attr0 h (by omega)
    have hs := stV_seen0 h (by omega)
    rcases hm with hm | ⟨hm, _⟩ <;> simp [stV, tagOk, attrOk, seenOk, hm, hn, ha, hs]
theorem let_nm {b : UInt8} (h : isLet b = true) : nmByte b = true := by simp [nmByte, h]
theorem stV_longA {s : St} {b : UInt8} (h : stV s = true) (hb : nmByte b = true) (hm : s.mode = 3 ∧ isLet b = true ∨ s.mode = 4) : stV (longA ⟨4, s.tag, s.attr, s.seen⟩ b) = true := by
  unfold longA
  split
  · exact stV_bad
  · rename_i hl
    dsimp only at hl
    have hn : nameB (s.attr ++ [low1 b]) = true := by
      rcases hm with ⟨hm, h2⟩ | hm
      · rw [stV_attr0 h (by omega)]
        exact nameB_one (low1_let h2)
      · exact nameB_more (stV_attrN h (by omega)) (by omega) (low1_nm hb)
    have ht := stV_tagN h (by omega)
    have hs := stV_seen0 h (by omega)
    simp [stV, tagOk, attrOk, seenOk, hn, ht, hs]
section
variable {s : St} {b : UInt8}
theorem stepV_0 (h : s.mode = 0) : stepV s b = if b.toNat = 60 then ⟨1, [], [], false⟩ else st0 := by simp [stepV, h]
theorem stepV_1 (h : s.mode = 1) : stepV s b = if isLet b = true then ⟨2, [low1 b], [], false⟩ else if b.toNat = 47 then ⟨9, [], [], false⟩ else if b.toNat = 33 then ⟨10, [], [], false⟩ else bad := by simp [stepV, h]
theorem stepV_t (h : s.mode = 2 ∨ s.mode = 3 ∨ s.mode = 4 ∨ s.mode = 8) : stepV s b = stepTagM s b := by
  unfold stepV
  rw [if_neg (by omega), if_neg (by omega), if_pos h]
theorem stepV_5 (h : s.mode = 5) : stepV s b = if b.toNat = 34 then ⟨6, s.tag, s.attr, false⟩ else if b.toNat = 39 then ⟨7, s.tag, s.attr, false⟩ else if bareB b = true then ⟨8, s.tag, s.attr, true⟩ else bad := by simp [stepV, h]
theorem stepV_6 (h : s.mode = 6) : stepV s b = if b.toNat = 34 then ⟨3, s.tag, [], false⟩ else ⟨6, s.tag, s.attr, true⟩ := by simp [stepV, h]
theorem stepV_7 (h : s.mode = 7) : stepV s b = if b.toNat = 39 then ⟨3, s.tag, [], false⟩ else ⟨7, s.tag, s.attr, true⟩ := by simp [stepV, h]
theorem stepV_9 (h : s.mode = 9) : stepV s b = if b.toNat = 62 ∧ s.tag ≠ [] then st0 else if isLet b = true ∨ s.tag ≠ [] ∧ (isDig b = true ∨ b.toNat = 45) then longT s b else bad := by simp [stepV, h]
theorem stepV_10 (h : s.mode = 10) : stepV s b = if b.toNat = 62 then st0 else s := by simp [stepV, h]
theorem stepV_11 (h : s.mode = 11) : stepV s b = if b.toNat = 60 then ⟨14, [], [], false⟩ else if b.toNat = 34 then ⟨12, [], [], false⟩ else ⟨11, [], [], false⟩ := by simp [stepV, h]
theorem stepV_14 (h : s.mode = 14) : stepV s b = if b.toNat = 60 then ⟨14, [], [], false⟩ else if b.toNat = 34 then ⟨12, [], [], false⟩ else if b.toNat = 47 then ⟨9, [], [], false⟩ else ⟨11, [], [], false⟩ := by simp [stepV, h]
theorem stepV_12 (h : s.mode = 12) : stepV s b = if b.toNat = 34 then ⟨11, [], [], false⟩ else if b.toNat = 92 then ⟨13, [], [], false⟩ else if b.toNat = 60 then bad else ⟨12, [], [], false⟩ := by simp [stepV, h]
theorem stepV_13 (h : s.mode = 13) : stepV s b = if b.toNat = 60 then bad else ⟨12, [], [], false⟩ := by simp [stepV, h]
theorem stepV_15 (h : s.mode = 15) : stepV s b = bad := by simp [stepV, h]
end
theorem modes {s : St} (h : stV s = true) : s.mode = 0 ∨ s.mode = 1 ∨ (s.mode = 2 ∨ s.mode = 3 ∨ s.mode = 4 ∨ s.mode = 8) ∨ s.mode = 5 ∨ s.mode = 6 ∨ s.mode = 7 ∨ s.mode = 9 ∨ s.mode = 10 ∨ s.mode = 11 ∨ s.mode = 12 ∨ s.mode = 13 ∨ s.mode = 14 ∨ s.mode = 15 := by
  have := stV_parts h
  omega
theorem stV_tagM {s : St} {b : UInt8} (h : stV s = true) (hm : s.mode = 2 ∨ s.mode = 3 ∨ s.mode = 4 ∨ s.mode = 8) : stV (stepTagM s b) = true := by
  have ht := stV_tagN h (by omega)
  unfold stepTagM
  split
  · split <;> decide
  split
  · simp [stV, tagOk, attrOk, seenOk, ht]
  split
  · rename_i h1
    exact stV_longT h h1.2 (.inl h1.1)
  split
  · rename_i h1
    exact stV_longA h (let_nm h1.2) (.inl h1)
  split
  · rename_i h1
    have e : s = ⟨4, s.tag, s.attr, s.seen⟩ := by cases s; have := h1.1; simp at this; simp [this]
    rw [e]
    exact stV_longA h h1.2 (.inr h1.1)
  split
  · rename_i h1
    simp [stV, tagOk, attrOk, seenOk, ht, stV_attrN h (by omega), stV_seen0 h (by omega)]
  split
  · exact h
  · exact stV_bad
theorem stV_step (s : St) (b : UInt8) : stV (step s b) = true := by
  unfold step
  split
  · rename_i h
    rcases modes h with m | m | m | m | m | m | m | m | m | m | m | m | m
    · rw [stepV_0 m]; split <;> decide
    · rw [stepV_1 m]
      split
      · rename_i hq
        simp [stV, tagOk, attrOk, seenOk, nameB_one (low1_let hq)]
      · (repeat' split) <;> decide
    · rw [stepV_t m]; exact stV_tagM h m
    · have ht := stV_tagN h (by omega)
      have ha := stV_attrN h (by omega)
      rw [stepV_5 m]
      (repeat' split) <;> first | exact stV_bad | simp [stV, tagOk, attrOk, seenOk, ht, ha]
    · have ht := stV_tagN h (by omega)
      have ha := stV_attrN h (by omega)
      rw [stepV_6 m]
      split <;> simp [stV, tagOk, attrOk, seenOk, ht, ha]
    · have ht := stV_tagN h (by omega)
      have ha := stV_attrN h (by omega)
      rw [stepV_7 m]
      split <;> simp [stV, tagOk, attrOk, seenOk, ht, ha]
    · rw [stepV_9 m]
      split
      · exact stV_st0
      split
      · rename_i hq
        refine stV_longT h ?_ (.inr ⟨m, ?_⟩)
        · rcases hq with hq | ⟨_, hq | hq⟩ <;> simp [nmByte, hq]
        · rcases hq with hq | ⟨hq, _⟩
          · exact .inl hq
          · exact .inr hq
      · exact stV_bad
    · rw [stepV_10 m]; split
      · exact stV_st0
      · exact h
    · rw [stepV_11 m]; (repeat' split) <;> decide
    · rw [stepV_12 m]; (repeat' split) <;> decide
    · rw [stepV_13 m]; (repeat' split) <;> decide
    · rw [stepV_14 m]; (repeat' split) <;> decide
    · rw [stepV_15 m]; decide
  · exact stV_bad
theorem stV_run {s : St} (h : stV s = true) (t : Bs) : stV (run s t) = true := by
  induction t generalizing s with
  | nil => exact h
  | cons b r ih => rw [run_cons]; exact ih (stV_step s b)
theorem step_bad (b : UInt8) : step bad b = bad := rfl
theorem run_bad (t : Bs) : run bad t = bad := by
  induction t with
  | nil => rfl
  | cons b r ih => rw [run_cons, step_bad, ih]
theorem stV_afterS (s : St) (t : Bs) : stV (afterS s t) = true := by
  unfold afterS
  split
  · exact stV_run ‹_› t
  · exact stV_bad
def addrN (a : Bs) : Bool := decide (a = [104, 114, 101, 102]) || decide (a = [115, 114, 99]) || decide (a = [97, 99, 116, 105, 111, 110])
def styleN : Bs := [115, 116, 121, 108, 101]
def placeM (s : St) : Int :=
  if stV s = false then 0
  else if s.mode = 0 then 1
  else if s.mode = 12 then 5
  else if s.mode = 6 ∨ s.mode = 7 then
    (if List.isPrefixOf [111, 110] s.attr = true ∨ s.attr = styleN then 0 else if addrN s.attr = false then 2 else if s.seen = true then 4 else 3)
  else 0
def behindM (s : St) : St := if placeM s = 0 then bad else if s.mode = 6 ∨ s.mode = 7 then ⟨s.mode, s.tag, s.attr, true⟩ else s
theorem placeM_bd (s : St) : 0 ≤ placeM s ∧ placeM s ≤ 5 := by unfold placeM; (repeat' split) <;> decide
theorem placeM_stV {s : St} (h : placeM s ≠ 0) : stV s = true := by
  unfold placeM at h
  split at h
  · exact absurd rfl h
  · rename_i hq; cases hv : stV s with
    | true => rfl
    | false => exact absurd hv hq
theorem stV_behind (s : St) : stV (behindM s) = true := by
  unfold behindM
  split
  · exact stV_bad
  · rename_i h
    have hv := placeM_stV h
    split
    · rename_i hm
      simp only [stV, tagOk, attrOk, seenOk]
      have h1 := stV_tagN hv (by omega)
      have h2 := stV_attrN hv (by omega)
      rcases hm with e | e <;> simp [e, h1, h2]
    · exact hv
end Go.Proofs.YtoocbpendccngaaGreat

/- The laws' own functions on parts: sizes, copies, comparison. -/
namespace Go.Proofs.YtoocbpendccngaaGreat
attribute [local irreducible] awp arun acalm FinP Fin AX.then AX.inBlock Again aG gsel amix amixN amixC aop aopc aopd cutK
attribute [local go_sem] aBSliceD aSlice aSliceC boundOf aMk aCall aCallC aLenL aLen aPick_t aPick_f aNil aAlloc aBox aBuild bldPV aBSlice bsPV aApp newsOf destOf drp aConvX aConv aConvInt aLoad cellsAt aStore cellsPV setAt aFld aField aIdx aIndex aUn aBin' aBin aMax aExtract pvOf PV.isCell nmbL PV.nmb List.map_cons List.map_nil List.all_cons List.all_nil Bool.and_true Bool.true_and if_true if_false List.getD_cons_zero List.getD_cons_succ List.getD_nil Option.isSome_some true_and and_true and_self eq_self true_or or_true List.drop_zero List.drop_succ_cons List.drop_nil List.take_zero List.take_succ_cons List.take_nil List.length_cons List.length_nil List.length_map Option.getD_some Option.getD_none List.nil_append List.cons_append List.append_nil Option.some.injEq exists_eq_left' List.getElem?_cons_zero List.getElem?_cons_succ Int.toNat_natCast Int.natCast_inj toNat_succ Nat.zero_add res res1 resC owns owns1 ownsC List.flatMap_cons List.flatMap_nil List.flatten_cons List.flatten_nil List.mem_cons List.not_mem_nil or_false false_or forall_eq forall_eq_or_imp isFro frz frz1 pureC tabA isBld List.cons.injEq PV.seq.injEq PV.int.injEq PV.str.injEq PV.bool.injEq PV.agg.injEq inR tab Γof aRes packR Option.map_some Option.map_none rel Prod.exists exists_and_left exists_eq_left and_assoc beq_self_eq_true Bool.not_true Bool.not_false decide_true decide_false List.set_cons_zero List.set_cons_succ rst_nil rst_cons
attribute [local go_sem ↓] evT upd_def aop aopc aopd
set_option maxRecDepth 100000
set_option linter.unusedVariables false
set_option linter.unusedSimpArgs false
open Go.RowKit
/-- What is left of a size. -/
def leftI (left : Int) (n : Nat) : Int := if (n : Int) ≤ left then left - n else -1
def szLC (n : Nat) : PC := rel (α := List PartD × Int) (fun x => [.seq (encPs x.1), .int .i64 x.2]) (fun x => wtL x.1 < n ∧ okL x.1 ∧ x.1.length ≤ 9223372036854775807 ∧ 0 ≤ x.2 ∧ x.2 ≤ 1048576) (fun x => .int .i64 (leftI x.2 (wtL x.1)))
def szPC (n : Nat) : PC := rel (α := PartD × Int) (fun x => [.agg (encP x.1), .int .i64 x.2]) (fun x => wtP x.1 < n ∧ okP x.1 ∧ 0 ≤ x.2 ∧ x.2 ≤ 1048576) (fun x => .int .i64 (leftI x.2 (wtP x.1)))
theorem leftI_neg {left : Int} {n : Nat} (h : leftI left n < 0) : left < n := by unfold leftI at h; split at h <;> omega
theorem leftI_pos {left : Int} {n : Nat} (h : ¬ leftI left n < 0) : (n : Int) ≤ left ∧ leftI left n = left - n := by unfold leftI at *; split at h <;> split <;> omega
set_option maxHeartbeats 4000000 in
theorem szP_of (n : Nat) (h : PureOk Tryz.prog 22 (szLC n)) : PureOk Tryz.prog 61 (szPC n) := by
  refine pure_rel 2 (tab_cons h tab_nil) mixed [.tmp 4] Tryz.func61 rfl rfl (by kernel_rfl) (by kernel_rfl) (fun _ => rfl) (by kernel_rfl) ?_
  rintro ⟨x, left⟩ K ⟨hn, hok, h0, h1⟩ hK
  obtain ⟨kd, t, nm, ps, os⟩ := x
  have hx2 := encP_mk kd t nm ps os
  have hw := wtP_mk kd t nm ps os
  rw [okP_mk] at hok
  simp only [hx2, hw] at *
  obtain ⟨o1, o2, o3, o4, o5, o6⟩ := hok
  clear hx2 hw
  unfold entry
  repeat' (first | ((first | apply qa1 | apply qa2 | apply qa3 | apply qh1 | apply qh2 | apply qg1 rfl | apply qcd); (try intro K hk); focus (simp only [go_sem, Nat.reduceEqDiff, Nat.reduceAdd, Nat.reduceLeDiff, Nat.reduceLT, Nat.reduceSub, Int.reduceToNat, ↓reduceIte, reduceCtorEq, szLC]; first | exact rfl | ((repeat (refine And.intro ?_ ?_; focus (first | omega | assumption | with_reducible rfl))); intros; apply hk; clear hk K))) | apply qw8 | apply qw1 | apply qw6 | apply qt1 | apply qw5 | apply qw2 | apply qw9 | apply qt2 | apply qt3 | apply qt4 | apply qt5 | apply qt6 | apply qw3 | apply qw4 | apply qj1 | apply qj2 | apply qj3 | apply qj4 | apply qj5 | apply qu1 | apply qu2 | (refine qj6 ?_ ?_ <;> intro hc <;> (try simp only [hc]) <;> (try simp only [decide_eq_true_eq, decide_eq_false_iff_not, Bool.not_eq_true', Bool.not_eq_false', Bool.not_eq_true, reduceCtorEq] at hc) <;> (try (exfalso; omega))) | (refine qt7 ?_ ?_; focus decide) | (refine qw7 ?_ ?_ ?_; (focus (decide +kernel)); (focus (decide +kernel))))
  · ((first | refine fin_ret ?_ | refine fin_end ?_); simp only [go_sem, ↓upd_def, Nat.reduceEqDiff, Nat.reduceAdd, ↓reduceIte, reduceCtorEq])
    exact K_int hK (by unfold leftI; split <;> omega)
  · ((first | refine fin_ret ?_ | refine fin_end ?_); simp only [go_sem, ↓upd_def, Nat.reduceEqDiff, Nat.reduceAdd, ↓reduceIte, reduceCtorEq])
    exact K_int hK (by unfold leftI; split <;> omega)
  · ((first | refine fin_ret ?_ | refine fin_end ?_); simp only [go_sem, ↓upd_def, Nat.reduceEqDiff, Nat.reduceAdd, ↓reduceIte, reduceCtorEq])
    have := leftI_neg ‹_›
    exact K_int hK (by unfold leftI; split <;> omega)
  · have := leftI_pos ‹_›
    repeat' (first | ((first | apply qa1 | apply qa2 | apply qa3 | apply qh1 | apply qh2 | apply qg1 rfl | apply qcd); (try intro K hk); focus (simp only [go_sem, Nat.reduceEqDiff, Nat.reduceAdd, Nat.reduceLeDiff, Nat.reduceLT, Nat.reduceSub, Int.reduceToNat, ↓reduceIte, reduceCtorEq, szLC]; first | exact rfl | ((repeat (refine And.intro ?_ ?_; focus (first | omega | assumption | with_reducible rfl))); intros; apply hk; clear hk K))) | apply qw8 | apply qw1 | apply qw6 | apply qt1 | apply qw5 | apply qw2 | apply qw9 | apply qt2 | apply qt3 | apply qt4 | apply qt5 | apply qt6 | apply qw3 | apply qw4 | apply qj1 | apply qj2 | apply qj3 | apply qj4 | apply qj5 | apply qu1 | apply qu2 | (refine qj6 ?_ ?_ <;> intro hc <;> (try simp only [hc]) <;> (try simp only [decide_eq_true_eq, decide_eq_false_iff_not, Bool.not_eq_true', Bool.not_eq_false', Bool.not_eq_true, reduceCtorEq] at hc) <;> (try (exfalso; omega))) | (refine qt7 ?_ ?_; focus decide) | (refine qw7 ?_ ?_ ?_; (focus (decide +kernel)); (focus (decide +kernel))))
    all_goals
      ((first | refine fin_ret ?_ | refine fin_end ?_); simp only [go_sem, ↓upd_def, Nat.reduceEqDiff, Nat.reduceAdd, ↓reduceIte, reduceCtorEq])
      rw [this.2] at hc
      try rw [this.2]
      exact K_int hK (by unfold leftI at hc ⊢; split at hc <;> split <;> omega)
set_option maxHeartbeats 4000000 in
theorem szL_of (n : Nat) (h : PureOk Tryz.prog 61 (szPC n)) : PureOk Tryz.prog 22 (szLC (n + 1)) := by
  refine pure_rel 2 (tab_cons h tab_nil) mixed [.tmp 4] Tryz.func22 rfl rfl (by kernel_rfl) (by kernel_rfl) (fun _ => rfl) (by kernel_rfl) ?_
  rintro ⟨xs, left⟩ K ⟨hn, hok, hl, h0, h1⟩ hK
  have hL := encPs_length xs
  dsimp only at *
  have hlw := len_le_wtL xs
  unfold entry
  repeat' (first | ((first | apply qa1 | apply qa2 | apply qa3 | apply qh1 | apply qh2 | apply qg1 rfl | apply qcd); (try intro K hk); focus (simp only [go_sem, Nat.reduceEqDiff, Nat.reduceAdd, Nat.reduceLeDiff, Nat.reduceLT, Nat.reduceSub, Int.reduceToNat, ↓reduceIte, reduceCtorEq, szPC]; first | exact rfl | ((repeat (refine And.intro ?_ ?_; focus (first | omega | assumption | with_reducible rfl))); intros; apply hk; clear hk K))) | apply qw8 | apply qw1 | apply qw6 | apply qt1 | apply qw5 | apply qw2 | apply qw9 | apply qt2 | apply qt3 | apply qt4 | apply qt5 | apply qt6 | apply qw3 | apply qw4 | apply qj1 | apply qj2 | apply qj3 | apply qj4 | apply qj5 | apply qu1 | apply qu2 | (refine qj6 ?_ ?_ <;> intro hc <;> (try simp only [hc]) <;> (try simp only [decide_eq_true_eq, decide_eq_false_iff_not, Bool.not_eq_true', Bool.not_eq_false', Bool.not_eq_true, reduceCtorEq] at hc) <;> (try (exfalso; omega))) | (refine qt7 ?_ ?_; focus decide) | (refine qw7 ?_ ?_ ?_; (focus (decide +kernel)); (focus (decide +kernel))))
  · ((first | refine fin_ret ?_ | refine fin_end ?_); simp only [go_sem, ↓upd_def, Nat.reduceEqDiff, Nat.reduceAdd, ↓reduceIte, reduceCtorEq])
    exact K_int hK (by unfold leftI; split <;> omega)
  refine s_loop (ι := Nat) (fun k => [(0, .seq (encPs xs)), (1, .int .i64 (left - xs.length - (wtL (xs.take k) - k))), (4, .int .i64 0), (5, .int .i64 k)]) (fun _ => []) 0 (fun k => k ≤ xs.length ∧ 0 ≤ left - xs.length - ((wtL (xs.take k) : Int) - k)) (fun k => xs.length - k) 0 (Nat.le_refl _) ⟨Nat.zero_le _, by simp [wtL_nil]; omega⟩ ?_ ?_
  · simp [fits, fitsT, fitsM, upd_def, PV.nmb, nmbL, MB.nmb, List.getD_cons_zero, List.getD_cons_succ, wtL_nil]
  rintro k ⟨hk, hp⟩
  have hlk := len_le_wtL (xs.take k)
  rw [List.length_take_of_le hk] at hlk
  simp only [mkS, mkT, mkM]
  repeat' (first | ((first | apply qa1 | apply qa2 | apply qa3 | apply qh1 | apply qh2 | apply qg1 rfl | apply qcd); (try intro K hk); focus (simp only [go_sem, Nat.reduceEqDiff, Nat.reduceAdd, Nat.reduceLeDiff, Nat.reduceLT, Nat.reduceSub, Int.reduceToNat, ↓reduceIte, reduceCtorEq, szPC]; first | exact rfl | ((repeat (refine And.intro ?_ ?_; focus (first | omega | assumption | with_reducible rfl))); intros; apply hk; clear hk K))) | apply qw8 | apply qw1 | apply qw6 | apply qt1 | apply qw5 | apply qw2 | apply qw9 | apply qt2 | apply qt3 | apply qt4 | apply qt5 | apply qt6 | apply qw3 | apply qw4 | apply qj1 | apply qj2 | apply qj3 | apply qj4 | apply qj5 | apply qu1 | apply qu2 | (refine qj6 ?_ ?_ <;> intro hc <;> (try simp only [hc]) <;> (try simp only [decide_eq_true_eq, decide_eq_false_iff_not, Bool.not_eq_true', Bool.not_eq_false', Bool.not_eq_true, reduceCtorEq] at hc) <;> (try (exfalso; omega))) | (refine qt7 ?_ ?_; focus decide) | (refine qw7 ?_ ?_ ?_; (focus (decide +kernel)); (focus (decide +kernel))))
  · obtain ⟨x, hx⟩ := get_some (xs := xs) (k := k) (by omega)
    have htk := take_snoc' hx
    have ws := wtL_split hx
    have wd := len_le_wtL (xs.drop (k + 1))
    rw [List.length_drop] at wd
    have hok' := okL_get hok hx
    have hget := encPs_get xs
    repeat' (first | ((first | apply qa1 | apply qa2 | apply qa3 | apply qh1 | apply qh2 | apply qg1 rfl | apply qcd); (try intro K hk); focus (simp only [go_sem, Nat.reduceEqDiff, Nat.reduceAdd, Nat.reduceLeDiff, Nat.reduceLT, Nat.reduceSub, Int.reduceToNat, ↓reduceIte, reduceCtorEq, szPC, hget, hx]; first | exact rfl | ((repeat (refine And.intro ?_ ?_; focus (first | omega | assumption | with_reducible rfl))); intros; apply hk; clear hk K))) | apply qw8 | apply qw1 | apply qw6 | apply qt1 | apply qw5 | apply qw2 | apply qw9 | apply qt2 | apply qt3 | apply qt4 | apply qt5 | apply qt6 | apply qw3 | apply qw4 | apply qj1 | apply qj2 | apply qj3 | apply qj4 | apply qj5 | apply qu1 | apply qu2 | (refine qj6 ?_ ?_ <;> intro hc <;> (try simp only [hc]) <;> (try simp only [decide_eq_true_eq, decide_eq_false_iff_not, Bool.not_eq_true', Bool.not_eq_false', Bool.not_eq_true, reduceCtorEq] at hc) <;> (try (exfalso; omega))) | (refine qt7 ?_ ?_; focus decide) | (refine qw7 ?_ ?_ ?_; (focus (decide +kernel)); (focus (decide +kernel))))
    · have := leftI_neg ‹_›
      ((first | refine fin_ret ?_ | refine fin_end ?_); simp only [go_sem, ↓upd_def, Nat.reduceEqDiff, Nat.reduceAdd, ↓reduceIte, reduceCtorEq])
      exact K_int hK (by unfold leftI; split <;> omega)
    · have := leftI_pos ‹_›
      refine s_again (k + 1) ?_ ?_ ?_ <;> (first | omega | (dsimp only; omega) | skip)
      · simp only [htk, wtL_append, wtL_one]
        omega
      · simp [fits, fitsT, fitsM, upd_def, PV.nmb, nmbL, MB.nmb, List.getD_cons_zero, List.getD_cons_succ, htk, wtL_append, wtL_one]
        rw [this.2]
        omega
  · have hk' : k = xs.length := by omega
    subst hk'
    repeat' (first | ((first | apply qa1 | apply qa2 | apply qa3 | apply qh1 | apply qh2 | apply qg1 rfl | apply qcd); (try intro K hk); focus (simp only [go_sem, Nat.reduceEqDiff, Nat.reduceAdd, Nat.reduceLeDiff, Nat.reduceLT, Nat.reduceSub, Int.reduceToNat, ↓reduceIte, reduceCtorEq]; first | exact rfl | ((repeat (refine And.intro ?_ ?_; focus (first | omega | assumption | with_reducible rfl))); intros; apply hk; clear hk K))) | apply qw8 | apply qw1 | apply qw6 | apply qt1 | apply qw5 | apply qw2 | apply qw9 | apply qt2 | apply qt3 | apply qt4 | apply qt5 | apply qt6 | apply qw3 | apply qw4 | apply qj1 | apply qj2 | apply qj3 | apply qj4 | apply qj5 | apply qu1 | apply qu2 | (refine qj6 ?_ ?_ <;> intro hc <;> (try simp only [hc]) <;> (try simp only [decide_eq_true_eq, decide_eq_false_iff_not, Bool.not_eq_true', Bool.not_eq_false', Bool.not_eq_true, reduceCtorEq] at hc) <;> (try (exfalso; omega))) | (refine qt7 ?_ ?_; focus decide) | (refine qw7 ?_ ?_ ?_; (focus (decide +kernel)); (focus (decide +kernel))))
    ((first | refine fin_ret ?_ | refine fin_end ?_); simp only [go_sem, ↓upd_def, Nat.reduceEqDiff, Nat.reduceAdd, ↓reduceIte, reduceCtorEq])
    rw [List.take_length] at *
    exact K_int hK (by unfold leftI; split <;> omega)
end Go.Proofs.YtoocbpendccngaaGreat

/- The laws' own functions on parts: copies. -/
namespace Go.Proofs.YtoocbpendccngaaGreat
attribute [local irreducible] awp arun acalm FinP Fin AX.then AX.inBlock Again aG gsel amix amixN amixC aop aopc aopd cutK
attribute [local go_sem] aBSliceD aSlice aSliceC boundOf aMk aCall aCallC aLenL aLen aPick_t aPick_f aNil aAlloc aBox aBuild bldPV aBSlice bsPV aApp newsOf destOf drp aConvX aConv aConvInt aLoad cellsAt aStore cellsPV setAt aFld aField aIdx aIndex aUn aBin' aBin aMax aExtract pvOf PV.isCell nmbL PV.nmb List.map_cons List.map_nil List.all_cons List.all_nil Bool.and_true Bool.true_and if_true if_false List.getD_cons_zero List.getD_cons_succ List.getD_nil Option.isSome_some true_and and_true and_self eq_self true_or or_true List.drop_zero List.drop_succ_cons List.drop_nil List.take_zero List.take_succ_cons List.take_nil List.length_cons List.length_nil List.length_map Option.getD_some Option.getD_none List.nil_append List.cons_append List.append_nil Option.some.injEq exists_eq_left' List.getElem?_cons_zero List.getElem?_cons_succ Int.toNat_natCast Int.natCast_inj toNat_succ Nat.zero_add res res1 resC owns owns1 ownsC List.flatMap_cons List.flatMap_nil List.flatten_cons List.flatten_nil List.mem_cons List.not_mem_nil or_false false_or forall_eq forall_eq_or_imp isFro frz frz1 pureC tabA isBld List.cons.injEq PV.seq.injEq PV.int.injEq PV.str.injEq PV.bool.injEq PV.agg.injEq inR tab Γof aRes packR Option.map_some Option.map_none rel Prod.exists exists_and_left exists_eq_left and_assoc beq_self_eq_true Bool.not_true Bool.not_false decide_true decide_false List.set_cons_zero List.set_cons_succ rst_nil rst_cons
attribute [local go_sem ↓] evT upd_def aop aopc aopd
set_option maxRecDepth 100000
set_option linter.unusedVariables false
set_option linter.unusedSimpArgs false
open Go.RowKit
def zP : List PV := [.int .i64 0, .str [], .str [], .seq [], .seq []]
/-- Copies. -/
def toLC (n : Nat) : PC := rel (α := List PartD) (fun x => [.seq (encPs x)]) (fun x => wtL x < n ∧ okL x ∧ wtL x ≤ 1048576) (fun x => .seq (encPs x))
def toPC (n : Nat) : PC := rel (α := PartD) (fun x => [.agg (encP x)]) (fun x => wtP x < n ∧ okP x ∧ wtP x ≤ 1048576) (fun x => .agg (encP x))
theorem toP_of (n : Nat) (h : PureOk Tryz.prog 24 (toLC n)) : PureOk Tryz.prog 63 (toPC n) := by
  refine pure_rel 1 (tab_cons h tab_nil) mixed [.cell 2 93] Tryz.func63 rfl rfl (by kernel_rfl) (by kernel_rfl) (fun _ => rfl) (by kernel_rfl) ?_
  rintro ⟨kd, t, nm, ps, os⟩ K ⟨hn, hok, h1⟩ hK
  have hx2 := encP_mk kd t nm ps os
  have hw := wtP_mk kd t nm ps os
  rw [okP_mk] at hok
  simp only [hx2, hw] at *
  obtain ⟨o1, o2, o3, o4, o5, o6⟩ := hok
  clear hx2 hw
  unfold entry
  repeat' (first | ((first | apply qa1 | apply qa2 | apply qa3 | apply qh1 | apply qh2 | apply qg1 rfl | apply qcd); (try intro K hk); focus (simp only [go_sem, Nat.reduceEqDiff, Nat.reduceAdd, Nat.reduceLeDiff, Nat.reduceLT, Nat.reduceSub, Int.reduceToNat, ↓reduceIte, reduceCtorEq, toLC]; first | exact rfl | ((repeat (refine And.intro ?_ ?_; focus (first | omega | assumption | with_reducible rfl))); intros; apply hk; clear hk K))) | apply qw8 | apply qw1 | apply qw6 | apply qt1 | apply qw5 | apply qw2 | apply qw9 | apply qt2 | apply qt3 | apply qt4 | apply qt5 | apply qt6 | apply qw3 | apply qw4 | apply qj1 | apply qj2 | apply qj3 | apply qj4 | apply qj5 | apply qu1 | apply qu2 | (refine qj6 ?_ ?_ <;> intro hc <;> (try simp only [hc]) <;> (try simp only [decide_eq_true_eq, decide_eq_false_iff_not, Bool.not_eq_true', Bool.not_eq_false', Bool.not_eq_true, reduceCtorEq] at hc) <;> (try (exfalso; omega))) | (refine qt7 ?_ ?_; focus decide) | (refine qw7 ?_ ?_ ?_; (focus (decide +kernel)); (focus (decide +kernel))))
  ((first | refine fin_ret ?_ | refine fin_end ?_); simp only [go_sem, ↓upd_def, Nat.reduceEqDiff, Nat.reduceAdd, ↓reduceIte, reduceCtorEq])
  exact ⟨Nat.le_refl _, hK⟩
set_option maxHeartbeats 4000000 in
theorem toL_of (n : Nat) (h : PureOk Tryz.prog 63 (toPC n)) : PureOk Tryz.prog 24 (toLC (n + 1)) := by
  refine pure_rel 1 (tab_cons h tab_nil) mixed [.tmp 2] Tryz.func24 rfl rfl (by kernel_rfl) (by kernel_rfl) (fun _ => rfl) (by kernel_rfl) ?_
  rintro xs K ⟨hn, hok, h1⟩ hK
  have hlw := len_le_wtL xs
  unfold entry
  repeat' (first | ((first | apply qa1 | apply qa2 | apply qa3 | apply qh1 | apply qh2 | apply qg1 rfl | apply qcd); (try intro K hk); focus (simp only [go_sem, Nat.reduceEqDiff, Nat.reduceAdd, Nat.reduceLeDiff, Nat.reduceLT, Nat.reduceSub, Int.reduceToNat, ↓reduceIte, reduceCtorEq, toPC]; first | exact rfl | ((repeat (refine And.intro ?_ ?_; focus (first | omega | assumption | with_reducible rfl))); intros; apply hk; clear hk K))) | apply qw8 | apply qw1 | apply qw6 | apply qt1 | apply qw5 | apply qw2 | apply qw9 | apply qt2 | apply qt3 | apply qt4 | apply qt5 | apply qt6 | apply qw3 | apply qw4 | apply qj1 | apply qj2 | apply qj3 | apply qj4 | apply qj5 | apply qu1 | apply qu2 | (refine qj6 ?_ ?_ <;> intro hc <;> (try simp only [hc]) <;> (try simp only [decide_eq_true_eq, decide_eq_false_iff_not, Bool.not_eq_true', Bool.not_eq_false', Bool.not_eq_true, reduceCtorEq] at hc) <;> (try (exfalso; omega))) | (refine qt7 ?_ ?_; focus decide) | (refine qw7 ?_ ?_ ?_; (focus (decide +kernel)); (focus (decide +kernel))))
  refine s_loop (ι := Nat) (fun k => [(0, .seq (encPs xs)), (2, .nil), (3, .own 0), (4, .int .i64 k)]) (fun k => [(0, .row 93 5 (encPs (xs.take k) ++ List.replicate (xs.length - k) zP))]) 1 (fun k => k ≤ xs.length) (fun k => xs.length - k) 0 (by omega) (Nat.zero_le _) ?_ ?_
  · simp [fits, fitsT, fitsM, upd_def, PV.nmb, nmbL, MB.nmb, List.getD_cons_zero, List.getD_cons_succ, encPs_nil, zP]
  intro k hk
  simp only [mkS, mkT, mkM]
  have hL1 : (encPs (xs.take k)).length = k := by simp [encPs_length, hk]
  repeat' (first | ((first | apply qa1 | apply qa2 | apply qa3 | apply qh1 | apply qh2 | apply qg1 rfl | apply qcd); (try intro K hk); focus (simp only [go_sem, Nat.reduceEqDiff, Nat.reduceAdd, Nat.reduceLeDiff, Nat.reduceLT, Nat.reduceSub, Int.reduceToNat, ↓reduceIte, reduceCtorEq, toPC]; first | exact rfl | ((repeat (refine And.intro ?_ ?_; focus (first | omega | assumption | with_reducible rfl))); intros; apply hk; clear hk K))) | apply qw8 | apply qw1 | apply qw6 | apply qt1 | apply qw5 | apply qw2 | apply qw9 | apply qt2 | apply qt3 | apply qt4 | apply qt5 | apply qt6 | apply qw3 | apply qw4 | apply qj1 | apply qj2 | apply qj3 | apply qj4 | apply qj5 | apply qu1 | apply qu2 | (refine qj6 ?_ ?_ <;> intro hc <;> (try simp only [hc]) <;> (try simp only [decide_eq_true_eq, decide_eq_false_iff_not, Bool.not_eq_true', Bool.not_eq_false', Bool.not_eq_true, reduceCtorEq] at hc) <;> (try (exfalso; omega))) | (refine qt7 ?_ ?_; focus decide) | (refine qw7 ?_ ?_ ?_; (focus (decide +kernel)); (focus (decide +kernel))))
  · obtain ⟨x, hx⟩ := get_some (xs := xs) (k := k) (by omega)
    have htk := take_snoc' hx
    have ws := wtL_split hx
    have hok' := okL_get hok hx
    have hget := encPs_get xs
    have hL2 : (encPs (xs.take k) ++ List.replicate (xs.length - k) zP).length = xs.length := by simp; omega
    have hgz : (encPs (xs.take k) ++ List.replicate (xs.length - k) zP)[k]? = some zP := by
      rw [List.getElem?_append_right (by omega), List.getElem?_replicate, if_pos (by omega)]
    have hse : (encPs (xs.take k) ++ List.replicate (xs.length - k) zP).set k (encP x) = encPs (xs.take (k + 1)) ++ List.replicate (xs.length - (k + 1)) zP := by
      rw [htk, encPs_append, encPs_one, List.set_append_right _ _ (by omega), hL1, Nat.sub_self, show xs.length - k = (xs.length - (k + 1)) + 1 by omega, List.replicate_succ, List.set_cons_zero, List.append_assoc]
      rfl
    have hzl : zP.length = 5 := rfl
    have hzd : List.drop 5 zP = [] := rfl
    repeat' (first | ((first | apply qa1 | apply qa2 | apply qa3 | apply qh1 | apply qh2 | apply qg1 rfl | apply qcd); (try intro K hk); focus (simp only [go_sem, Nat.reduceEqDiff, Nat.reduceAdd, Nat.reduceLeDiff, Nat.reduceLT, Nat.reduceSub, Int.reduceToNat, ↓reduceIte, reduceCtorEq, toPC, hget, hx, hL2, hgz, hse, hzl, hzd]; first | exact rfl | ((repeat (refine And.intro ?_ ?_; focus (first | omega | assumption | with_reducible rfl))); intros; apply hk; clear hk K))) | apply qw8 | apply qw1 | apply qw6 | apply qt1 | apply qw5 | apply qw2 | apply qw9 | apply qt2 | apply qt3 | apply qt4 | apply qt5 | apply qt6 | apply qw3 | apply qw4 | apply qj1 | apply qj2 | apply qj3 | apply qj4 | apply qj5 | apply qu1 | apply qu2 | (refine qj6 ?_ ?_ <;> intro hc <;> (try simp only [hc]) <;> (try simp only [decide_eq_true_eq, decide_eq_false_iff_not, Bool.not_eq_true', Bool.not_eq_false', Bool.not_eq_true, reduceCtorEq] at hc) <;> (try (exfalso; omega))) | (refine qt7 ?_ ?_; focus decide) | (refine qw7 ?_ ?_ ?_; (focus (decide +kernel)); (focus (decide +kernel))))
    refine s_again (k + 1) ?_ ?_ ?_ <;> (first | omega | (dsimp only; omega) | skip)
    simp [fits, fitsT, fitsM, upd_def, PV.nmb, nmbL, MB.nmb, List.getD_cons_zero, List.getD_cons_succ]
  · have hk' : k = xs.length := by omega
    subst hk'
    repeat' (first | ((first | apply qa1 | apply qa2 | apply qa3 | apply qh1 | apply qh2 | apply qg1 rfl | apply qcd); (try intro K hk); focus (simp only [go_sem, Nat.reduceEqDiff, Nat.reduceAdd, Nat.reduceLeDiff, Nat.reduceLT, Nat.reduceSub, Int.reduceToNat, ↓reduceIte, reduceCtorEq]; first | exact rfl | ((repeat (refine And.intro ?_ ?_; focus (first | omega | assumption | with_reducible rfl))); intros; apply hk; clear hk K))) | apply qw8 | apply qw1 | apply qw6 | apply qt1 | apply qw5 | apply qw2 | apply qw9 | apply qt2 | apply qt3 | apply qt4 | apply qt5 | apply qt6 | apply qw3 | apply qw4 | apply qj1 | apply qj2 | apply qj3 | apply qj4 | apply qj5 | apply qu1 | apply qu2 | (refine qj6 ?_ ?_ <;> intro hc <;> (try simp only [hc]) <;> (try simp only [decide_eq_true_eq, decide_eq_false_iff_not, Bool.not_eq_true', Bool.not_eq_false', Bool.not_eq_true, reduceCtorEq] at hc) <;> (try (exfalso; omega))) | (refine qt7 ?_ ?_; focus decide) | (refine qw7 ?_ ?_ ?_; (focus (decide +kernel)); (focus (decide +kernel))))
    ((first | refine fin_ret ?_ | refine fin_end ?_); simp only [go_sem, ↓upd_def, Nat.reduceEqDiff, Nat.reduceAdd, ↓reduceIte, reduceCtorEq])
    simp
    exact hK
/-- Comparison. -/
noncomputable def eqLC (n : Nat) : PC := rel (α := List PartD × List PartD) (fun x => [.seq (encPs x.1), .seq (encPs x.2)]) (fun x => wtL x.1 < n ∧ okL x.1 ∧ okL x.2 ∧ x.1.length ≤ 9223372036854775807 ∧ x.2.length ≤ 9223372036854775807) (fun x => .bool (eqB x.1 x.2))
noncomputable def eqPC (n : Nat) : PC := rel (α := PartD × PartD) (fun x => [.agg (encP x.1), .agg (encP x.2)]) (fun x => wtP x.1 < n ∧ okP x.1 ∧ okP x.2) (fun x => .bool (eqB x.1 x.2))
set_option maxHeartbeats 4000000 in
theorem eqP_of (n : Nat) (h : PureOk Tryz.prog 26 (eqLC n)) : PureOk Tryz.prog 65 (eqPC n) := by
  refine pure_rel 2 (tab_cons h tab_nil) mixed [.tmp 4] Tryz.func65 rfl rfl (by kernel_rfl) (by kernel_rfl) (fun _ => rfl) (by kernel_rfl) ?_
  rintro ⟨⟨kd, t, nm, ps, os⟩, ⟨kd', t', nm', ps', os'⟩⟩ K ⟨hn, hok, hok'⟩ hK
  have hw := wtP_mk kd t nm ps os
  have hx2 := encP_mk kd t nm ps os
  have hx2' := encP_mk kd' t' nm' ps' os'
  rw [okP_mk] at hok hok'
  simp only [hx2, hx2', hw] at *
  obtain ⟨o1, o2, o3, o4, o5, o6⟩ := hok
  obtain ⟨o1', o2', o3', o4', o5', o6'⟩ := hok'
  clear hx2 hx2' hw
  unfold entry
  repeat' (first | ((first | apply qa1 | apply qa2 | apply qa3 | apply qh1 | apply qh2 | apply qg1 rfl | apply qcd); (try intro K hk); focus (simp only [go_sem, Nat.reduceEqDiff, Nat.reduceAdd, Nat.reduceLeDiff, Nat.reduceLT, Nat.reduceSub, Int.reduceToNat, ↓reduceIte, reduceCtorEq, eqLC]; first | exact rfl | ((repeat (refine And.intro ?_ ?_; focus (first | omega | assumption | with_reducible rfl))); intros; apply hk; clear hk K))) | apply qw8 | apply qw1 | apply qw6 | apply qt1 | apply qw5 | apply qw2 | apply qw9 | apply qt2 | apply qt3 | apply qt4 | apply qt5 | apply qt6 | apply qw3 | apply qw4 | apply qj1 | apply qj2 | apply qj3 | apply qj4 | apply qj5 | apply qu1 | apply qu2 | (refine qj6 ?_ ?_ <;> intro hc <;> (try simp only [hc]) <;> (try simp only [decide_eq_true_eq, decide_eq_false_iff_not, Bool.not_eq_true', Bool.not_eq_false', Bool.not_eq_true, reduceCtorEq] at hc) <;> (try (exfalso; omega))) | (refine qt7 ?_ ?_; focus decide) | (refine qw7 ?_ ?_ ?_; (focus (decide +kernel)); (focus (decide +kernel))))
  all_goals
    ((first | refine fin_ret ?_ | refine fin_end ?_); simp only [go_sem, ↓upd_def, Nat.reduceEqDiff, Nat.reduceAdd, ↓reduceIte, reduceCtorEq])
    refine K_bool hK ?_
    clear hK h
    first
      | exact (eqB_f.2 (by simp_all [eqB_t, eqB_f]))
      | exact (eqB_f.2 (by simp_all [eqB_t, eqB_f])).symm
      | exact (eqB_t.2 (by simp_all [eqB_t, eqB_f]))
      | exact (eqB_t.2 (by simp_all [eqB_t, eqB_f])).symm
set_option maxHeartbeats 4000000 in
theorem eqL_of (n : Nat) (h : PureOk Tryz.prog 65 (eqPC n)) : PureOk Tryz.prog 26 (eqLC (n + 1)) := by
  refine pure_rel 2 (tab_cons h tab_nil) mixed [.tmp 4] Tryz.func26 rfl rfl (by kernel_rfl) (by kernel_rfl) (fun _ => rfl) (by kernel_rfl) ?_
  rintro ⟨xs, ys⟩ K ⟨hn, hok, hok', hl, hl'⟩ hK
  dsimp only at *
  unfold entry
  repeat' (first | ((first | apply qa1 | apply qa2 | apply qa3 | apply qh1 | apply qh2 | apply qg1 rfl | apply qcd); (try intro K hk); focus (simp only [go_sem, Nat.reduceEqDiff, Nat.reduceAdd, Nat.reduceLeDiff, Nat.reduceLT, Nat.reduceSub, Int.reduceToNat, ↓reduceIte, reduceCtorEq, eqPC]; first | exact rfl | ((repeat (refine And.intro ?_ ?_; focus (first | omega | assumption | with_reducible rfl))); intros; apply hk; clear hk K))) | apply qw8 | apply qw1 | apply qw6 | apply qt1 | apply qw5 | apply qw2 | apply qw9 | apply qt2 | apply qt3 | apply qt4 | apply qt5 | apply qt6 | apply qw3 | apply qw4 | apply qj1 | apply qj2 | apply qj3 | apply qj4 | apply qj5 | apply qu1 | apply qu2 | (refine qj6 ?_ ?_ <;> intro hc <;> (try simp only [hc]) <;> (try simp only [decide_eq_true_eq, decide_eq_false_iff_not, Bool.not_eq_true', Bool.not_eq_false', Bool.not_eq_true, reduceCtorEq] at hc) <;> (try (exfalso; omega))) | (refine qt7 ?_ ?_; focus decide) | (refine qw7 ?_ ?_ ?_; (focus (decide +kernel)); (focus (decide +kernel))))
  · ((first | refine fin_ret ?_ | refine fin_end ?_); simp only [go_sem, ↓upd_def, Nat.reduceEqDiff, Nat.reduceAdd, ↓reduceIte, reduceCtorEq])
    exact K_bool hK (eqB_f.2 (fun h => by subst h; omega))
  have hcl : xs.length = ys.length := by omega
  refine s_loop (ι := Nat) (fun k => [(0, .seq (encPs xs)), (1, .seq (encPs ys)), (4, .bool false), (5, .int .i64 k)]) (fun _ => []) 0 (fun k => k ≤ xs.length ∧ xs.take k = ys.take k) (fun k => xs.length - k) 0 (by omega) (by simp) ?_ ?_
  · simp [fits, fitsT, fitsM, upd_def, PV.nmb, nmbL, MB.nmb, List.getD_cons_zero, List.getD_cons_succ]
  rintro k ⟨hk, hp⟩
  simp only [mkS, mkT, mkM]
  repeat' (first | ((first | apply qa1 | apply qa2 | apply qa3 | apply qh1 | apply qh2 | apply qg1 rfl | apply qcd); (try intro K hk); focus (simp only [go_sem, Nat.reduceEqDiff, Nat.reduceAdd, Nat.reduceLeDiff, Nat.reduceLT, Nat.reduceSub, Int.reduceToNat, ↓reduceIte, reduceCtorEq, eqPC]; first | exact rfl | ((repeat (refine And.intro ?_ ?_; focus (first | omega | assumption | with_reducible rfl))); intros; apply hk; clear hk K))) | apply qw8 | apply qw1 | apply qw6 | apply qt1 | apply qw5 | apply qw2 | apply qw9 | apply qt2 | apply qt3 | apply qt4 | apply qt5 | apply qt6 | apply qw3 | apply qw4 | apply qj1 | apply qj2 | apply qj3 | apply qj4 | apply qj5 | apply qu1 | apply qu2 | (refine qj6 ?_ ?_ <;> intro hc <;> (try simp only [hc]) <;> (try simp only [decide_eq_true_eq, decide_eq_false_iff_not, Bool.not_eq_true', Bool.not_eq_false', Bool.not_eq_true, reduceCtorEq] at hc) <;> (try (exfalso; omega))) | (refine qt7 ?_ ?_; focus decide) | (refine qw7 ?_ ?_ ?_; (focus (decide +kernel)); (focus (decide +kernel))))
  · obtain ⟨x, hx⟩ := get_some (xs := xs) (k := k) (by omega)
    obtain ⟨y, hy⟩ := get_some (xs := ys) (k := k) (by omega)
    have htk := take_snoc' hx
    have htk' := take_snoc' hy
    have ws := wtL_split hx
    have hok1 := okL_get hok hx
    have hok2 := okL_get hok' hy
    have hget := encPs_get
    repeat' (first | ((first | apply qa1 | apply qa2 | apply qa3 | apply qh1 | apply qh2 | apply qg1 rfl | apply qcd); (try intro K hk); focus (simp only [go_sem, Nat.reduceEqDiff, Nat.reduceAdd, Nat.reduceLeDiff, Nat.reduceLT, Nat.reduceSub, Int.reduceToNat, ↓reduceIte, reduceCtorEq, eqPC, hget, hx, hy]; first | exact rfl | ((repeat (refine And.intro ?_ ?_; focus (first | omega | assumption | with_reducible rfl))); intros; apply hk; clear hk K))) | apply qw8 | apply qw1 | apply qw6 | apply qt1 | apply qw5 | apply qw2 | apply qw9 | apply qt2 | apply qt3 | apply qt4 | apply qt5 | apply qt6 | apply qw3 | apply qw4 | apply qj1 | apply qj2 | apply qj3 | apply qj4 | apply qj5 | apply qu1 | apply qu2 | (refine qj6 ?_ ?_ <;> intro hc <;> (try simp only [hc]) <;> (try simp only [decide_eq_true_eq, decide_eq_false_iff_not, Bool.not_eq_true', Bool.not_eq_false', Bool.not_eq_true, reduceCtorEq] at hc) <;> (try (exfalso; omega))) | (refine qt7 ?_ ?_; focus decide) | (refine qw7 ?_ ?_ ?_; (focus (decide +kernel)); (focus (decide +kernel))))
    · have hc := eqB_f.1 ‹_›
      ((first | refine fin_ret ?_ | refine fin_end ?_); simp only [go_sem, ↓upd_def, Nat.reduceEqDiff, Nat.reduceAdd, ↓reduceIte, reduceCtorEq])
      refine K_bool hK (eqB_f.2 fun h => hc ?_)
      subst h
      rw [hx] at hy
      exact Option.some.inj hy
    · have hc := eqB_t.1 ‹_›
      subst hc
      refine s_again (k + 1) ?_ ?_ ?_ <;> (first | omega | (dsimp only; omega) | skip)
      · exact ⟨by omega, by rw [htk, htk', hp]⟩
      · simp [fits, fitsT, fitsM, upd_def, PV.nmb, nmbL, MB.nmb, List.getD_cons_zero, List.getD_cons_succ]
  · have hk' : k = xs.length := by omega
    subst hk'
    repeat' (first | ((first | apply qa1 | apply qa2 | apply qa3 | apply qh1 | apply qh2 | apply qg1 rfl | apply qcd); (try intro K hk); focus (simp only [go_sem, Nat.reduceEqDiff, Nat.reduceAdd, Nat.reduceLeDiff, Nat.reduceLT, Nat.reduceSub, Int.reduceToNat, ↓reduceIte, reduceCtorEq]; first | exact rfl | ((repeat (refine And.intro ?_ ?_; focus (first | omega | assumption | with_reducible rfl))); intros; apply hk; clear hk K))) | apply qw8 | apply qw1 | apply qw6 | apply qt1 | apply qw5 | apply qw2 | apply qw9 | apply qt2 | apply qt3 | apply qt4 | apply qt5 | apply qt6 | apply qw3 | apply qw4 | apply qj1 | apply qj2 | apply qj3 | apply qj4 | apply qj5 | apply qu1 | apply qu2 | (refine qj6 ?_ ?_ <;> intro hc <;> (try simp only [hc]) <;> (try simp only [decide_eq_true_eq, decide_eq_false_iff_not, Bool.not_eq_true', Bool.not_eq_false', Bool.not_eq_true, reduceCtorEq] at hc) <;> (try (exfalso; omega))) | (refine qt7 ?_ ?_; focus decide) | (refine qw7 ?_ ?_ ?_; (focus (decide +kernel)); (focus (decide +kernel))))
    ((first | refine fin_ret ?_ | refine fin_end ?_); simp only [go_sem, ↓upd_def, Nat.reduceEqDiff, Nat.reduceAdd, ↓reduceIte, reduceCtorEq])
    rw [List.take_length, hcl, List.take_length] at hp
    exact K_bool hK (eqB_t.2 hp)
/-- The laws' functions on parts, of any weight. -/
theorem sz_all : ∀ n, PureOk Tryz.prog 22 (szLC n) ∧ PureOk Tryz.prog 61 (szPC n) := by
  intro n
  induction n with
  | zero => exact ⟨never_rel Tryz.func22 (by kernel_rfl) (by kernel_rfl) (fun x h => by omega), szP_of 0 (never_rel Tryz.func22 (by kernel_rfl) (by kernel_rfl) (fun x h => by omega))⟩
  | succ n ih => exact ⟨szL_of n ih.2, szP_of _ (szL_of n ih.2)⟩
theorem to_all : ∀ n, PureOk Tryz.prog 24 (toLC n) ∧ PureOk Tryz.prog 63 (toPC n) := by
  intro n
  induction n with
  | zero => exact ⟨never_rel Tryz.func24 (by kernel_rfl) (by kernel_rfl) (fun x h => by omega), toP_of 0 (never_rel Tryz.func24 (by kernel_rfl) (by kernel_rfl) (fun x h => by omega))⟩
  | succ n ih => exact ⟨toL_of n ih.2, toP_of _ (toL_of n ih.2)⟩
theorem eq_all : ∀ n, PureOk Tryz.prog 26 (eqLC n) ∧ PureOk Tryz.prog 65 (eqPC n) := by
  intro n
  induction n with
  | zero => exact ⟨never_rel Tryz.func26 (by kernel_rfl) (by kernel_rfl) (fun x h => by omega), eqP_of 0 (never_rel Tryz.func26 (by kernel_rfl) (by kernel_rfl) (fun x h => by omega))⟩
  | succ n ih => exact ⟨eqL_of n ih.2, eqP_of _ (eqL_of n ih.2)⟩
#print axioms eq_all
end Go.Proofs.YtoocbpendccngaaGreat
