/- The plain law: valid parts of the same text are the same. -/
import Derived.Test.YtoocbpendccngaaZX12

namespace Go.Proofs.Ytoocbpendccngaa
set_option maxRecDepth 100000
set_option linter.unusedVariables false
set_option linter.unusedSimpArgs false
open Go.RowKit
def tagT (w : Bs) : Bs := 123 :: 123 :: (w ++ [125, 125])
def wEnd : Bs := [101, 110, 100]
def wElse : Bs := [101, 108, 115, 101]
def wEach (n : Bs) : Bs := 101 :: 97 :: 99 :: 104 :: 32 :: n
def wIf (n : Bs) : Bs := 105 :: 102 :: 32 :: n
/-- What may stand behind parts. -/
def Rest (r : Bs) : Prop := r = [] ∨ (∃ z, r = tagT wEnd ++ z) ∨ ∃ z, r = tagT wElse ++ z
/-- A word of a tag. -/
def Wd (w : Bs) : Prop := (125 : UInt8) ∉ w
theorem tag_inj {w w' z z' : Bs} (h1 : Wd w) (h2 : Wd w') (h : tagT w ++ z = tagT w' ++ z') : w = w' ∧ z = z' := by
  have h : w ++ 125 :: (125 :: z) = w' ++ 125 :: (125 :: z') := by simpa [tagT] using h
  rcases List.append_eq_append_iff.1 h with ⟨us, e1, e2⟩ | ⟨bs, e1, e2⟩
  · cases us with
    | nil => simp at e1 e2; exact ⟨e1.symm, e2⟩
    | cons a us =>
      simp only [List.cons_append, List.cons.injEq] at e2
      exact absurd (by rw [e1, ← e2.1]; simp) h2
  · cases bs with
    | nil => simp at e1 e2; exact ⟨e1, e2.symm⟩
    | cons a us =>
      simp only [List.cons_append, List.cons.injEq] at e2
      exact absurd (by rw [e1, ← e2.1]; simp) h1
/-- Starts with "{{", or is empty. -/
def Opn (s : Bs) : Prop := s = [] ∨ ∃ z, s = 123 :: 123 :: z
theorem opn_rest {r : Bs} (h : Rest r) : Opn r := by
  rcases h with rfl | ⟨z, rfl⟩ | ⟨z, rfl⟩
  · exact .inl rfl
  · exact .inr ⟨_, rfl⟩
  · exact .inr ⟨_, rfl⟩
theorem dbl_mid {c : UInt8} : ∀ (a : Bs) (b : Bs), dbl c (a ++ c :: c :: b) = true
  | [], b => by simp [dbl]
  | x :: a, b => by
    have ih := dbl_mid (c := c) a b
    cases a with
    | nil => simp only [List.cons_append, List.nil_append] at *; rw [dbl, ih]; simp
    | cons y a => simp only [List.cons_append] at *; rw [dbl, ih]; simp
structure TxtOk (t : Bs) : Prop where
  ne : t ≠ []
  no : dbl 123 t = false
  first : t.getD 0 0 ≠ 123
  last : t.getD (t.length - 1) 0 ≠ 123
theorem last_snoc (t : Bs) (c : UInt8) : (t ++ [c]).getD ((t ++ [c]).length - 1) 0 = c := by
  simp [List.getD_eq_getElem?_getD]
theorem text_inj {t t' s s' : Bs} (h1 : TxtOk t) (h2 : TxtOk t') (hs : Opn s) (hs' : Opn s') (h : t ++ s = t' ++ s') : t = t' ∧ s = s' := by
  have key : ∀ {t t' s s' u : Bs}, TxtOk t' → Opn s → t' = t ++ u → s = u ++ s' → u = [] := by
    intro t t' s s' u h2 hs e1 e2
    rcases hs with rfl | ⟨z, rfl⟩
    · cases u with
      | nil => rfl
      | cons a u => simp at e2
    · cases u with
      | nil => rfl
      | cons a u =>
        exfalso
        cases u with
        | nil =>
          simp only [List.cons_append, List.nil_append, List.cons.injEq] at e2
          have := h2.last
          rw [e1, ← e2.1, last_snoc] at this
          exact this rfl
        | cons b u =>
          simp only [List.cons_append, List.cons.injEq] at e2
          have := h2.no
          rw [e1, ← e2.1, ← e2.2.1, dbl_mid] at this
          cases this
  rcases List.append_eq_append_iff.1 h with ⟨us, e1, e2⟩ | ⟨bs, e1, e2⟩
  · have := key h2 hs e1 e2
    subst this
    simp at e1 e2
    exact ⟨e1.symm, e2⟩
  · have := key h1 hs' e1 e2
    subst this
    simp at e1 e2
    exact ⟨e1, e2.symm⟩
theorem text_open {t s z : Bs} (h : TxtOk t) (hs : Opn z) (e : t ++ s = z) : False := by
  obtain ⟨h1, _, h2, _⟩ := h
  cases t with
  | nil => exact h1 rfl
  | cons a t =>
    rcases hs with rfl | ⟨z, rfl⟩
    · simp at e
    · simp only [List.cons_append, List.cons.injEq] at e
      exact h2 (by simp [e.1])
theorem txtB_ok {t : Bs} (h : txtB t = true) : TxtOk t := by
  unfold txtB edgeT at h
  simp only [Bool.and_eq_true, Bool.not_eq_true', decide_eq_false_iff_not, Bool.or_eq_false_iff] at h
  obtain ⟨⟨⟨⟨_, h1⟩, h2⟩, _⟩, h3, h4⟩ := h
  refine ⟨h1, h2, fun e => ?_, fun e => ?_⟩
  · rw [e] at h3; exact absurd h3 (by decide)
  · rw [e] at h4; exact absurd h4 (by decide)
theorem nameB_all {n : Bs} (h : nameB n = true) : n ≠ [] ∧ ∀ b ∈ n, b ≠ 125 ∧ b ≠ 32 := by
  unfold nameB at h
  simp only [Bool.and_eq_true, decide_eq_true_eq] at h
  refine ⟨fun e => by subst e; simp at h, fun b hb => ?_⟩
  have h2 := h.2
  have := List.all_eq_true.1 h2 b hb
  constructor
  · intro e; rw [e] at this; exact absurd this (by decide)
  · intro e; rw [e] at this; exact absurd this (by decide)
/-- A valid part, seen. -/
inductive Vw (d : Nat) : PartD → Prop
  | text {t : Bs} : TxtOk t → Vw d (.mk 1 t [] [] [])
  | hole {n : Bs} : nameB n = true → n ≠ wEnd → n ≠ wElse → Vw d (.mk 2 [] n [] [])
  | each {n : Bs} {ps : List PartD} : nameB n = true → gdL (d - 1) false ps = true → Vw d (.mk 4 [] n ps [])
  | cond {n : Bs} {ps os : List PartD} : nameB n = true → gdL (d - 1) false ps = true → gdL (d - 1) false os = true → Vw d (.mk 3 [] n ps os)
theorem view {d : Nat} : ∀ {x : PartD}, gdP d x = true → Vw d x
  | .mk k t n ps os, h => by
    rw [gdP_mk] at h
    split at h
    · rename_i e
      simp only [Bool.and_eq_true, decide_eq_true_eq] at h
      obtain ⟨⟨⟨h1, rfl⟩, rfl⟩, rfl⟩ := h
      subst e
      exact .text (txtB_ok h1)
    split at h
    · rename_i e
      simp only [Bool.and_eq_true, decide_eq_true_eq, Bool.not_eq_true'] at h
      obtain ⟨⟨⟨⟨h1, h2⟩, rfl⟩, rfl⟩, rfl⟩ := h
      subst e
      refine .hole h1 (fun e => ?_) (fun e => ?_) <;> · subst e; exact absurd h2 (by decide)
    split at h
    · rename_i e
      simp only [Bool.and_eq_true, decide_eq_true_eq, Bool.not_eq_true', Bool.and_eq_false_iff, decide_eq_false_iff_not, Bool.not_eq_false'] at h
      obtain ⟨⟨⟨⟨⟨h1, rfl⟩, h2⟩, _⟩, h3⟩, h4⟩ := h
      rcases e with rfl | rfl
      · exact .cond h1 h3 h4
      · have : os = [] := by rcases h2 with h2 | h2 <;> simp_all
        subst this
        exact .each h1 h3
    · cases h
theorem txt_text (t : Bs) : txtP (.mk 1 t [] [] []) = t := by rw [txtP_mk, if_pos rfl]
theorem txt_hole (n : Bs) : txtP (.mk 2 [] n [] []) = tagT n := by rw [txtP_mk, if_neg (by decide), if_pos rfl]; simp [tagT]
theorem txt_each (n : Bs) (ps : List PartD) : txtP (.mk 4 [] n ps []) = tagT (wEach n) ++ (txtL ps ++ (tagT wEnd ++ [])) := by
  rw [txtP_mk, if_neg (by decide), if_neg (by decide), if_pos rfl]; simp [tagT, wEach, wEnd]
theorem txt_cond (n : Bs) (ps os : List PartD) : txtP (.mk 3 [] n ps os) = tagT (wIf n) ++ (txtL ps ++ (if os = [] then tagT wEnd else tagT wElse ++ (txtL os ++ (tagT wEnd ++ [])))) := by
  rw [txtP_mk, if_neg (by decide), if_neg (by decide), if_neg (by decide), if_pos rfl]
  split <;> simp [tagT, wIf, wEnd, wElse]
theorem wd_name {n : Bs} (h : nameB n = true) : Wd n := fun hm => ((nameB_all h).2 _ hm).1 rfl
theorem wd_each {n : Bs} (h : nameB n = true) : Wd (wEach n) := by
  have := wd_name h
  unfold Wd wEach at *
  simp [this]
theorem wd_if {n : Bs} (h : nameB n = true) : Wd (wIf n) := by
  have := wd_name h
  unfold Wd wIf at *
  simp [this]
theorem wd_end : Wd wEnd := by unfold Wd wEnd; decide
theorem wd_else : Wd wElse := by unfold Wd wElse; decide
theorem no_sp {n : Bs} (h : nameB n = true) : (32 : UInt8) ∉ n := fun hm => ((nameB_all h).2 _ hm).2 rfl
theorem opn_parts {d : Nat} {b : Bool} {xs : List PartD} {r : Bs} (h : gdL d true xs = true) (hr : Rest r) : Opn (txtL xs ++ r) := by
  cases xs with
  | nil => rw [txtL_nil]; exact opn_rest hr
  | cons x xs =>
    rw [gdL] at h
    simp only [Bool.and_eq_true, Bool.true_and, Bool.not_eq_true', decide_eq_false_iff_not] at h
    have hv := view h.1.1
    rw [txtL_cons]
    cases hv with
    | text _ => exact absurd rfl h.1.2
    | hole _ => rw [txt_hole]; exact .inr ⟨_, rfl⟩
    | each _ => rw [txt_each]; exact .inr ⟨_, rfl⟩
    | cond _ => rw [txt_cond]; exact .inr ⟨_, rfl⟩
theorem name_each {n m : Bs} (h : nameB n = true) : n ≠ wEach m := by
  rintro rfl; exact no_sp h (by simp [wEach])
theorem name_if {n m : Bs} (h : nameB n = true) : n ≠ wIf m := by
  rintro rfl; exact no_sp h (by simp [wIf])
theorem rest_tag {r z w : Bs} (hw : Wd w) (h1 : w ≠ wEnd) (h2 : w ≠ wElse) (hr : Rest r) (h : r = tagT w ++ z) : False := by
  rcases hr with rfl | ⟨y, rfl⟩ | ⟨y, rfl⟩
  · simp [tagT] at h
  · exact h1 (tag_inj wd_end hw h).1.symm
  · exact h2 (tag_inj wd_else hw h).1.symm
theorem each_end (n : Bs) : wEach n ≠ wEnd := by simp [wEach, wEnd]
theorem each_else (n : Bs) : wEach n ≠ wElse := by simp [wEach, wElse]
theorem if_end (n : Bs) : wIf n ≠ wEnd := by simp [wIf, wEnd]
theorem if_else (n : Bs) : wIf n ≠ wElse := by simp [wIf, wElse]
theorem each_if (n m : Bs) : wEach n ≠ wIf m := by simp [wEach, wIf]
theorem end_else : wEnd ≠ wElse := by decide
/-- A part that is no text stands not at the end. -/
theorem rest_part {d : Nat} {x : PartD} {r s : Bs} (hv : Vw d x) (hr : Rest r) (h : r = txtP x ++ s) : False := by
  cases hv with
  | text ht => rw [txt_text] at h; exact text_open ht (opn_rest hr) h.symm
  | hole h1 h2 h3 => rw [txt_hole] at h; exact rest_tag (wd_name h1) h2 h3 hr h
  | each h1 => rw [txt_each, List.append_assoc] at h; exact rest_tag (wd_each h1) (each_end _) (each_else _) hr h
  | cond h1 => rw [txt_cond, List.append_assoc] at h; exact rest_tag (wd_if h1) (if_end _) (if_else _) hr h
theorem opn_part {d : Nat} {x : PartD} {s : Bs} (hv : Vw d x) (hk : x.kind ≠ 1) : Opn (txtP x ++ s) := by
  cases hv with
  | text _ => exact absurd rfl hk
  | hole _ => rw [txt_hole]; exact .inr ⟨_, rfl⟩
  | each _ => rw [txt_each]; exact .inr ⟨_, rfl⟩
  | cond _ => rw [txt_cond]; exact .inr ⟨_, rfl⟩
theorem txt_inj : ∀ (n : Nat) (xs ys : List PartD) (d d' : Nat) (b b' : Bool) (r r' : Bs), wtL xs < n → gdL d b xs = true → gdL d' b' ys = true → Rest r → Rest r' →
    txtL xs ++ r = txtL ys ++ r' → xs = ys ∧ r = r' := by
  intro n
  induction n with
  | zero => intro xs _ _ _ _ _ _ _ h; omega
  | succ n ih =>
  intro xs ys d d' b b' r r' hn hg hg' hr hr' h
  cases xs with
  | nil =>
    cases ys with
    | nil => rw [txtL_nil] at h; exact ⟨rfl, h⟩
    | cons y ys =>
      exfalso
      rw [gdL] at hg'
      simp only [Bool.and_eq_true] at hg'
      rw [txtL_nil, txtL_cons, List.append_assoc, List.nil_append] at h
      exact rest_part (view hg'.1.1) hr h
  | cons x xs =>
    rw [gdL] at hg
    simp only [Bool.and_eq_true] at hg
    have hv := view hg.1.1
    cases ys with
    | nil =>
      exfalso
      rw [txtL_nil, txtL_cons, List.append_assoc, List.nil_append] at h
      exact rest_part hv hr' h.symm
    | cons y ys =>
      rw [gdL] at hg'
      simp only [Bool.and_eq_true] at hg'
      have hv' := view hg'.1.1
      have hw : wtL (x :: xs) = 1 + wtP x + wtL xs := by rw [show x :: xs = [x] ++ xs from rfl, wtL_append, wtL_one]
      rw [txtL_cons, txtL_cons, List.append_assoc, List.append_assoc] at h
      have next : ∀ {r r'}, Rest r → Rest r' → txtL xs ++ r = txtL ys ++ r' → xs = ys ∧ r = r' := fun hr hr' e => ih xs ys _ _ _ _ _ _ (by omega) hg.2 hg'.2 hr hr' e
      have hq : y.kind ≠ 1 → Opn (txtP y ++ (txtL ys ++ r')) := opn_part hv'
      have hqx : x.kind ≠ 1 → Opn (txtP x ++ (txtL xs ++ r)) := opn_part hv
      cases hv with
      | @text t ht =>
        cases hv' with
        | @text t' ht' =>
          rw [txt_text, txt_text] at h
          have o1 := opn_parts (d := d) (b := true) hg.2 hr
          have o2 := opn_parts (d := d') (b := true) hg'.2 hr'
          obtain ⟨e1, e2⟩ := text_inj ht ht' o1 o2 h
          obtain ⟨e3, e4⟩ := next hr hr' e2
          exact ⟨by rw [e1, e3], e4⟩
        | hole _ => rw [txt_text] at h; exact (text_open ht (hq (by simp [PartD.kind])) h).elim
        | each _ => rw [txt_text] at h; exact (text_open ht (hq (by simp [PartD.kind])) h).elim
        | cond _ => rw [txt_text] at h; exact (text_open ht (hq (by simp [PartD.kind])) h).elim
      | @hole m hm m1 m2 =>
        cases hv' with
        | text ht => rw [txt_text] at h; exact (text_open ht (hqx (by simp [PartD.kind])) h.symm).elim
        | hole hm' _ _ =>
          rw [txt_hole, txt_hole] at h
          obtain ⟨e1, e2⟩ := tag_inj (wd_name hm) (wd_name hm') h
          obtain ⟨e3, e4⟩ := next hr hr' e2
          exact ⟨by rw [e1, e3], e4⟩
        | each hm' _ =>
          rw [txt_hole, txt_each] at h; simp only [List.append_assoc, List.nil_append] at h
          exact (name_each hm (tag_inj (wd_name hm) (wd_each hm') h).1).elim
        | cond hm' _ _ =>
          rw [txt_hole, txt_cond] at h; simp only [List.append_assoc, List.nil_append] at h
          exact (name_if hm (tag_inj (wd_name hm) (wd_if hm') h).1).elim
      | @each m ps hm hp =>
        rw [wtP_mk] at hw
        cases hv' with
        | text ht => rw [txt_text] at h; exact (text_open ht (hqx (by simp [PartD.kind])) h.symm).elim
        | hole hm' _ _ =>
          rw [txt_hole, txt_each] at h; simp only [List.append_assoc, List.nil_append] at h
          exact (name_each hm' (tag_inj (wd_each hm) (wd_name hm') h).1.symm).elim
        | @each m' ps' hm' hp' =>
          rw [txt_each, txt_each] at h; simp only [List.append_assoc, List.nil_append] at h
          obtain ⟨e1, e2⟩ := tag_inj (wd_each hm) (wd_each hm') h
          obtain ⟨e3, e4⟩ := ih ps ps' _ _ _ _ _ _ (by omega) hp hp' (.inr (.inl ⟨_, rfl⟩)) (.inr (.inl ⟨_, rfl⟩)) e2
          have e5 := (tag_inj wd_end wd_end e4).2
          obtain ⟨e6, e7⟩ := next hr hr' (by simpa using e5)
          have e8 : m = m' := by simpa [wEach] using e1
          exact ⟨by rw [e8, e3, e6], e7⟩
        | cond hm' _ _ =>
          rw [txt_each, txt_cond] at h; simp only [List.append_assoc, List.nil_append] at h
          exact (each_if _ _ (tag_inj (wd_each hm) (wd_if hm') h).1).elim
      | @cond m ps os hm hp ho =>
        rw [wtP_mk] at hw
        cases hv' with
        | text ht => rw [txt_text] at h; exact (text_open ht (hqx (by simp [PartD.kind])) h.symm).elim
        | hole hm' _ _ =>
          rw [txt_hole, txt_cond] at h; simp only [List.append_assoc, List.nil_append] at h
          exact (name_if hm' (tag_inj (wd_if hm) (wd_name hm') h).1.symm).elim
        | each hm' _ =>
          rw [txt_each, txt_cond] at h; simp only [List.append_assoc, List.nil_append] at h
          exact (each_if _ _ (tag_inj (wd_if hm) (wd_each hm') h).1.symm).elim
        | @cond m' ps' os' hm' hp' ho' =>
          rw [txt_cond, txt_cond] at h; simp only [List.append_assoc, List.nil_append] at h
          obtain ⟨e1, e2⟩ := tag_inj (wd_if hm) (wd_if hm') h
          have e8 : m = m' := by simpa [wIf] using e1
          by_cases h0 : os = []
          · by_cases h0' : os' = []
            · rw [if_pos h0, if_pos h0'] at e2
              (try simp only [List.append_assoc, List.nil_append] at e2)
              obtain ⟨e3, e4⟩ := ih ps ps' _ _ _ _ _ _ (by omega) hp hp' (.inr (.inl ⟨_, rfl⟩)) (.inr (.inl ⟨_, rfl⟩)) e2
              obtain ⟨e6, e7⟩ := next hr hr' (tag_inj wd_end wd_end e4).2
              exact ⟨by rw [e8, e3, e6, h0, h0'], e7⟩
            · rw [if_pos h0, if_neg h0'] at e2
              (try simp only [List.append_assoc, List.nil_append] at e2)
              obtain ⟨e3, e4⟩ := ih ps ps' _ _ _ _ _ _ (by omega) hp hp' (.inr (.inl ⟨_, rfl⟩)) (.inr (.inr ⟨_, rfl⟩)) e2
              exact (end_else (tag_inj wd_end wd_else e4).1).elim
          · by_cases h0' : os' = []
            · rw [if_neg h0, if_pos h0'] at e2
              (try simp only [List.append_assoc, List.nil_append] at e2)
              obtain ⟨e3, e4⟩ := ih ps ps' _ _ _ _ _ _ (by omega) hp hp' (.inr (.inr ⟨_, rfl⟩)) (.inr (.inl ⟨_, rfl⟩)) e2
              exact (end_else (tag_inj wd_else wd_end e4).1.symm).elim
            · rw [if_neg h0, if_neg h0'] at e2
              (try simp only [List.append_assoc, List.nil_append] at e2)
              obtain ⟨e3, e4⟩ := ih ps ps' _ _ _ _ _ _ (by omega) hp hp' (.inr (.inr ⟨_, rfl⟩)) (.inr (.inr ⟨_, rfl⟩)) e2
              obtain ⟨f1, f2⟩ := ih os os' _ _ _ _ _ _ (by omega) ho ho' (.inr (.inl ⟨_, rfl⟩)) (.inr (.inl ⟨_, rfl⟩)) (tag_inj wd_else wd_else e4).2
              have e5 := (tag_inj wd_end wd_end f2).2
              obtain ⟨e6, e7⟩ := next hr hr' (by simpa using e5)
              exact ⟨by rw [e8, e3, e6, f1], e7⟩
theorem txtL_inj {xs ys : List PartD} (h : partsB xs = true) (h' : partsB ys = true) (e : txtL xs = txtL ys) : xs = ys := by
  unfold partsB at *
  simp only [Bool.and_eq_true] at *
  exact (txt_inj _ xs ys 3 3 false false [] [] (Nat.lt_succ_self _) h.2 h'.2 (.inl rfl) (.inl rfl) (by rw [e])).1
end Go.Proofs.Ytoocbpendccngaa
