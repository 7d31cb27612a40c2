/- Texts as data: what the program's and the reference's functions on texts compute. No program. -/
import Derived.Test.YtnbjogilidfkdaaWF11

namespace Go.Proofs.Ytnbjogilidfkdaa
set_option maxRecDepth 100000
set_option linter.unusedVariables false
set_option linter.unusedSimpArgs false
abbrev Bs := List UInt8
def ofI (x : Int) : UInt8 := UInt8.ofNat x.toNat
@[go_sem] theorem ofI_nat (b : UInt8) : ofI (b.toNat : Int) = b := by unfold ofI; simp
theorem byte_of {x : Int} (h0 : 0 ≤ x) (h1 : x < 256) : ∃ b : UInt8, x = (b.toNat : Int) := by
  refine ⟨UInt8.ofNat x.toNat, ?_⟩
  have h : x.toNat < 256 := by omega
  rw [UInt8.toNat_ofNat_of_lt' h]
  omega
theorem byte_lt' (b : UInt8) : b.toNat < 256 := b.toNat_lt
/-- What holds of all bytes may be tried. -/
theorem all_bytes {p : UInt8 → Prop} (h : ∀ n, n < 256 → p (UInt8.ofNat n)) (b : UInt8) : p b := by
  have := h b.toNat b.toNat_lt
  rwa [UInt8.ofNat_toNat] at this
theorem getD_lt {s : Bs} {k : Nat} (h : k < s.length) : s.getD k 0 = s[k] := by simp [List.getD_eq_getElem?_getD, List.getElem?_eq_getElem h]
theorem take_succ_getD {s : Bs} {k : Nat} (h : k < s.length) : s.take (k + 1) = s.take k ++ [s.getD k 0] := by
  rw [List.take_succ_eq_append_getElem h, getD_lt h]
theorem drop_getD {s : Bs} {k : Nat} (h : k < s.length) : s.drop k = s.getD k 0 :: s.drop (k + 1) := by
  rw [getD_lt h]; exact List.drop_eq_getElem_cons h
theorem flatMap_snoc {g : UInt8 → Bs} {s : Bs} {k : Nat} (h : k < s.length) : (s.take (k + 1)).flatMap g = (s.take k).flatMap g ++ g (s.getD k 0) := by
  rw [take_succ_getD h, List.flatMap_append]; simp
theorem flatMap_len {g : UInt8 → Bs} {m : Nat} (hg : ∀ b, (g b).length ≤ m) (s : Bs) : (s.flatMap g).length ≤ m * s.length := by
  induction s with
  | nil => simp
  | cons b r ih =>
    have := hg b
    rw [List.flatMap_cons, List.length_append, List.length_cons, Nat.mul_succ]
    omega
theorem bc_inj {a b : UInt8} (h : bc a = bc b) : a = b := by
  simp only [bc, List.cons.injEq, PV.int.injEq, true_and, and_true] at h
  exact UInt8.toNat_inj.1 (by omega)
@[go_sem] theorem bc_map_inj {l m : Bs} : l.map bc = m.map bc ↔ l = m := List.map_inj_right (fun _ _ h => bc_inj h)
@[go_sem] theorem bc_one {b : UInt8} {l : Bs} : [[PV.int .u8 (b.toNat : Int)]] = l.map bc ↔ [b] = l := by
  rw [show [[PV.int .u8 (b.toNat : Int)]] = [b].map bc from rfl, bc_map_inj]
@[go_sem] theorem bc_snoc {b : UInt8} {m l : Bs} : m.map bc ++ [[PV.int .u8 (b.toNat : Int)]] = l.map bc ↔ m ++ [b] = l := by
  rw [show m.map bc ++ [[PV.int .u8 (b.toNat : Int)]] = (m ++ [b]).map bc by simp [bc], bc_map_inj]
@[go_sem] theorem bc_len (b : UInt8) : (bc b).length = 1 := rfl
@[go_sem] theorem bc_all (m : Bs) : ∀ z ∈ m.map bc, z.length = 1 := by
  intro z hz
  obtain ⟨b, _, rfl⟩ := List.mem_map.1 hz
  rfl
def isLet (b : UInt8) : Bool := decide ((97 ≤ b.toNat ∧ b.toNat ≤ 122) ∨ (65 ≤ b.toNat ∧ b.toNat ≤ 90))
def isDig (b : UInt8) : Bool := decide (48 ≤ b.toNat ∧ b.toNat ≤ 57)
def hasB (s : Bs) (b : UInt8) : Bool := s.any fun c => decide (c.toNat = b.toNat)
theorem hasB_snoc {s : Bs} {k : Nat} {b : UInt8} (h : k < s.length) : hasB (s.take (k + 1)) b = (hasB (s.take k) b || decide ((s.getD k 0).toNat = b.toNat)) := by
  unfold hasB; rw [take_succ_getD h, List.any_append]; simp
theorem hasB_at {s : Bs} {k : Nat} {b : UInt8} (h : k < s.length) (e : (s.getD k 0).toNat = b.toNat) : hasB s b = true := by
  unfold hasB; rw [List.any_eq_true]
  exact ⟨s[k], List.getElem_mem h, by rw [getD_lt h] at e; simpa using e⟩
def low1 (b : UInt8) : UInt8 := if 65 ≤ b.toNat ∧ b.toNat ≤ 90 then UInt8.ofNat (b.toNat + 32) else b
theorem low1_nat (b : UInt8) : (low1 b).toNat = if 65 ≤ b.toNat ∧ b.toNat ≤ 90 then b.toNat + 32 else b.toNat := by
  unfold low1
  split
  · rw [UInt8.toNat_ofNat_of_lt' (by show b.toNat + 32 < 256; omega)]
  · rfl
def lowS (s : Bs) : Bs := s.map low1
/-- What stands in place of a byte, or nothing. -/
def entOf (b : UInt8) : Bs :=
  if b.toNat = 38 then [38, 97, 109, 112, 59] else if b.toNat = 60 then [38, 108, 116, 59] else if b.toNat = 62 then [38, 103, 116, 59]
  else if b.toNat = 34 then [38, 113, 117, 111, 116, 59] else if b.toNat = 39 then [38, 35, 51, 57, 59] else []
def ent1 (b : UInt8) : Bs := if entOf b = [] then [b] else entOf b
theorem ent1_len (b : UInt8) : 1 ≤ (ent1 b).length ∧ (ent1 b).length ≤ 6 := by
  unfold ent1 entOf
  (repeat' split) <;> simp_all
def escT (s : Bs) : Bs := s.flatMap ent1
theorem escT_len (s : Bs) : (escT s).length ≤ 6 * s.length := flatMap_len (fun b => (ent1_len b).2) s
def specials : Bs := [38, 60, 62, 34, 39]
/-- The byte whose entity a text begins with, and how long that is. -/
def entAt (s : Bs) : UInt8 × Nat :=
  if List.isPrefixOf [38, 97, 109, 112, 59] s = true then (38, 5) else if List.isPrefixOf [38, 108, 116, 59] s = true then (60, 4) else if List.isPrefixOf [38, 103, 116, 59] s = true then (62, 4)
  else if List.isPrefixOf [38, 113, 117, 111, 116, 59] s = true then (34, 6) else if List.isPrefixOf [38, 35, 51, 57, 59] s = true then (39, 5) else (0, 0)
/-- None of the first k. -/
def noEnt (s : Bs) (k : Nat) : Prop := (1 ≤ k → List.isPrefixOf [38, 97, 109, 112, 59] s = false) ∧ (2 ≤ k → List.isPrefixOf [38, 108, 116, 59] s = false) ∧ (3 ≤ k → List.isPrefixOf [38, 103, 116, 59] s = false) ∧ (4 ≤ k → List.isPrefixOf [38, 113, 117, 111, 116, 59] s = false) ∧ (5 ≤ k → List.isPrefixOf [38, 35, 51, 57, 59] s = false)
theorem entAt_len (s : Bs) : (entAt s).2 ≤ s.length ∧ (entAt s).2 ≤ 6 := by
  have pre : ∀ p : Bs, p.isPrefixOf s = true → p.length ≤ s.length := fun p h => (List.isPrefixOf_iff_prefix.1 h).length_le
  unfold entAt
  (repeat' split) <;> (try (have := pre _ ‹_›; simp [entOf] at this)) <;> simp <;> omega
theorem entOf_len (b : UInt8) : (entOf b).length ≤ 6 := by unfold entOf; (repeat' split) <;> simp
theorem prefix_iff {p s : Bs} : p.isPrefixOf s = decide (p.length ≤ s.length ∧ s.take p.length = p) := by
  rw [Bool.eq_iff_iff, List.isPrefixOf_iff_prefix, decide_eq_true_iff]
  constructor
  · intro h; exact ⟨h.length_le, (List.prefix_iff_eq_take.1 h).symm⟩
  · rintro ⟨_, h⟩; rw [← h]; exact List.take_prefix _ _
def unF : Nat → Bs → Bs
  | 0, _ => []
  | _ + 1, [] => []
  | n + 1, b :: r => if (entAt (b :: r)).2 = 0 then b :: unF n r else (entAt (b :: r)).1 :: unF n ((b :: r).drop (entAt (b :: r)).2)
def unT (s : Bs) : Bs := unF s.length s
theorem unF_enough : ∀ (n m : Nat) (s : Bs), s.length ≤ n → s.length ≤ m → unF n s = unF m s
  | 0, m, s, h, _ => by
    obtain rfl : s = [] := List.eq_nil_of_length_eq_zero (by omega)
    cases m <;> simp [unF]
  | n + 1, 0, s, _, h => by
    obtain rfl : s = [] := List.eq_nil_of_length_eq_zero (by omega)
    simp [unF]
  | n + 1, m + 1, [], _, _ => by simp [unF]
  | n + 1, m + 1, b :: r, h, h' => by
    simp only [List.length_cons] at h h'
    simp only [unF]
    split
    · rw [unF_enough n m r (by omega) (by omega)]
    · rw [unF_enough n m _ (by simp; omega) (by simp; omega)]
theorem unT_nil : unT [] = [] := rfl
theorem unT_cons (b : UInt8) (r : Bs) : unT (b :: r) = if (entAt (b :: r)).2 = 0 then b :: unT r else (entAt (b :: r)).1 :: unT ((b :: r).drop (entAt (b :: r)).2) := by
  unfold unT
  simp only [List.length_cons, unF]
  split
  · rfl
  · rw [unF_enough _ ((b :: r).drop (entAt (b :: r)).2).length _ (by simp; omega) (Nat.le_refl _)]
theorem unF_len : ∀ (n : Nat) (s : Bs), (unF n s).length ≤ s.length
  | 0, s => by simp [unF]
  | n + 1, [] => by simp [unF]
  | n + 1, b :: r => by
    simp only [unF]
    split
    · have := unF_len n r; simp; omega
    · have := unF_len n ((b :: r).drop (entAt (b :: r)).2)
      simp only [List.length_cons, List.length_drop] at this ⊢
      omega
theorem unT_len (s : Bs) : (unT s).length ≤ s.length := unF_len _ _
end Go.Proofs.Ytnbjogilidfkdaa

/- Parts of templates: as data, their abstract cells, their weight. No program. -/
namespace Go.Proofs.Ytnbjogilidfkdaa
set_option maxRecDepth 100000
set_option linter.unusedVariables false
set_option linter.unusedSimpArgs false
open Go.RowKit
inductive PartD where
  | mk (kind : Int) (text name : List UInt8) (parts other : List PartD)
mutual
def encP : PartD → List PV
  | .mk k t n ps os => [.int .i64 k, .str t, .str n, .seq (encPs ps), .seq (encPs os)]
def encPs : List PartD → List (List PV)
  | [] => []
  | p :: ps => encP p :: encPs ps
end
@[go_sem] theorem encPs_length : ∀ xs : List PartD, (encPs xs).length = xs.length
  | [] => by simp [encPs]
  | x :: xs => by simp [encPs, encPs_length xs]
@[go_sem] theorem encP_length (x : PartD) : (encP x).length = 5 := by cases x; simp [encP]
@[go_sem] theorem encP_take (x : PartD) : List.take 5 (encP x) = encP x := by rw [List.take_of_length_le (by rw [encP_length]; exact Nat.le_refl _)]
@[go_sem] theorem encP_nmb (n : Nat) (x : PartD) : nmbL n (encP x) = true := by cases x; simp [encP, nmbL, PV.nmb]
@[go_sem] theorem encP_res (m : Nat → Option MB) (x : PartD) : (encP x).map (resC m) = encP x := by cases x; simp [encP, resC, res1]
@[go_sem] theorem encP_owns (x : PartD) : (encP x).flatMap ownsC = [] := by cases x; simp [encP, ownsC, owns1]
@[go_sem] theorem encP_isCell (x : PartD) : (encP x).all PV.isCell = true := by cases x; simp [encP, PV.isCell]
mutual
theorem encP_inj : ∀ x y : PartD, encP x = encP y → x = y
  | .mk k t n ps os, .mk k' t' n' ps' os', h => by
    simp only [encP, List.cons.injEq, PV.int.injEq, PV.str.injEq, PV.seq.injEq, and_true, true_and] at h
    obtain ⟨rfl, rfl, rfl, h1, h2⟩ := h
    rw [encPs_inj _ _ h1, encPs_inj _ _ h2]
theorem encPs_inj : ∀ xs ys : List PartD, encPs xs = encPs ys → xs = ys
  | [], [], _ => rfl
  | [], y :: ys, h => by simp [encPs] at h
  | x :: xs, [], h => by simp [encPs] at h
  | x :: xs, y :: ys, h => by
    simp only [encPs, List.cons.injEq] at h
    rw [encP_inj _ _ h.1, encPs_inj _ _ h.2]
end
@[go_sem] theorem encPs_iff {xs ys : List PartD} : encPs xs = encPs ys ↔ xs = ys := ⟨encPs_inj xs ys, fun h => by rw [h]⟩
@[go_sem] theorem encP_iff {xs ys : PartD} : encP xs = encP ys ↔ xs = ys := ⟨encP_inj xs ys, fun h => by rw [h]⟩
theorem take_snoc' {α : Type} {xs : List α} {k : Nat} {x : α} (h : xs[k]? = some x) : xs.take (k + 1) = xs.take k ++ [x] := by
  obtain ⟨h1, rfl⟩ := List.getElem?_eq_some_iff.1 h
  exact List.take_succ_eq_append_getElem h1
theorem get_some {α : Type} {xs : List α} {k : Nat} (h : k < xs.length) : ∃ x, xs[k]? = some x := ⟨xs[k], List.getElem?_eq_getElem h⟩
end Go.Proofs.Ytnbjogilidfkdaa

/- Functions that work on one block of their caller's: proved over that block alone. No program. -/
namespace Go.Proofs.Ytnbjogilidfkdaa
set_option maxRecDepth 100000
set_option linter.unusedVariables false
set_option linter.unusedSimpArgs false
open Go.RowKit
/-- The context of a call: the name 0 stands for what i stands for. -/
def Cx.one (c : Cx) (i : Nat) : Cx := ⟨c.w, c.fz, fun j => if j < 1 then c.ρ i else none⟩
theorem Names.one {c : Cx} {n i : Nat} (hn : Names c n) : Names (c.one i) 1 :=
  ⟨fun j hj => by simp only [Cx.one]; rw [if_neg (by omega)], fun j v hj => by
    simp only [Cx.one] at hj
    split at hj
    · exact hn.2 _ v hj
    · cases hj⟩
/-- Closed values stand for the same in any context of that world. -/
theorem Rep.any {u : PV} {c c' : Cx} {v : Value} (h : Rep u c v) (hc : u.nmb 0 = true) (hw : c'.w = c.w) (hf : c'.fz = c.fz) : Rep u c' v := by
  have h1 := h.to_data hc
  have : c'.data = c.data := by simp only [Cx.data, hw, hf]
  rw [← this] at h1
  exact Rep.mono _ c'.data_le h1
theorem RepL.any {us : List PV} {c c' : Cx} {vs : List Value} (h : RepL us c vs) (hc : nmbL 0 us = true) (hw : c'.w = c.w) (hf : c'.fz = c.fz) : RepL us c' vs := by
  have h1 := h.to_data hc
  have : c'.data = c.data := by simp only [Cx.data, hw, hf]
  rw [← this] at h1
  exact RepL.mono _ c'.data_le h1
theorem MRep.move {c c' : Cx} {a l : Nat} {S : Nat → Prop} : ∀ {mb : MB}, MRep c a S mb → mb.nmb 0 = true → c'.w = c.w → c'.fz = c.fz → c'.ρ l = c.ρ a → MRep c' l S mb
  | .box cs, ⟨b, t, vs, h1, h2, h3, h4⟩, hc, hw, hf, hρ => ⟨b, t, vs, by rw [hρ]; exact h1, by rw [hw]; exact h2, h3.any (by simpa [MB.nmb] using hc) hw hf, h4⟩
  | .row e s es, ⟨v, vs, h1, h2, h3, h4, h5⟩, hc, hw, hf, hρ => ⟨v, vs, by rw [hρ]; exact h1, by rw [hw]; exact h2, by
      have : c'.data = c.data := by simp only [Cx.data, hw, hf]
      rw [this]; exact h3, h4, h5⟩
  | .fro es, ⟨v, h1, h2, h3⟩, hc, hw, hf, hρ => ⟨v, by rw [hρ]; exact h1, h2.any rfl hw hf, h3⟩
  | .gen p d, ⟨v, h1, h2⟩, hc, hw, hf, hρ => ⟨v, by rw [hρ]; exact h1, by rw [hw]; exact h2⟩
theorem InvM.one {c : Cx} {mem : Mem} {i : Nat} {b : MB} (h : InvM c mem) (hi : mem i = some b) (hb : b.nmb 0 = true) : InvM (c.one i) (mkM [(0, b)]) := by
  obtain ⟨hf, S, h1, h2, h3⟩ := h
  have hm : ∀ j mb, mkM [(0, b)] j = some mb → j = 0 ∧ mb = b := by
    intro j mb hj
    simp only [mkM, upd] at hj
    split at hj
    · rename_i e; cases hj; exact ⟨e, rfl⟩
    · cases hj
  have hne : ∀ j, mkM [(0, b)] j ≠ none → j = 0 := fun j hj => by
    obtain ⟨mb, hmb⟩ := Option.ne_none_iff_exists'.1 hj
    exact (hm j mb hmb).1
  refine ⟨⟨hf.lt, hf.glob⟩, fun _ => S i, ?_, ?_, ?_⟩
  · intro j mb hj
    obtain ⟨rfl, rfl⟩ := hm j mb hj
    exact MRep.move (h1 i _ hi) hb rfl rfl (by simp [Cx.one])
  · intro j k b' hj hk hjk
    exact absurd ((hne j hj).trans (hne k hk).symm) hjk
  · intro j b' _ hs
    exact h3 i b' (by rw [hi]; simp) hs
/-- What a call over one block does to all memory: T tells which local name a global one now is. -/
theorem Step.lift {c c1 : Cx} {mem m1 mem' : Mem} {n n' k1 i : Nat} {b0 : MB} {ρ' : Nat → Option Value} (hI : InvM c mem) (hn : Names c n) (hi : mem i = some b0) (hb0 : b0.nmb 0 = true) (st : Step (c.one i) (mkM [(0, b0)]) 1 c1 m1 k1)
    (T : Nat → Option Nat) (hT : ∀ l a, T l = some a → l = i ∧ a = 0 ∨ l = n) (hinj : ∀ l l' a, T l = some a → T l' = some a → l = l')
    (hm : ∀ l mb, mem' l = some mb → (∃ a, T l = some a ∧ m1 a = some mb ∧ mb.nmb 0 = true) ∨ T l = none ∧ l ≠ i ∧ l ≠ n ∧ mem l = some mb)
    (hρ : ∀ l, l < n → ρ' l = c.ρ l) (hρn : ∀ l, n' ≤ l → ρ' l = none) (hρT : ∀ a, T n = some a → ρ' n = c1.ρ a) (hρ1 : ∀ v, ρ' n = some v → v.oneCell' = true) (hnn : n' = n ∨ n' = n + 1) :
    Step c mem n ⟨c1.w, c1.fz, ρ'⟩ mem' n' := by
  classical
  have hin : i < n := Nat.lt_of_not_le fun hle => by
    obtain ⟨_, S, h1, _, _⟩ := hI
    obtain ⟨v, hv⟩ := (h1 i b0 hi).ρ
    rw [hn.1 i hle] at hv; cases hv
  obtain ⟨hf, S, h1, h2, h3⟩ := id hI
  obtain ⟨hf1, S1, g1, g2, g3⟩ := st.inv
  have hmine : ∀ b, Mine (c.one i) (mkM [(0, b0)]) b ↔ S i b := by
    intro b
    have hr : MRep (c.one i) 0 (S i) b0 := MRep.move (h1 i _ hi) hb0 rfl rfl (by simp [Cx.one])
    constructor
    · rintro ⟨j, U, mb, hj, hR, hU⟩
      simp only [mkM, upd] at hj
      split at hj
      · rename_i e; subst e; cases hj
        have := MRep.det hR hr
        subst this
        exact hU
      · cases hj
    · intro hb
      exact ⟨0, S i, b0, by simp [mkM, upd], hr, hb⟩
  have hle : c.Le ⟨c1.w, c1.fz, ρ'⟩ := ⟨st.le.fz, fun b hb o => st.le.cell b hb o, fun l v hl => by
    have : l < n := Nat.lt_of_not_le fun hle => by rw [hn.1 l hle] at hl; cases hl
    show ρ' l = some v
    rw [hρ l this]; exact hl⟩
  have hlt : ∀ l b, mem l ≠ none → S l b → b < c.w.heap.size := by
    intro l b hl hb
    obtain ⟨mb, hmb⟩ := Option.ne_none_iff_exists'.1 hl
    exact (h1 l mb hmb).lt hb
  have hS1 : ∀ a b, m1 a ≠ none → S1 a b → S i b ∨ c.w.heap.size ≤ b := by
    intro a b ha hb
    obtain ⟨mb, hmb⟩ := Option.ne_none_iff_exists'.1 ha
    exact (st.mine b ⟨a, S1 a, mb, hmb, g1 a mb hmb, hb⟩).imp (hmine b).1 id
  -- what a global name has
  have hcase : ∀ l, mem' l ≠ none → (∃ a mb, T l = some a ∧ m1 a = some mb ∧ mem' l = some mb ∧ mb.nmb 0 = true) ∨ (T l = none ∧ l ≠ i ∧ l ≠ n ∧ mem l ≠ none ∧ mem' l = mem l) := by
    intro l hl
    obtain ⟨mb, hmb⟩ := Option.ne_none_iff_exists'.1 hl
    rcases hm l mb hmb with ⟨a, h, h', h''⟩ | ⟨h, h', h'', h'''⟩
    · exact .inl ⟨a, mb, h, h', hmb, h''⟩
    · exact .inr ⟨h, h', h'', by rw [h''']; simp, by rw [hmb, h''']⟩
  have hblk : ∀ l b, mem l ≠ none → l ≠ i → S l b → c1.w.heap[b]? = c.w.heap[b]? := by
    intro l b hl hli hb
    refine st.block b (hlt l b hl hb) (fun hm' => ?_)
    exact h2 l i b hl (by rw [hi]; simp) hli hb ((hmine b).1 hm')
  have hrep : ∀ l mb, mem' l = some mb → MRep ⟨c1.w, c1.fz, ρ'⟩ l (match T l with | some a => S1 a | none => S l) mb := by
    intro l mb hl
    rcases hm l mb hl with ⟨a, hTl, ha, hc⟩ | ⟨hTl, hli, hln, hl'⟩
    · rw [hTl]
      refine MRep.move (g1 a mb ha) hc rfl rfl ?_
      show ρ' l = c1.ρ a
      rcases hT l a hTl with ⟨rfl, rfl⟩ | rfl
      · rw [hρ l hin, st.ρ 0 (by omega)]; simp [Cx.one]
      · exact hρT a hTl
    · rw [hTl]
      exact MRep.mono hle (fun b hb => hblk l b (by rw [hl']; simp) hli hb) (h1 l mb hl')
  refine ⟨⟨⟨hf1.lt, hf1.glob⟩, _, hrep, ?_, ?_⟩, hle, st.os, st.tape, st.output, st.size, fun b hb hm' => st.block b hb (fun h => hm' ⟨i, S i, b0, hi, h1 i b0 hi, (hmine b).1 h⟩), ?_,
    fun b hb => (st.fzNew b hb).imp id (fun h => h.imp (fun h => ⟨i, S i, b0, hi, h1 i b0 hi, (hmine b).1 h⟩) id), by omega, hρ, ⟨hρn, fun l v hl => ?_⟩⟩
  · intro l l' b hl hl' hne hb hb'
    rcases hcase l hl with ⟨a, mb, e1, e2, _⟩ | ⟨e1, e2, e3, e4, _⟩ <;> rcases hcase l' hl' with ⟨a', mb', e1', e2', _⟩ | ⟨e1', e2', e3', e4', _⟩ <;> rw [e1] at hb <;> rw [e1'] at hb'
    · have : a ≠ a' := fun e => hne (hinj l l' a e1 (e ▸ e1'))
      exact g2 a a' b (by rw [e2]; simp) (by rw [e2']; simp) this hb hb'
    · rcases hS1 a b (by rw [e2]; simp) hb with h | h
      · exact h2 l' i b e4' (by rw [hi]; simp) e2' hb' h
      · have := hlt l' b e4' hb'; omega
    · rcases hS1 a' b (by rw [e2']; simp) hb' with h | h
      · exact h2 l i b e4 (by rw [hi]; simp) e2 hb h
      · have := hlt l b e4 hb; omega
    · exact h2 l l' b e4 e4' hne hb hb'
  · intro l b hl hb
    rcases hcase l hl with ⟨a, mb, e1, e2, _⟩ | ⟨e1, e2, e3, e4, _⟩ <;> rw [e1] at hb
    · exact g3 a b (by rw [e2]; simp) hb
    · intro hfz
      rcases st.fzNew b hfz with h | h | h
      · exact h3 l b e4 hb h
      · exact h2 l i b e4 (by rw [hi]; simp) e2 hb ((hmine b).1 h)
      · have h9 := hlt l b e4 hb
        have h8 : c.w.heap.size ≤ b := h
        omega
  · rintro b ⟨l, U, mb, hl, hR, hb⟩
    have e := MRep.det hR (hrep l mb hl)
    subst e
    rcases hcase l (by rw [hl]; simp) with ⟨a, mb', e1, e2, _⟩ | ⟨e1, e2, e3, e4, e5⟩ <;> rw [e1] at hb
    · exact (hS1 a b (by rw [e2]; simp) hb).imp (fun h => ⟨i, S i, b0, hi, h1 i b0 hi, h⟩) id
    · rw [hl] at e5
      exact .inl ⟨l, S l, mb, e5.symm, h1 l mb e5.symm, hb⟩
  · have hl3 : ρ' l = some v := hl
    have hl' : l < n' := Nat.lt_of_not_le fun hle => by have := hρn l hle; rw [hl3] at this; cases this
    by_cases e : l = n
    · subst e; exact hρ1 v hl
    · have hl2 : ρ' l = some v := hl
      rw [hρ l (by omega)] at hl2
      exact hn.2 l v hl2
theorem frz_not : ∀ {is : List Nat} {m : Mem} {j : Nat}, j ∉ is → frz m is j = m j
  | [], _, _, _ => rfl
  | i :: is, m, j, h => by
    show frz (frz1 m i) is j = m j
    rw [frz_not (fun h' => h (by simp [h'])), frz1_other (fun e => h (by simp [e]))]
/-- At the end: the block 0 is as b' says, and the result is plain. -/
def FinV (P : Program) (rs : List ResultVar) (K : PV → MB → Prop) : AX → AS → Prop := Fin P rs fun r mem _ => (res mem r).nmb 0 = true ∧ 0 ∉ owns r ∧ ∃ b', mem 0 = some b' ∧ b'.nmb 0 = true ∧ K (res mem r) b'
/-- At the end: the block 0 is as b' says, and the result is a row of one's own. -/
def FinO (P : Program) (rs : List ResultVar) (K : List (List PV) → MB → Prop) (e : TypeId) (s : Nat) : AX → AS → Prop := Fin P rs fun r mem _ => ∃ j es b', r = .own j ∧ j ≠ 0 ∧ mem j = some (.row e s es) ∧ mem 0 = some b' ∧ b'.nmb 0 = true ∧ K es b'
/-- At the end: the result is a row of one's own; the block 0 is gone. -/
def FinX (P : Program) (rs : List ResultVar) (K : List (List PV) → Prop) (e : TypeId) (s : Nat) : AX → AS → Prop := Fin P rs fun r mem _ => ∃ j es, r = .own j ∧ mem j = some (.row e s es) ∧ K es
theorem repL_one {c : Cx} {i n : Nat} (hn : Names c n) (hi : i < n) {us : List PV} {v : Value} {vs : List Value} {off : Nat} (h : RepL (.ref i off :: us) c (v :: vs)) (hc : nmbL 0 us = true) : RepL (.ref 0 off :: us) (c.one i) (v :: vs) := by
  rw [RepL.cons_iff] at h ⊢
  obtain ⟨x, xs, e, h1, h2⟩ := h
  refine ⟨x, xs, e, ?_, h2.any hc rfl rfl⟩
  unfold Rep at *
  obtain ⟨u, b, a1, a2, a3⟩ := h1
  exact ⟨u, b, by simp [Cx.one, a1], a2, a3⟩
/-- A function over one block that hands back plain data. -/
def locV {α : Type} (args : α → List PV) (B : α → MB) (pre : α → Prop) (post : α → PV → MB → Prop) : AC := fun as mem n K =>
  ∃ x i, as = .ref i 0 :: args x ∧ pre x ∧ mem i = some (B x) ∧ ∀ r b', post x r b' → K r (upd mem i (some b')) n
section
variable {P : Program} {Γ : Ctr} {G : PCtr} {α : Type} {args : α → List PV} {B : α → MB} {pre : α → Prop}
theorem name_lt {c : Cx} {mem : Mem} {n i : Nat} {b : MB} (hI : InvM c mem) (hn : Names c n) (hi : mem i = some b) : i < n := Nat.lt_of_not_le fun hle => by
  obtain ⟨_, S, h1, _, _⟩ := hI
  obtain ⟨v, hv⟩ := (h1 i b hi).ρ
  rw [hn.1 i hle] at hv; cases hv
theorem locV_ok {post : α → PV → MB → Prop} (m : Nat) (hΓ : ∀ f C, Γ f = some C → ACok P f C) (hG : ∀ f R, G f = some R → PureOk P f R) (hm : P.follows .mixedOrders = true) {f : FuncId} {fn : Func} {code : Code} (rs : List ResultVar) (hf : P.funcs[f]? = some fn) (hb : fn.body = some code) (hrs : fn.results.toList = rs) (hN : codeN fn.ntmps code = true)
    (hname : (fn.name == "runtime.NumGoroutine") = false) (hl : ∀ x, (args x).length + 1 = m) (hle : Nat.ble m fn.ntmps = true) (hca : ∀ x, nmbL 0 (args x) = true) (hcb : ∀ x, (B x).nmb 0 = true)
    (h : ∀ x K, pre x → (∀ r b', post x r b' → K r b') → awp P G Γ 1 code (FinV P rs K) (entry (.ref 0 0 :: args x) (mkM [(0, B x)]) 1)) : ACok P f (locV args B pre post) := by
  subst hrs
  refine ⟨⟨fn, hf, by rw [hb]; rfl, hname⟩, fun c mem n as vs K hI hn hr hC => ?_⟩
  obtain ⟨x, i, rfl, hp, hi, hK⟩ := hC
  have hin := name_lt hI hn hi
  obtain ⟨v, vs', rfl⟩ : ∃ v vs', vs = v :: vs' := by
    cases vs with
    | nil => rw [RepL.cons_iff] at hr; obtain ⟨_, _, e, _⟩ := hr; cases e
    | cons v vs' => exact ⟨v, vs', rfl⟩
  have hr1 := repL_one hn hin hr (hca x)
  refine (calls_of_body hΓ hG hm hf hb hN (hI.one hi (hcb x)) (Names.one hn) hr1 (by have := hl x; rw [List.length_cons, this]; exact Nat.le_of_ble_eq_true hle) (K := fun r mem _ => (res mem r).nmb 0 = true ∧ 0 ∉ owns r ∧ ∃ b', mem 0 = some b' ∧ b'.nmb 0 = true ∧ post x (res mem r) b') (h x (fun r b' => post x r b') hp (fun _ _ h => h))).mono ?_
  rintro e w' ⟨v', r, c1, m1, k1, rfl, rfl, ⟨hr0, hno, b', hb1, hb2, hpost⟩, st, hrep⟩
  obtain ⟨c2, e1, e2, st2⟩ := Step.frz (owns r) st.inv st.free
  have hrep2 : Rep (res m1 r) c2 v' := rep_res st2.inv (frz_fits m1 (owns r)) (Rep.mono _ st2.le hrep)
  have h0 : frz m1 (owns r) 0 = some b' := by rw [frz_not hno]; exact hb1
  have stA := st.trans st2
  refine ⟨v', _, ⟨c2.w, c2.fz, c.ρ⟩, _, _, rfl, e1, hK _ _ hpost, ?_, hrep2.any hr0 rfl rfl⟩
  refine Step.lift hI hn hi (hcb x) stA (fun l => if l = i then some 0 else none) ?_ ?_ ?_ (fun _ _ => rfl) (fun l hl => hn.1 l hl) ?_ ?_ (.inl rfl)
  · intro l a hl
    by_cases e : l = i
    · rw [if_pos e] at hl; cases hl; exact .inl ⟨e, rfl⟩
    · rw [if_neg e] at hl; cases hl
  · intro l l' a hl hl'
    by_cases e : l = i
    · by_cases e' : l' = i
      · rw [e, e']
      · rw [if_neg e'] at hl'; cases hl'
    · rw [if_neg e] at hl; cases hl
  · intro l mb hl
    by_cases e : l = i
    · subst e; rw [upd_same] at hl; cases hl; exact .inl ⟨0, if_pos rfl, h0, hb2⟩
    · rw [upd_other _ _ e] at hl
      refine .inr ⟨if_neg e, e, ?_, hl⟩
      rintro rfl
      exact absurd (name_lt hI hn hl) (Nat.lt_irrefl _)
  · intro a ha
    rw [if_neg (by omega)] at ha; cases ha
  · intro v hv; rw [hn.1 n (Nat.le_refl _)] at hv; cases hv
end
section
variable {P : Program} {rs : List ResultVar} {σ : AS}
theorem fin_V {K : PV → MB → Prop} (h : aRes P σ rs fun us => (res σ.mem (packR us)).nmb 0 = true ∧ 0 ∉ owns (packR us) ∧ ∃ b', σ.mem 0 = some b' ∧ b'.nmb 0 = true ∧ K (res σ.mem (packR us)) b') : FinV P rs K .ret σ := h
theorem fin_Ve {K : PV → MB → Prop} (h : aRes P σ rs fun us => (res σ.mem (packR us)).nmb 0 = true ∧ 0 ∉ owns (packR us) ∧ ∃ b', σ.mem 0 = some b' ∧ b'.nmb 0 = true ∧ K (res σ.mem (packR us)) b') : FinV P rs K .normal σ := h
theorem fin_O {K : List (List PV) → MB → Prop} {e : TypeId} {s : Nat} (h : aRes P σ rs fun us => ∃ j es b', packR us = .own j ∧ j ≠ 0 ∧ σ.mem j = some (.row e s es) ∧ σ.mem 0 = some b' ∧ b'.nmb 0 = true ∧ K es b') : FinO P rs K e s .ret σ := h
theorem fin_Oe {K : List (List PV) → MB → Prop} {e : TypeId} {s : Nat} (h : aRes P σ rs fun us => ∃ j es b', packR us = .own j ∧ j ≠ 0 ∧ σ.mem j = some (.row e s es) ∧ σ.mem 0 = some b' ∧ b'.nmb 0 = true ∧ K es b') : FinO P rs K e s .normal σ := h
theorem fin_X {K : List (List PV) → Prop} {e : TypeId} {s : Nat} (h : aRes P σ rs fun us => ∃ j es, packR us = .own j ∧ σ.mem j = some (.row e s es) ∧ K es) : FinX P rs K e s .ret σ := h
theorem fin_Xe {K : List (List PV) → Prop} {e : TypeId} {s : Nat} (h : aRes P σ rs fun us => ∃ j es, packR us = .own j ∧ σ.mem j = some (.row e s es) ∧ K es) : FinX P rs K e s .normal σ := h
end
end Go.Proofs.Ytnbjogilidfkdaa

/- Results that are new rows; arguments that are lent. No program. -/
namespace Go.Proofs.Ytnbjogilidfkdaa
set_option maxRecDepth 100000
set_option linter.unusedVariables false
set_option linter.unusedSimpArgs false
open Go.RowKit
/-- A value without memory. -/
def plainU : PV → Bool
  | .int .. | .bool _ | .str _ => true
  | _ => false
def plainV : PV → Bool
  | .agg cs => cs.all plainU
  | .tup cs => cs.all plainU
  | u => plainU u
section
variable {P : Program}
variable {Γ : Ctr} {G : PCtr} {α : Type} {args : α → List PV} {pre : α → Prop}
end
end Go.Proofs.Ytnbjogilidfkdaa

/- Functions over one lent block, whatever their arguments; a variable that holds a row, as one block. No program. -/
namespace Go.Proofs.Ytnbjogilidfkdaa
set_option maxRecDepth 100000
set_option linter.unusedVariables false
set_option linter.unusedSimpArgs false
open Go.RowKit
section
variable {P : Program} {Γ : Ctr} {G : PCtr} {α : Type} {args : α → List PV} {B : α → MB} {pre : α → Prop}
end
section
variable {P : Program} {Γ : Ctr} {G : PCtr} {α : Type} {args : α → List PV} {B : α → List (List PV)} {pre : α → Prop}
/-- At the end: the variable holds a row, and the result is plain. -/
def FinB (P : Program) (rs : List ResultVar) (K : PV → List (List PV) → Prop) (e : TypeId) (s : Nat) : AX → AS → Prop := Fin P rs fun r mem _ => plainV r = true ∧ ∃ k es, mem 0 = some (.box [.own k]) ∧ mem k = some (.row e s es) ∧ es.all (·.all plainU) = true ∧ K r es
theorem fin_B {rs : List ResultVar} {σ : AS} {K : PV → List (List PV) → Prop} {e : TypeId} {s : Nat} (h : aRes P σ rs fun us => plainV (packR us) = true ∧ ∃ k es, σ.mem 0 = some (.box [.own k]) ∧ σ.mem k = some (.row e s es) ∧ es.all (·.all plainU) = true ∧ K (packR us) es) : FinB P rs K e s .ret σ := h
theorem fin_Be {rs : List ResultVar} {σ : AS} {K : PV → List (List PV) → Prop} {e : TypeId} {s : Nat} (h : aRes P σ rs fun us => plainV (packR us) = true ∧ ∃ k es, σ.mem 0 = some (.box [.own k]) ∧ σ.mem k = some (.row e s es) ∧ es.all (·.all plainU) = true ∧ K (packR us) es) : FinB P rs K e s .normal σ := h
end
end Go.Proofs.Ytnbjogilidfkdaa
