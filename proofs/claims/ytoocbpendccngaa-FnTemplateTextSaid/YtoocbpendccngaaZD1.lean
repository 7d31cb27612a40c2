/- Texts as data: what the program's and the reference's functions on texts compute. No program. -/
import Derived.Test.YtoocbpendccngaaZF12

namespace Go.Proofs.Ytoocbpendccngaa
set_option maxRecDepth 100000
set_option linter.unusedVariables false
set_option linter.unusedSimpArgs false
abbrev Bs := List UInt8
def ofI (x : Int) : UInt8 := UInt8.ofNat x.toNat
@[go_sem] theorem ofI_nat (b : UInt8) : ofI (b.toNat : Int) = b := by unfold ofI; simp
theorem byte_of {x : Int} (h0 : 0 ≤ x) (h1 : x < 256) : ∃ b : UInt8, x = (b.toNat : Int) := by
  refine ⟨UInt8.ofNat x.toNat, ?_⟩
  have h : x.toNat < 256 := by omega
  rw [UInt8.toNat_ofNat_of_lt' h]
  omega
theorem getD_lt {s : Bs} {k : Nat} (h : k < s.length) : s.getD k 0 = s[k] := by simp [List.getD_eq_getElem?_getD, List.getElem?_eq_getElem h]
theorem take_succ_getD {s : Bs} {k : Nat} (h : k < s.length) : s.take (k + 1) = s.take k ++ [s.getD k 0] := by
  rw [List.take_succ_eq_append_getElem h, getD_lt h]
theorem drop_getD {s : Bs} {k : Nat} (h : k < s.length) : s.drop k = s.getD k 0 :: s.drop (k + 1) := by
  rw [getD_lt h]; exact List.drop_eq_getElem_cons h
theorem bc_inj {a b : UInt8} (h : bc a = bc b) : a = b := by
  simp only [bc, List.cons.injEq, PV.int.injEq, true_and, and_true] at h
  exact UInt8.toNat_inj.1 (by omega)
@[go_sem] theorem bc_map_inj {l m : Bs} : l.map bc = m.map bc ↔ l = m := List.map_inj_right (fun _ _ h => bc_inj h)
@[go_sem] theorem bc_one {b : UInt8} {l : Bs} : [[PV.int .u8 (b.toNat : Int)]] = l.map bc ↔ [b] = l := by
  rw [show [[PV.int .u8 (b.toNat : Int)]] = [b].map bc from rfl, bc_map_inj]
@[go_sem] theorem bc_snoc {b : UInt8} {m l : Bs} : m.map bc ++ [[PV.int .u8 (b.toNat : Int)]] = l.map bc ↔ m ++ [b] = l := by
  rw [show m.map bc ++ [[PV.int .u8 (b.toNat : Int)]] = (m ++ [b]).map bc by simp [bc], bc_map_inj]
@[go_sem] theorem bc_len (b : UInt8) : (bc b).length = 1 := rfl
@[go_sem] theorem bc_all (m : Bs) : ∀ z ∈ m.map bc, z.length = 1 := by
  intro z hz
  obtain ⟨b, _, rfl⟩ := List.mem_map.1 hz
  rfl
def isLet (b : UInt8) : Bool := decide ((97 ≤ b.toNat ∧ b.toNat ≤ 122) ∨ (65 ≤ b.toNat ∧ b.toNat ≤ 90))
def isDig (b : UInt8) : Bool := decide (48 ≤ b.toNat ∧ b.toNat ≤ 57)
def hasB (s : Bs) (b : UInt8) : Bool := s.any fun c => decide (c.toNat = b.toNat)
theorem hasB_snoc {s : Bs} {k : Nat} {b : UInt8} (h : k < s.length) : hasB (s.take (k + 1)) b = (hasB (s.take k) b || decide ((s.getD k 0).toNat = b.toNat)) := by
  unfold hasB; rw [take_succ_getD h, List.any_append]; simp
theorem hasB_at {s : Bs} {k : Nat} {b : UInt8} (h : k < s.length) (e : (s.getD k 0).toNat = b.toNat) : hasB s b = true := by
  unfold hasB; rw [List.any_eq_true]
  exact ⟨s[k], List.getElem_mem h, by rw [getD_lt h] at e; simpa using e⟩
def low1 (b : UInt8) : UInt8 := if 65 ≤ b.toNat ∧ b.toNat ≤ 90 then UInt8.ofNat (b.toNat + 32) else b
theorem low1_nat (b : UInt8) : (low1 b).toNat = if 65 ≤ b.toNat ∧ b.toNat ≤ 90 then b.toNat + 32 else b.toNat := by
  unfold low1
  split
  · rw [UInt8.toNat_ofNat_of_lt' (by show b.toNat + 32 < 256; omega)]
  · rfl
def lowS (s : Bs) : Bs := s.map low1
theorem prefix_iff {p s : Bs} : p.isPrefixOf s = decide (p.length ≤ s.length ∧ s.take p.length = p) := by
  rw [Bool.eq_iff_iff, List.isPrefixOf_iff_prefix, decide_eq_true_iff]
  constructor
  · intro h; exact ⟨h.length_le, (List.prefix_iff_eq_take.1 h).symm⟩
  · rintro ⟨_, h⟩; rw [← h]; exact List.take_prefix _ _
end Go.Proofs.Ytoocbpendccngaa

/- Parts of templates: as data, their abstract cells, their weight. No program. -/
namespace Go.Proofs.Ytoocbpendccngaa
set_option maxRecDepth 100000
set_option linter.unusedVariables false
set_option linter.unusedSimpArgs false
open Go.RowKit
inductive PartD where
  | mk (kind : Int) (text name : List UInt8) (parts other : List PartD)
mutual
def encP : PartD → List PV
  | .mk k t n ps os => [.int .i64 k, .str t, .str n, .seq (encPs ps), .seq (encPs os)]
def encPs : List PartD → List (List PV)
  | [] => []
  | p :: ps => encP p :: encPs ps
end
mutual
def wtP : PartD → Nat
  | .mk _ t n ps os => t.length + n.length + wtL ps + wtL os
def wtL : List PartD → Nat
  | [] => 0
  | x :: xs => 1 + wtP x + wtL xs
end
mutual
/-- Lengths are lengths. -/
def okP : PartD → Prop
  | .mk _ t n ps os => t.length ≤ 9223372036854775807 ∧ n.length ≤ 9223372036854775807 ∧ ps.length ≤ 9223372036854775807 ∧ os.length ≤ 9223372036854775807 ∧ okL ps ∧ okL os
def okL : List PartD → Prop
  | [] => True
  | x :: xs => okP x ∧ okL xs
end
@[go_sem] theorem encPs_length : ∀ xs : List PartD, (encPs xs).length = xs.length
  | [] => by simp [encPs]
  | x :: xs => by simp [encPs, encPs_length xs]
theorem encPs_get : ∀ (xs : List PartD) (k : Nat), (encPs xs)[k]? = (xs[k]?).map encP
  | [], k => by simp [encPs]
  | x :: xs, 0 => by simp [encPs]
  | x :: xs, k + 1 => by simp [encPs, encPs_get xs k]
theorem encPs_append : ∀ xs ys : List PartD, encPs (xs ++ ys) = encPs xs ++ encPs ys
  | [], ys => by simp [encPs]
  | x :: xs, ys => by simp [encPs, encPs_append xs ys]
theorem encPs_nil : encPs [] = [] := by simp [encPs]
theorem encPs_one (x : PartD) : encPs [x] = [encP x] := by simp [encPs]
theorem encPs_map : ∀ xs : List PartD, encPs xs = xs.map encP
  | [] => by simp [encPs]
  | x :: xs => by simp [encPs, encPs_map xs]
theorem encP_mk (k : Int) (t n : List UInt8) (ps os : List PartD) : encP (.mk k t n ps os) = [.int .i64 k, .str t, .str n, .seq (encPs ps), .seq (encPs os)] := by simp [encP]
@[go_sem] theorem encP_length (x : PartD) : (encP x).length = 5 := by cases x; simp [encP]
@[go_sem] theorem encP_take (x : PartD) : List.take 5 (encP x) = encP x := by rw [List.take_of_length_le (by rw [encP_length]; exact Nat.le_refl _)]
@[go_sem] theorem encP_nmb (n : Nat) (x : PartD) : nmbL n (encP x) = true := by cases x; simp [encP, nmbL, PV.nmb]
@[go_sem] theorem encP_res (m : Nat → Option MB) (x : PartD) : (encP x).map (resC m) = encP x := by cases x; simp [encP, resC, res1]
@[go_sem] theorem encP_owns (x : PartD) : (encP x).flatMap ownsC = [] := by cases x; simp [encP, ownsC, owns1]
@[go_sem] theorem encP_isCell (x : PartD) : (encP x).all PV.isCell = true := by cases x; simp [encP, PV.isCell]
/-- Whether two are the same. -/
noncomputable def eqB {α : Type} (a b : α) : Bool := @decide (a = b) (Classical.propDecidable _)
theorem eqB_t {α : Type} {a b : α} : eqB a b = true ↔ a = b := by unfold eqB; simp
theorem eqB_f {α : Type} {a b : α} : eqB a b = false ↔ a ≠ b := by unfold eqB; simp
theorem encPs_all (xs : List PartD) : ∀ e ∈ encPs xs, e.length = 5 := by
  rw [encPs_map]
  intro e he
  obtain ⟨x, _, rfl⟩ := List.mem_map.1 he
  exact encP_length x
mutual
theorem encP_inj : ∀ x y : PartD, encP x = encP y → x = y
  | .mk k t n ps os, .mk k' t' n' ps' os', h => by
    simp only [encP, List.cons.injEq, PV.int.injEq, PV.str.injEq, PV.seq.injEq, and_true, true_and] at h
    obtain ⟨rfl, rfl, rfl, h1, h2⟩ := h
    rw [encPs_inj _ _ h1, encPs_inj _ _ h2]
theorem encPs_inj : ∀ xs ys : List PartD, encPs xs = encPs ys → xs = ys
  | [], [], _ => rfl
  | [], y :: ys, h => by simp [encPs] at h
  | x :: xs, [], h => by simp [encPs] at h
  | x :: xs, y :: ys, h => by
    simp only [encPs, List.cons.injEq] at h
    rw [encP_inj _ _ h.1, encPs_inj _ _ h.2]
end
@[go_sem] theorem encPs_iff {xs ys : List PartD} : encPs xs = encPs ys ↔ xs = ys := ⟨encPs_inj xs ys, fun h => by rw [h]⟩
@[go_sem] theorem encP_iff {xs ys : PartD} : encP xs = encP ys ↔ xs = ys := ⟨encP_inj xs ys, fun h => by rw [h]⟩
theorem wtL_append : ∀ xs ys : List PartD, wtL (xs ++ ys) = wtL xs + wtL ys
  | [], ys => by simp [wtL]
  | x :: r, ys => by simp only [List.cons_append, wtL, wtL_append r ys]; omega
theorem len_le_wtL : ∀ xs : List PartD, xs.length ≤ wtL xs
  | [] => by simp
  | x :: r => by have := len_le_wtL r; simp only [wtL, List.length_cons]; omega
theorem wtL_nil : wtL [] = 0 := by simp [wtL]
theorem wtL_one (x : PartD) : wtL [x] = 1 + wtP x := by simp [wtL]
theorem wtP_mk (k : Int) (t n : List UInt8) (ps os : List PartD) : wtP (.mk k t n ps os) = t.length + n.length + wtL ps + wtL os := by simp [wtP]
theorem okP_mk (k : Int) (t n : List UInt8) (ps os : List PartD) : okP (.mk k t n ps os) ↔ t.length ≤ 9223372036854775807 ∧ n.length ≤ 9223372036854775807 ∧ ps.length ≤ 9223372036854775807 ∧ os.length ≤ 9223372036854775807 ∧ okL ps ∧ okL os := by simp [okP]
theorem okL_get : ∀ {xs : List PartD} {k : Nat} {x : PartD}, okL xs → xs[k]? = some x → okP x
  | [], k, x, _, hk => by simp at hk
  | y :: ys, 0, x, h, hk => by
    obtain rfl : y = x := by simpa using hk
    unfold okL at h
    exact h.1
  | y :: ys, k + 1, x, h, hk => by
    unfold okL at h
    exact okL_get h.2 (by simpa using hk)
theorem take_snoc' {α : Type} {xs : List α} {k : Nat} {x : α} (h : xs[k]? = some x) : xs.take (k + 1) = xs.take k ++ [x] := by
  obtain ⟨h1, rfl⟩ := List.getElem?_eq_some_iff.1 h
  exact List.take_succ_eq_append_getElem h1
theorem get_some {α : Type} {xs : List α} {k : Nat} (h : k < xs.length) : ∃ x, xs[k]? = some x := ⟨xs[k], List.getElem?_eq_getElem h⟩
theorem wtL_split {xs : List PartD} {k : Nat} {x : PartD} (h : xs[k]? = some x) : wtL (xs.take k) + (1 + wtP x) + wtL (xs.drop (k + 1)) = wtL xs := by
  have h1 := take_snoc' h
  have h2 := wtL_append (xs.take (k + 1)) (xs.drop (k + 1))
  rw [List.take_append_drop, h1, wtL_append, wtL_one] at h2
  omega
end Go.Proofs.Ytoocbpendccngaa

/- Contracts bounded by a weight, for every weight. -/
namespace Go.Proofs.Ytoocbpendccngaa
set_option maxRecDepth 100000
set_option linter.unusedVariables false
set_option linter.unusedSimpArgs false
open Go.RowKit
theorem rel_all {P : Program} {f : FuncId} {α : Type} {enc : α → List PV} (wt : α → Nat) {pre : α → Prop} {out : α → PV} (h : ∀ n, PureOk P f (rel enc (fun x => wt x < n ∧ pre x) out)) : PureOk P f (rel enc pre out) := by
  refine ⟨(h 0).fn, ?_, ?_⟩
  · rintro args K ⟨x, h1, h2, h3⟩; exact ⟨_, h3, fun K' hk => ⟨x, h1, h2, hk⟩⟩
  · rintro c args vs K hf hr ⟨x, h1, h2, h3⟩
    exact (h (wt x + 1)).run c args vs K hf hr ⟨x, h1, ⟨Nat.lt_succ_self _, h2⟩, h3⟩
end Go.Proofs.Ytoocbpendccngaa
