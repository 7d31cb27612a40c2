/- The machine of modes: contracts' shapes, bytes. No program. -/
import Derived.Test.YtcagfbgplpokkaaK2
import Derived.Test.YtcagfbgplpokkaaX1
namespace Go.Proofs.Ytcagfbgplpokkaa
set_option maxRecDepth 100000
set_option linter.unusedVariables false
set_option linter.unusedSimpArgs false
open Go.RowKit
--LV=S0
@[go_sem] def stC (f : St → PV) : PC := rel (α := St) (fun s => [.agg (encS s)]) okS f
@[go_sem] def sbC (pre : St → Prop) (f : St → UInt8 → St) : PC := rel (α := St × Int) (fun x => [.agg (encS x.1), .int .u8 x.2]) (fun x => 0 ≤ x.2 ∧ x.2 < 256 ∧ pre x.1) (fun x => .agg (encS (f x.1 (ofI x.2))))
@[go_sem] def saC : PC := rel (α := St × Bs) (fun x => [.agg (encS x.1), .str x.2]) (fun x => okS x.1 ∧ x.2.length ≤ 1099511627776) (fun x => .agg (encS (afterS x.1 x.2)))
theorem ofI_cast2 {c : Nat} (h : c < 256) : (ofI (c : Int)).toNat = c := by
  have := ofI_nat (UInt8.ofNat c)
  have e : (UInt8.ofNat c).toNat = c := by simp; omega
  rw [e] at this
  rw [this, e]
theorem lowS_len (s : Bs) : (lowS s).length = s.length := by unfold lowS; simp
def moreS (m : Int) (t a : Bs) (w : Bs) : St :=
  if m = 4 then (if (a ++ lowS w).length > 10 ∨ t.length > 10 then bad else ⟨m, t, a ++ lowS w, false⟩) else (if a.length > 10 ∨ (t ++ lowS w).length > 10 then bad else ⟨m, t ++ lowS w, a, false⟩)
theorem encS_eq (s : St) : encS s = [.int .i64 s.mode, .str s.tag, .str s.attr, .bool s.seen] := rfl
theorem stV_len {s : St} (h : stV s = true) : s.tag.length ≤ 10 ∧ s.attr.length ≤ 10 := by
  have h1 := (stV_parts h).2.2.1
  have h2 := (stV_parts h).2.2.2.1
  unfold tagOk at h1
  unfold attrOk at h2
  constructor
  · split at h1
    · exact (nameB_len h1).2
    · split at h1
      · simp only [Bool.or_eq_true, decide_eq_true_eq] at h1
        rcases h1 with h1 | h1
        · rw [h1]; simp
        · exact (nameB_len h1).2
      · simp only [decide_eq_true_eq] at h1; rw [h1]; simp
  · split at h2
    · exact (nameB_len h2).2
    · simp only [decide_eq_true_eq] at h2; rw [h2]; simp
theorem bare_nm : ∀ c : UInt8, bareB c = (nmByte c || decide (c.toNat = 95) || decide (c.toNat = 46) || decide (c.toNat = 47) || decide (c.toNat = 58)) := all_bytes (by decide)
theorem cls_byte : ∀ c : UInt8, (isLet c = true → nmByte c = true) ∧ (nmByte c = true → c.toNat ≠ 32 ∧ c.toNat ≠ 62 ∧ c.toNat ≠ 61 ∧ c.toNat ≠ 34 ∧ c.toNat ≠ 39 ∧ c.toNat ≠ 47 ∧ c.toNat ≠ 33) := all_bytes (by decide)
theorem low_one (b : UInt8) : lowS [b] = [low1 b] := rfl
theorem moreS_t {m : Int} {t : Bs} {c : UInt8} (h : m ≠ 4) : moreS m t [] [c] = longT ⟨m, t, [], false⟩ c := by
  unfold moreS longT
  rw [if_neg h, low_one, List.length_append]
  by_cases h1 : t.length + 1 > 10
  · rw [if_pos h1, if_pos (.inr (by simpa using h1))]
  · rw [if_neg h1, if_neg (by simp; omega)]
theorem moreS_a {t a : Bs} {c : UInt8} (h : t.length ≤ 10) : moreS 4 t a [c] = longA ⟨4, t, a, false⟩ c := by
  unfold moreS longA
  rw [if_pos rfl, low_one, List.length_append]
  by_cases h1 : a.length + 1 > 10
  · rw [if_pos h1, if_pos (.inl (by simpa using h1))]
  · rw [if_neg h1, if_neg (by simp; omega)]
theorem nat_of {c : UInt8} {n : Nat} (h : (c.toNat : Int) = n) : c.toNat = n := by omega
theorem nat_not {c : UInt8} {n : Nat} (h : ¬ (c.toNat : Int) = n) : ¬ c.toNat = n := by omega
theorem ex_St {m : Int} {t a : Bs} {b : Bool} {p : St → Prop} : (∃ s : St, m = s.mode ∧ t = s.tag ∧ a = s.attr ∧ b = s.seen ∧ p s) ↔ p ⟨m, t, a, b⟩ := by
  constructor
  · rintro ⟨⟨m', t', a', b'⟩, h1, h2, h3, h4, hp⟩
    dsimp only at h1 h2 h3 h4
    subst h1 h2 h3 h4
    exact hp
  · exact fun h => ⟨_, rfl, rfl, rfl, rfl, h⟩
theorem step_bad' {s : St} {c : UInt8} (h : stV s = false) : step s c = bad := by unfold step; rw [if_neg (by rw [h]; decide)]
end Go.Proofs.Ytcagfbgplpokkaa
