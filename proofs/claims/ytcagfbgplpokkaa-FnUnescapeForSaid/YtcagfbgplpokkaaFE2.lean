/- Escaped texts come back; what escaped texts do not hold. No program. -/
import Derived.Test.YtcagfbgplpokkaaFE
namespace Go.Proofs.Ytcagfbgplpokkaa
set_option maxRecDepth 100000
set_option linter.unusedVariables false
set_option linter.unusedSimpArgs false
open Go.RowKit

theorem unT_ent (b : UInt8) (r : Bs) : unT (ent1 b ++ r) = b :: unT r := by
  by_cases h : entOf b = []
  · have e : ent1 b = [b] := by unfold ent1; rw [if_pos h]
    have hb : b ≠ 38 := by rintro rfl; revert h; decide
    have hf : (38 : UInt8) ≠ b := fun h => hb h.symm
    rw [e, List.singleton_append, unT_cons, if_pos]
    simp [entAt, List.isPrefixOf, hf]
  · have e : ent1 b = entOf b := by unfold ent1; rw [if_neg h]
    rw [e]
    unfold entOf at h ⊢
    split
    · rename_i hb; obtain rfl : b = 38 := by apply UInt8.toNat_inj.1; rw [hb]; rfl
      rw [List.cons_append, unT_cons]; simp [entAt, List.isPrefixOf]
    split
    · rename_i hb; obtain rfl : b = 60 := by apply UInt8.toNat_inj.1; rw [hb]; rfl
      rw [List.cons_append, unT_cons]; simp [entAt, List.isPrefixOf]
    split
    · rename_i hb; obtain rfl : b = 62 := by apply UInt8.toNat_inj.1; rw [hb]; rfl
      rw [List.cons_append, unT_cons]; simp [entAt, List.isPrefixOf]
    split
    · rename_i hb; obtain rfl : b = 34 := by apply UInt8.toNat_inj.1; rw [hb]; rfl
      rw [List.cons_append, unT_cons]; simp [entAt, List.isPrefixOf]
    split
    · rename_i hb; obtain rfl : b = 39 := by apply UInt8.toNat_inj.1; rw [hb]; rfl
      rw [List.cons_append, unT_cons]; simp [entAt, List.isPrefixOf]
    · exfalso; simp_all
theorem unT_esc : ∀ s : Bs, unT (escT s) = s
  | [] => rfl
  | b :: r => by
    have := unT_ent b (escT r)
    rw [show escT (b :: r) = ent1 b ++ escT r from rfl, this, unT_esc r]
theorem escB_esc (s : Bs) : escB (escT s) = true := by unfold escB; rw [unT_esc]; simp
theorem escB_back {s : Bs} (h : escB s = true) : escT (unT s) = s := by unfold escB at h; simpa using h
theorem rawP_cons {c : UInt8} {t : Bs} (h : c.toNat ≠ 37) : rawP (c :: t) = (rawP t).map (c :: ·) := by
  match t with
  | [] => simp [rawP, h]
  | [d] => simp [rawP, h]
  | a :: b :: r => simp [rawP, h]
theorem rawP_pct : ∀ s : Bs, rawP (pctS keep3 s) = some s
  | [] => rfl
  | b :: r => by
    rw [pctS_cons, plain3_W]
    split
    · rename_i h
      rw [List.singleton_append, rawP_cons (plain3_37 b h), rawP_pct r]; rfl
    · have hb := byte_split b
      simp only [pct1, List.cons_append, List.nil_append]
      rw [rawP, if_pos (show UInt8.toNat 37 = 37 from rfl), if_pos (by unfold hexOk; rw [ix_hexU _ hb.1, ix_hexU _ hb.2]; simp; omega), rawP_pct r]
      simp only [Option.map_some, hexV, ix_hexU _ hb.1, ix_hexU _ hb.2, Int.toNat_natCast, ofNat_split]
theorem unP_pct (s : Bs) : unP (pctS keep3 s) = some s := by unfold unP; rw [rawP_pct]; simp
theorem unP_back {s o : Bs} (h : unP s = some o) : pctS keep3 o = s := by
  unfold unP at h
  split at h
  · split at h
    · cases h; assumption
    · cases h
  · cases h
theorem rawS_cons {c : UInt8} {t : Bs} (h : c.toNat ≠ 92) : rawS (c :: t) = (rawS t).map (c :: ·) := by
  match t with
  | [] => simp [rawS, h]
  | [d] => simp [rawS, h]
  | [d, e] => simp [rawS, h]
  | x :: a :: b :: r => simp [rawS, h]
theorem spec4_92' : ∀ c : UInt8, spec4 c = false → c.toNat ≠ 92 := all_bytes (by decide)
theorem rawS_scr : ∀ s : Bs, rawS (scrS s) = some s
  | [] => rfl
  | b :: r => by
    rw [scrS_cons, scr1]
    split
    · have hb := byte_split b
      simp only [code4, List.cons_append, List.nil_append]
      rw [rawS, if_pos (show UInt8.toNat 92 = 92 from rfl), if_pos ⟨rfl, by unfold hexOk; rw [ix_hexL _ hb.1, ix_hexL _ hb.2]; simp; omega⟩, rawS_scr r]
      simp only [Option.map_some, hexV, ix_hexL _ hb.1, ix_hexL _ hb.2, Int.toNat_natCast, ofNat_split]
    · rename_i h
      rw [List.singleton_append, rawS_cons (spec4_92' b (by simpa using h)), rawS_scr r]; rfl
theorem unS_scr (s : Bs) : unS (scrS s) = some s := by unfold unS; rw [rawS_scr]; simp
theorem unS_back {s o : Bs} (h : unS s = some o) : scrS o = s := by
  unfold unS at h
  split at h
  · split at h
    · cases h; assumption
    · cases h
  · cases h

/-! ### What escaped texts do not hold -/
def noSp (b : UInt8) : Bool := !(decide (b.toNat = 60) || decide (b.toNat = 62) || decide (b.toNat = 34) || decide (b.toNat = 39))
theorem ent1_noSp : ∀ b : UInt8, (ent1 b).all noSp = true := all_bytes (by decide)
theorem pct3_noSp : ∀ b : UInt8, (pctW keep3 b).all noSp = true := all_bytes (by decide)
theorem scr1_noSp : ∀ b : UInt8, (scr1 b).all noSp = true := all_bytes (by decide)
theorem flat_all {g : UInt8 → Bs} {p : UInt8 → Bool} (h : ∀ b, (g b).all p = true) : ∀ s : Bs, (s.flatMap g).all p = true
  | [] => rfl
  | b :: r => by rw [List.flatMap_cons, List.all_append, h b, flat_all h r]; rfl
theorem escT_noSp (s : Bs) : (escT s).all noSp = true := flat_all ent1_noSp s
theorem pctS_noSp (s : Bs) : (pctS keep3 s).all noSp = true := flat_all pct3_noSp s
theorem scrS_noSp (s : Bs) : (scrS s).all noSp = true := flat_all scr1_noSp s
end Go.Proofs.Ytcagfbgplpokkaa
