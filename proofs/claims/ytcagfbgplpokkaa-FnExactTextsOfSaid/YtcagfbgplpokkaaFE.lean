/- Escaped texts read back, as data. No program. -/
import Derived.Test.YtcagfbgplpokkaaFM
import Derived.Lib.Bytealg
namespace Go.Proofs.Ytcagfbgplpokkaa
set_option maxRecDepth 100000
set_option linter.unusedVariables false
set_option linter.unusedSimpArgs false
open Go.RowKit

/-- A text, or none. -/
def encO (o : Option Bs) : PV := .tup [.str (o.getD []), .bool o.isSome]
abbrev ixB (l : Bs) (c : UInt8) : Int := Lib.indexByte l c
def hexOk (hx : Bs) (a b : UInt8) : Bool := decide (0 ≤ ixB hx a) && decide (0 ≤ ixB hx b)
def hexV (hx : Bs) (a b : UInt8) : UInt8 := UInt8.ofNat ((ixB hx a).toNat * 16 + (ixB hx b).toNat)
theorem ixU_bd : ∀ c : UInt8, -1 ≤ ixB hexU c ∧ ixB hexU c < 16 := all_bytes (by decide)
theorem ixL_bd : ∀ c : UInt8, -1 ≤ ixB hexL c ∧ ixB hexL c < 16 := all_bytes (by decide)
theorem hexU_ix : ∀ c : UInt8, 0 ≤ ixB hexU c → hexU.getD (ixB hexU c).toNat 0 = c := all_bytes (by decide)
theorem hexL_ix : ∀ c : UInt8, 0 ≤ ixB hexL c → hexL.getD (ixB hexL c).toNat 0 = c := all_bytes (by decide)
theorem ix_hexU : ∀ n : Nat, n < 16 → ixB hexU (hexU.getD n 0) = n := by decide
theorem ix_hexL : ∀ n : Nat, n < 16 → ixB hexL (hexL.getD n 0) = n := by decide
theorem byte_split (c : UInt8) : c.toNat / 16 < 16 ∧ c.toNat % 16 < 16 := by have := c.toNat_lt; omega
theorem ofNat_split (c : UInt8) : UInt8.ofNat (c.toNat / 16 * 16 + c.toNat % 16) = c := by
  rw [show c.toNat / 16 * 16 + c.toNat % 16 = c.toNat by omega, UInt8.ofNat_toNat]
theorem hexV_nat {hx : Bs} {a b : UInt8} (h1 : ixB hx a < 16) (h2 : ixB hx b < 16) : (hexV hx a b).toNat = (ixB hx a).toNat * 16 + (ixB hx b).toNat := by
  unfold hexV
  rw [UInt8.toNat_ofNat_of_lt' (by show _ < 256; omega)]
theorem pct1_hex {a b : UInt8} (h : hexOk hexU a b = true) : pct1 (hexV hexU a b) = [37, a, b] := by
  simp only [hexOk, Bool.and_eq_true, decide_eq_true_eq] at h
  have h1 := ixU_bd a
  have h2 := ixU_bd b
  unfold pct1
  rw [hexV_nat (by omega) (by omega), show ((ixB hexU a).toNat * 16 + (ixB hexU b).toNat) / 16 = (ixB hexU a).toNat by omega, show ((ixB hexU a).toNat * 16 + (ixB hexU b).toNat) % 16 = (ixB hexU b).toNat by omega, hexU_ix a h.1, hexU_ix b h.2]
theorem pct1_inv {a b c : UInt8} (h : pct1 c = [37, a, b]) : hexOk hexU a b = true ∧ c = hexV hexU a b := by
  unfold pct1 at h
  simp only [List.cons.injEq, and_true, true_and] at h
  obtain ⟨rfl, rfl⟩ := h
  have hc := byte_split c
  unfold hexOk hexV
  rw [ix_hexU _ hc.1, ix_hexU _ hc.2, Int.toNat_natCast, Int.toNat_natCast, ofNat_split]
  exact ⟨by simp; omega, rfl⟩
theorem code4_hex {a b : UInt8} (h : hexOk hexL a b = true) : code4 (hexV hexL a b) = [92, 120, a, b] := by
  simp only [hexOk, Bool.and_eq_true, decide_eq_true_eq] at h
  have h1 := ixL_bd a
  have h2 := ixL_bd b
  unfold code4
  rw [hexV_nat (by omega) (by omega), show ((ixB hexL a).toNat * 16 + (ixB hexL b).toNat) / 16 = (ixB hexL a).toNat by omega, show ((ixB hexL a).toNat * 16 + (ixB hexL b).toNat) % 16 = (ixB hexL b).toNat by omega, hexL_ix a h.1, hexL_ix b h.2]
theorem code4_inv {x a b c : UInt8} (h : code4 c = [92, x, a, b]) : x = 120 ∧ hexOk hexL a b = true ∧ c = hexV hexL a b := by
  unfold code4 at h
  simp only [List.cons.injEq, and_true, true_and] at h
  obtain ⟨rfl, rfl, rfl⟩ := h
  have hc := byte_split c
  unfold hexOk hexV
  rw [ix_hexL _ hc.1, ix_hexL _ hc.2, Int.toNat_natCast, Int.toNat_natCast, ofNat_split]
  exact ⟨rfl, by simp; omega, rfl⟩

/-! ### Parts of addresses -/
def rawP : Bs → Option Bs
  | [] => some []
  | [c] => if c.toNat = 37 then none else some [c]
  | [c, d] => if c.toNat = 37 then none else (rawP [d]).map (c :: ·)
  | c :: a :: b :: r => if c.toNat = 37 then (if hexOk hexU a b = true then (rawP r).map (hexV hexU a b :: ·) else none) else (rawP (a :: b :: r)).map (c :: ·)
def unP (s : Bs) : Option Bs := match rawP s with
  | some o => if pctS keep3 o = s then some o else none
  | none => none
theorem rawP_plain {s : Bs} {k : Nat} (h : k < s.length) (hc : (s.getD k 0).toNat ≠ 37) : rawP (s.drop k) = (rawP (s.drop (k + 1))).map (s.getD k 0 :: ·) := by
  rw [drop_getD h]
  generalize s.getD k 0 = c at *
  match h1 : s.drop (k + 1) with
  | [] => simp [rawP, hc]
  | [d] => simp [rawP, hc]
  | a :: b :: r => simp [rawP, hc]
theorem rawP_short {s : Bs} {k : Nat} (h : k < s.length) (hc : (s.getD k 0).toNat = 37) (hs : s.length ≤ k + 2) : rawP (s.drop k) = none := by
  rw [drop_getD h]
  generalize s.getD k 0 = c at *
  have hl : (s.drop (k + 1)).length ≤ 1 := by simp; omega
  match h1 : s.drop (k + 1) with
  | [] => simp [rawP, hc]
  | [d] => simp [rawP, hc]
  | a :: b :: r => rw [h1] at hl; simp at hl
theorem drop3 {s : Bs} {k : Nat} (h : k + 2 < s.length) : s.drop k = s.getD k 0 :: s.getD (k + 1) 0 :: s.getD (k + 2) 0 :: s.drop (k + 3) := by
  rw [drop_getD (by omega), drop_getD (k := k + 1) (by omega), drop_getD (k := k + 1 + 1) (by omega)]
theorem rawP_hex {s : Bs} {k : Nat} (h : k + 2 < s.length) (hc : (s.getD k 0).toNat = 37) : rawP (s.drop k) = if hexOk hexU (s.getD (k + 1) 0) (s.getD (k + 2) 0) = true then (rawP (s.drop (k + 3))).map (hexV hexU (s.getD (k + 1) 0) (s.getD (k + 2) 0) :: ·) else none := by
  rw [drop3 h, rawP, if_pos hc]
/-- As the reference reads. -/
def spcP : Bs → Option Bs
  | [] => some []
  | [c] => if c.toNat = 37 then none else if plain3 c = true then some [c] else none
  | [c, d] => if c.toNat = 37 then none else if plain3 c = true then (spcP [d]).map (c :: ·) else none
  | c :: a :: b :: r => if c.toNat = 37 then (if hexOk hexU a b = true ∧ plain3 (hexV hexU a b) = false then (spcP r).map (hexV hexU a b :: ·) else none) else if plain3 c = true then (spcP (a :: b :: r)).map (c :: ·) else none
theorem plain3_W {c : UInt8} : pctW keep3 c = if plain3 c = true then [c] else pct1 c := rfl
theorem plain3_37 : ∀ c : UInt8, plain3 c = true → c.toNat ≠ 37 := all_bytes (by decide)
theorem pctS_cons (keep : Bs) (c : UInt8) (o : Bs) : pctS keep (c :: o) = pctW keep c ++ pctS keep o := rfl
theorem opt_filter_map {c : UInt8} {r : Option Bs} {p q : Bs → Prop} [DecidablePred p] [DecidablePred q] (h : ∀ o, p (c :: o) ↔ q o) :
    (match r.map (c :: ·) with | some o => if p o then some o else none | none => none) = (match r with | some o => if q o then some o else none | none => none).map (c :: ·) := by
  cases r with
  | none => rfl
  | some o =>
    simp only [Option.map_some]
    by_cases hq : q o
    · rw [if_pos ((h o).2 hq), if_pos hq]; rfl
    · rw [if_neg (fun hp => hq ((h o).1 hp)), if_neg hq]; rfl
theorem opt_filter_none {c : UInt8} {r : Option Bs} {p : Bs → Prop} [DecidablePred p] (h : ∀ o, ¬ p (c :: o)) : (match r.map (c :: ·) with | some o => if p o then some o else none | none => none) = none := by
  cases r with
  | none => rfl
  | some o => simp only [Option.map_some, if_neg (h o)]
theorem spcP_un : ∀ s : Bs, spcP s = unP s
  | [] => by simp [spcP, unP, rawP, pctS]
  | [c] => by
    unfold spcP unP rawP
    split
    · rfl
    · rename_i h
      simp only [pctS, List.flatMap_cons, List.flatMap_nil, List.append_nil, plain3_W]
      split
      · simp
      · rw [if_neg (by simp [pct1])]
  | [c, d] => by
    rw [spcP, unP, rawP]
    split
    · rfl
    · rename_i h
      split
      · rename_i hp
        rw [spcP_un [d]]
        exact (opt_filter_map fun o => by simp [pctS_cons, plain3_W, hp]).symm
      · rename_i hp
        exact (opt_filter_none fun o => by
          rw [pctS_cons, plain3_W, if_neg hp]
          simp only [pct1, List.cons_append, List.cons.injEq]
          rintro ⟨e, _⟩
          exact h (by rw [← e]; rfl)).symm
  | c :: a :: b :: r => by
    rw [spcP, unP, rawP]
    split
    · rename_i h37
      have hc : c = 37 := by apply UInt8.toNat_inj.1; rw [h37]; rfl
      subst hc
      split
      · rename_i hp
        rw [if_pos hp.1, spcP_un r]
        exact (opt_filter_map fun o => by rw [pctS_cons, plain3_W, if_neg (by rw [hp.2]; decide), pct1_hex hp.1]; simp).symm
      · rename_i hp
        by_cases hh : hexOk hexU a b = true
        · rw [if_pos hh]
          exact (opt_filter_none fun o => by
            have hpl : plain3 (hexV hexU a b) = true := by
              cases hq : plain3 (hexV hexU a b) with
              | true => rfl
              | false => exact absurd ⟨hh, hq⟩ hp
            rw [pctS_cons, plain3_W, if_pos hpl]
            simp only [List.cons_append, List.cons.injEq]
            rintro ⟨e, _⟩
            exact plain3_37 _ hpl (by rw [e]; rfl)).symm
        · rw [if_neg hh]
    · rename_i h
      split
      · rename_i hp
        rw [spcP_un (a :: b :: r)]
        exact (opt_filter_map fun o => by simp [pctS_cons, plain3_W, hp]).symm
      · rename_i hp
        exact (opt_filter_none fun o => by
          rw [pctS_cons, plain3_W, if_neg hp]
          simp only [pct1, List.cons_append, List.cons.injEq]
          rintro ⟨e, _⟩
          exact h (by rw [← e]; rfl)).symm
theorem spcP_plain {s : Bs} {k : Nat} (h : k < s.length) (hc : (s.getD k 0).toNat ≠ 37) : spcP (s.drop k) = if plain3 (s.getD k 0) = true then (spcP (s.drop (k + 1))).map (s.getD k 0 :: ·) else none := by
  rw [drop_getD h]
  generalize s.getD k 0 = c at *
  match h1 : s.drop (k + 1) with
  | [] => simp [spcP, hc]
  | [d] => simp [spcP, hc]
  | a :: b :: r => simp [spcP, hc]
theorem spcP_short {s : Bs} {k : Nat} (h : k < s.length) (hc : (s.getD k 0).toNat = 37) (hs : s.length ≤ k + 2) : spcP (s.drop k) = none := by
  rw [drop_getD h]
  generalize s.getD k 0 = c at *
  have hl : (s.drop (k + 1)).length ≤ 1 := by simp; omega
  match h1 : s.drop (k + 1) with
  | [] => simp [spcP, hc]
  | [d] => simp [spcP, hc]
  | a :: b :: r => rw [h1] at hl; simp at hl
theorem spcP_hex {s : Bs} {k : Nat} (h : k + 2 < s.length) (hc : (s.getD k 0).toNat = 37) : spcP (s.drop k) = if hexOk hexU (s.getD (k + 1) 0) (s.getD (k + 2) 0) = true ∧ plain3 (hexV hexU (s.getD (k + 1) 0) (s.getD (k + 2) 0)) = false then (spcP (s.drop (k + 3))).map (hexV hexU (s.getD (k + 1) 0) (s.getD (k + 2) 0) :: ·) else none := by
  rw [drop3 h, spcP, if_pos hc]

/-! ### Script texts -/
def rawS : Bs → Option Bs
  | [] => some []
  | [c] => if c.toNat = 92 then none else some [c]
  | [c, d] => if c.toNat = 92 then none else (rawS [d]).map (c :: ·)
  | [c, d, e] => if c.toNat = 92 then none else (rawS [d, e]).map (c :: ·)
  | c :: x :: a :: b :: r => if c.toNat = 92 then (if x.toNat = 120 ∧ hexOk hexL a b = true then (rawS r).map (hexV hexL a b :: ·) else none) else (rawS (x :: a :: b :: r)).map (c :: ·)
def unS (s : Bs) : Option Bs := match rawS s with
  | some o => if scrS o = s then some o else none
  | none => none
def spcS : Bs → Option Bs
  | [] => some []
  | [c] => if c.toNat = 92 then none else if spec4 c = false then some [c] else none
  | [c, d] => if c.toNat = 92 then none else if spec4 c = false then (spcS [d]).map (c :: ·) else none
  | [c, d, e] => if c.toNat = 92 then none else if spec4 c = false then (spcS [d, e]).map (c :: ·) else none
  | c :: x :: a :: b :: r => if c.toNat = 92 then (if (x.toNat = 120 ∧ hexOk hexL a b = true) ∧ spec4 (hexV hexL a b) = true then (spcS r).map (hexV hexL a b :: ·) else none) else if spec4 c = false then (spcS (x :: a :: b :: r)).map (c :: ·) else none
theorem scrS_cons (c : UInt8) (o : Bs) : scrS (c :: o) = scr1 c ++ scrS o := rfl
theorem spec4_92 : spec4 92 = true := by decide
theorem opt_neg {c : UInt8} {h : ¬ c.toNat = 92} {hp : ¬ spec4 c = false} {t o : Bs} : ¬ scrS (c :: o) = c :: t := by
  rw [scrS_cons, scr1, if_pos (by simpa using hp)]
  simp only [code4, List.cons_append, List.cons.injEq]
  rintro ⟨e, _⟩
  exact h (by rw [← e]; rfl)
theorem spcS_un : ∀ s : Bs, spcS s = unS s
  | [] => by simp [spcS, unS, rawS, scrS]
  | [c] => by
    rw [spcS, unS, rawS]
    split
    · rfl
    · rename_i h
      split
      · rename_i hp
        simp [scrS, scr1, hp]
      · rename_i hp
        have := opt_neg (h := h) (hp := hp) (t := []) (o := [])
        simp [this]
  | [c, d] => by
    rw [spcS, unS, rawS]
    split
    · rfl
    · rename_i h
      split
      · rename_i hp
        rw [spcS_un [d]]
        exact (opt_filter_map fun o => by simp [scrS_cons, scr1, hp]).symm
      · rename_i hp
        exact (opt_filter_none (p := fun o => scrS o = [c, d]) fun o => opt_neg (h := h) (hp := hp)).symm
  | [c, d, e] => by
    rw [spcS, unS, rawS]
    split
    · rfl
    · rename_i h
      split
      · rename_i hp
        rw [spcS_un [d, e]]
        exact (opt_filter_map fun o => by simp [scrS_cons, scr1, hp]).symm
      · rename_i hp
        exact (opt_filter_none (p := fun o => scrS o = [c, d, e]) fun o => opt_neg (h := h) (hp := hp)).symm
  | c :: x :: a :: b :: r => by
    rw [spcS, unS, rawS]
    split
    · rename_i h92
      have hc : c = 92 := by apply UInt8.toNat_inj.1; rw [h92]; rfl
      subst hc
      split
      · rename_i hp
        have hx : x = 120 := by apply UInt8.toNat_inj.1; rw [hp.1.1]; rfl
        subst hx
        rw [if_pos hp.1, spcS_un r]
        exact (opt_filter_map fun o => by rw [scrS_cons, scr1, if_pos hp.2, code4_hex hp.1.2]; simp).symm
      · rename_i hp
        by_cases hh : x.toNat = 120 ∧ hexOk hexL a b = true
        · rw [if_pos hh]
          exact (opt_filter_none fun o => by
            have hpl : spec4 (hexV hexL a b) = false := by
              cases hq : spec4 (hexV hexL a b) with
              | false => rfl
              | true => exact absurd ⟨hh, hq⟩ hp
            rw [scrS_cons, scr1, if_neg (by rw [hpl]; decide)]
            simp only [List.cons_append, List.cons.injEq]
            rintro ⟨e, _⟩
            rw [e] at hpl
            exact absurd hpl (by decide)).symm
        · rw [if_neg hh]
    · rename_i h
      split
      · rename_i hp
        rw [spcS_un (x :: a :: b :: r)]
        exact (opt_filter_map fun o => by simp [scrS_cons, scr1, hp]).symm
      · rename_i hp
        exact (opt_filter_none (p := fun o => scrS o = c :: x :: a :: b :: r) fun o => opt_neg (h := h) (hp := hp)).symm
theorem drop4 {s : Bs} {k : Nat} (h : k + 3 < s.length) : s.drop k = s.getD k 0 :: s.getD (k + 1) 0 :: s.getD (k + 2) 0 :: s.getD (k + 3) 0 :: s.drop (k + 4) := by
  rw [drop_getD (by omega), drop_getD (k := k + 1) (by omega), drop_getD (k := k + 1 + 1) (by omega), drop_getD (k := k + 1 + 1 + 1) (by omega)]
theorem rawS_plain {s : Bs} {k : Nat} (h : k < s.length) (hc : (s.getD k 0).toNat ≠ 92) : rawS (s.drop k) = (rawS (s.drop (k + 1))).map (s.getD k 0 :: ·) := by
  rw [drop_getD h]
  generalize s.getD k 0 = c at *
  match h1 : s.drop (k + 1) with
  | [] => simp [rawS, hc]
  | [d] => simp [rawS, hc]
  | [d, e] => simp [rawS, hc]
  | x :: a :: b :: r => simp [rawS, hc]
theorem rawS_short {s : Bs} {k : Nat} (h : k < s.length) (hc : (s.getD k 0).toNat = 92) (hs : s.length ≤ k + 3) : rawS (s.drop k) = none := by
  rw [drop_getD h]
  generalize s.getD k 0 = c at *
  have hl : (s.drop (k + 1)).length ≤ 2 := by simp; omega
  match h1 : s.drop (k + 1) with
  | [] => simp [rawS, hc]
  | [d] => simp [rawS, hc]
  | [d, e] => simp [rawS, hc]
  | x :: a :: b :: r => rw [h1] at hl; simp at hl
theorem rawS_hex {s : Bs} {k : Nat} (h : k + 3 < s.length) (hc : (s.getD k 0).toNat = 92) : rawS (s.drop k) = if (s.getD (k + 1) 0).toNat = 120 ∧ hexOk hexL (s.getD (k + 2) 0) (s.getD (k + 3) 0) = true then (rawS (s.drop (k + 4))).map (hexV hexL (s.getD (k + 2) 0) (s.getD (k + 3) 0) :: ·) else none := by
  rw [drop4 h, rawS, if_pos hc]
theorem spcS_plain {s : Bs} {k : Nat} (h : k < s.length) (hc : (s.getD k 0).toNat ≠ 92) : spcS (s.drop k) = if spec4 (s.getD k 0) = false then (spcS (s.drop (k + 1))).map (s.getD k 0 :: ·) else none := by
  rw [drop_getD h]
  generalize s.getD k 0 = c at *
  match h1 : s.drop (k + 1) with
  | [] => simp [spcS, hc]
  | [d] => simp [spcS, hc]
  | [d, e] => simp [spcS, hc]
  | x :: a :: b :: r => simp [spcS, hc]
theorem spcS_short {s : Bs} {k : Nat} (h : k < s.length) (hc : (s.getD k 0).toNat = 92) (hs : s.length ≤ k + 3) : spcS (s.drop k) = none := by
  rw [drop_getD h]
  generalize s.getD k 0 = c at *
  have hl : (s.drop (k + 1)).length ≤ 2 := by simp; omega
  match h1 : s.drop (k + 1) with
  | [] => simp [spcS, hc]
  | [d] => simp [spcS, hc]
  | [d, e] => simp [spcS, hc]
  | x :: a :: b :: r => rw [h1] at hl; simp at hl
theorem spcS_hex {s : Bs} {k : Nat} (h : k + 3 < s.length) (hc : (s.getD k 0).toNat = 92) : spcS (s.drop k) = if ((s.getD (k + 1) 0).toNat = 120 ∧ hexOk hexL (s.getD (k + 2) 0) (s.getD (k + 3) 0) = true) ∧ spec4 (hexV hexL (s.getD (k + 2) 0) (s.getD (k + 3) 0)) = true then (spcS (s.drop (k + 4))).map (hexV hexL (s.getD (k + 2) 0) (s.getD (k + 3) 0) :: ·) else none := by
  rw [drop4 h, spcS, if_pos hc]
end Go.Proofs.Ytcagfbgplpokkaa
