/- The reader of the drawn inputs: l20Open, pick, odd. -/
import Derived.Test.YtdehpafflbhadaaW1
import Derived.Lib.Hide
import Derived.Deep.QuietTactic
import Derived.BigQuiet
import Derived.Laws.BitsAllLaws
import Derived.Laws.BitsLemmas
import Derived.IntWalk
namespace Go.Proofs.Ytdehpafflbhadaa
set_option maxRecDepth 100000
set_option linter.unusedVariables false
set_option linter.unusedSimpArgs false
open Go.RowKit

theorem block_add (a : Addr) (n : Nat) : (a.add n).block = a.block := by unfold Addr.add; split <;> rfl

/-- A byte lies at an address. -/
def ByteAt (w : World) (x : Addr) : Prop := ∃ z : Nat, z < 256 ∧ w.cell? x = some (.int .u8 (z : Int))

/-- Block blk is a reader over a slice of at most 2000 bytes, at a place of at most N. -/
def Rd (w : World) (blk N : Nat) : Prop :=
  ∃ (a : Option Addr) (len cap p : Nat), p ≤ N ∧ len ≤ 2000 ∧ w.heap[blk]? = some (.cells #[.slice a len cap, .int .i64 (p : Int)] 100 (0, 0)) ∧
    (∀ i, i < len → ∃ x, a = some x ∧ x.block < blk ∧ ByteAt w (x.add i))

theorem Rd.drewN {w : World} {blk N : Nat} (h : Rd w blk N) (n : Nat) : Rd (w.drewN n) blk N := h
theorem Rd.more {w : World} {blk N M : Nat} (h : Rd w blk N) (hM : N ≤ M) : Rd w blk M := by
  obtain ⟨a, len, cap, p, hp, r⟩ := h
  exact ⟨a, len, cap, p, by omega, r⟩

theorem i64_xor_nonneg (a b : Int) (ha : 0 ≤ a) (ha' : a < 9223372036854775808) (hb : 0 ≤ b) (hb' : b < 9223372036854775808) : 0 ≤ bits .xor .i64 a b ∧ bits .xor .i64 a b < 9223372036854775808 := by
  obtain ⟨a, rfl⟩ := Int.eq_ofNat_of_zero_le ha
  obtain ⟨b, rfl⟩ := Int.eq_ofNat_of_zero_le hb
  have h1 : ∀ c : Nat, c < 9223372036854775808 → (BitVec.ofInt 64 (c : Int)).toNat = c := fun c hc => by
    rw [BitVec.ofInt_natCast, BitVec.toNat_ofNat]; exact Nat.mod_eq_of_lt (by omega)
  have hx : a ^^^ b < 2 ^ 63 := Nat.xor_lt_two_pow (by omega) (by omega)
  have e : bits .xor .i64 (a : Int) (b : Int) = ((a ^^^ b : Nat) : Int) := by
    show IntKind.i64.wrap ((BitVec.ofInt 64 (a : Int) ^^^ BitVec.ofInt 64 (b : Int)).toNat : Int) = _
    rw [BitVec.toNat_xor, h1 a (by omega), h1 b (by omega), IntKind.wrap_i64]
    omega
  rw [e]
  omega

theorem intDiv_rem (a b : Nat) (hb : 0 < b) : Op.intDiv .rem .i64 (a : Int) (b : Int) = pure (.int .i64 ((a % b : Nat) : Int)) := by
  unfold Op.intDiv
  rw [if_neg (by omega)]
  show pure _ = _
  rw [IntWalk.up_tmod (a := (a : Int)) (b := (b : Int)) rfl rfl]
theorem intDiv_quo (a b : Nat) (hb : 0 < b) (ha : a < 9223372036854775808) : Op.intDiv .quo .i64 (a : Int) (b : Int) = pure (.int .i64 ((a / b : Nat) : Int)) := by
  unfold Op.intDiv
  rw [if_neg (by omega)]
  show pure _ = _
  have h := Nat.div_le_self a b
  generalize hc : a / b = c at h
  rw [IntWalk.up_tdiv (a := (a : Int)) (b := (b : Int)) rfl rfl, hc, IntWalk.i64_in _ (by omega)]

set_option maxHeartbeats 1000000 in
theorem pick_any (blk N : Nat) (n : Int) (hn : 1 ≤ n) (hn' : n ≤ 1000000) (w : World) (hN : N ≤ 1000000000) (h : Rd w blk N) :
    Calls Try.prog 68 #[.pointer (some ⟨blk, 0, none⟩), .int .i64 n] w fun e w' =>
      ∃ r : Int, e = .returned (.int .i64 r) ∧ (0 ≤ r ∧ r < n) ∧ Rd w' blk (N + 1) ∧ w.grownBy w' (some blk) := by
  obtain ⟨a, len, cap, p, hp, hlen, hh, hbytes⟩ := h
  have hc0 : w.cell? ⟨blk, 0, none⟩ = some (.slice a len cap) := by simp [World.cell?, hh]
  have hc1 : w.cell? ⟨blk, 1, none⟩ = some (.int .i64 (p : Int)) := by simp [World.cell?, hh]
  have hf1 : w.frozen? ⟨blk, 1, none⟩ = false := by simp [World.frozen?, hh]
  have hgrow : w.grownBy (w.setCell ⟨blk, 1, none⟩ (.int .i64 ((p : Int) + 1))) (some blk) :=
    ⟨rfl, rfl, rfl, by simp, fun i hi hne => Below.heap_setCell w _ _ i (by rintro rfl; exact hne rfl)⟩
  have hh1 : (w.setCell ⟨blk, 1, none⟩ (.int .i64 ((p : Int) + 1))).heap[blk]? = some (.cells #[.slice a len cap, .int .i64 ((p : Int) + 1)] 100 (0, 0)) := by
    simp [World.setCell, Array.getElem?_modify, hh]
  have hb1 : ∀ i, i < len → ∃ x, a = some x ∧ x.block < blk ∧ ByteAt (w.setCell ⟨blk, 1, none⟩ (.int .i64 ((p : Int) + 1))) (x.add i) := fun i hi => by
    obtain ⟨x, e, hx, z, hz, hc⟩ := hbytes i hi
    exact ⟨x, e, hx, z, hz, (World.cell?_setCell_other _ _ _ _ (fun e => absurd (show x.block = blk from by rw [← block_add x i, ← e]) (by omega))).trans hc⟩
  have hrd : Rd (w.setCell ⟨blk, 1, none⟩ (.int .i64 ((p : Int) + 1))) blk (N + 1) := ⟨a, len, cap, p + 1, by omega, hlen, by rw [hh1]; simp, hb1⟩
  have hd0 : (w.setCell ⟨blk, 1, none⟩ (.int .i64 ((p : Int) + 1))).cell? ⟨blk, 0, none⟩ = some (.slice a len cap) := by simp [World.cell?, hh1]
  have hd1 : (w.setCell ⟨blk, 1, none⟩ (.int .i64 ((p : Int) + 1))).cell? ⟨blk, 1, none⟩ = some (.int .i64 ((p : Int) + 1)) := by simp [World.cell?, hh1]
  by_cases h0 : len = 0
  · have hl0 : ((len : Int) == 0) = true := by simp [h0]
    have H0 := Lib.hid h0
    have HG := Lib.hid (And.intro hrd hgrow)
    clear h0 hbytes hh hh1 hb1 hrd hgrow hd0 hd1
    go_enter Try.func68, Try.ntmps68
    go_wp2
    go_ret
    exact ⟨0, rfl, ⟨by omega, by omega⟩, HG.out.1, HG.out.2⟩
  have hl0 : ((len : Int) == 0) = false := by simp [h0]
  have hlp : 0 < len := by omega
  have hn1 : decide (n < 1) = false := by simp; omega
  by_cases hk : p < len
  · obtain ⟨x, rfl, hx, z, hz, hz1⟩ := hb1 p hk
    have HG := Lib.hid (And.intro hrd hgrow)
    have hzn : (z : Int) % n < n := Int.emod_lt_of_pos _ (by omega)
    have hzp : 0 ≤ (z : Int) % n := Int.emod_nonneg _ (by omega)
    clear hbytes hh hh1 hb1 hrd hgrow h0
    go_enter Try.func68, Try.ntmps68
    go_wp2
    go_ret
    exact ⟨_, rfl, ⟨hzp, hzn⟩, HG.out.1, HG.out.2⟩
  · obtain ⟨x, rfl, hx, z, hz, hz1⟩ := hb1 (p % len) (Nat.mod_lt _ hlp)
    obtain ⟨x', e', _, y, hy, hy1⟩ := hb1 ((p * 7 + 3) % len) (Nat.mod_lt _ hlp)
    obtain rfl : x = x' := by injection e'
    have b1 : 0 ≤ (p : Int) % (len : Int) := Int.emod_nonneg _ (by omega)
    have b2 : (p : Int) % (len : Int) < (len : Int) := Int.emod_lt_of_pos _ (by omega)
    have b3 : 0 ≤ ((p : Int) * 7 + 3) % (len : Int) := Int.emod_nonneg _ (by omega)
    have b4 : ((p : Int) * 7 + 3) % (len : Int) < (len : Int) := Int.emod_lt_of_pos _ (by omega)
    have b5 : 0 ≤ (p : Int) / (len : Int) := Int.ediv_nonneg (by omega) (by omega)
    have b6 : (p : Int) / (len : Int) ≤ (p : Int) := Int.ediv_le_self _ (by omega)
    have HG := Lib.hid (And.intro hrd hgrow)
    have HX := Lib.hid (i64_xor_nonneg ((z : Int) * 131 + (y : Int) * 1117 + (p : Int) * 29 + (p : Int) / (len : Int) * 53) (((z : Int) * 131 + (y : Int) * 1117 + (p : Int) * 29 + (p : Int) / (len : Int) * 53) / 64) (by omega) (by omega) (by omega) (by omega)).1
    clear hbytes hh hh1 hb1 hrd hgrow h0 e'
    go_enter Try.func68, Try.ntmps68
    go_wp2
    generalize w.setCell ⟨blk, 1, none⟩ (.int .i64 ((p : Int) + 1)) = w1 at *
    go_quiet (fail)
    go_wp2
    go_ret
    refine ⟨_, rfl, ⟨Int.tmod_nonneg _ HX.out, Int.tmod_lt_of_pos _ (by omega)⟩, ?_, ?_⟩
    · exact HG.out.1.drewN _
    · exact ⟨HG.out.2.os, HG.out.2.tape, HG.out.2.output, HG.out.2.size, HG.out.2.block⟩

set_option maxHeartbeats 1000000 in
theorem odd_any (blk N : Nat) (n : Int) (hn : 0 ≤ n) (hn' : n ≤ 1000000) (w : World) (hN : N ≤ 1000000000) (h : Rd w blk N) :
    Calls Try.prog 99 #[.pointer (some ⟨blk, 0, none⟩), .int .i64 n] w fun e w' =>
      ∃ r : Bool, e = .returned (.bool r) ∧ Rd w' blk (N + 1) ∧ w.grownBy w' (some blk) := by
  by_cases h0 : n = 0
  · subst h0
    go_enter Try.func99, Try.ntmps99
    go_wp2
    go_ret
    exact ⟨_, rfl, h.more (by omega), World.grownBy.refl _ _⟩
  · have h1 : 0 < n := by omega
    have H := Lib.hid h
    clear h h0
    go_enter Try.func99, Try.ntmps99
    go_wp2_with fail
    refine (pick_any blk N n (by omega) hn' _ hN H.out).mono ?_
    rintro e w1 ⟨r, rfl, hr, hrd, hg⟩
    have HG := Lib.hid (And.intro hrd hg)
    clear hrd hg
    go_wp2_with fail
    go_ret
    exact ⟨_, rfl, HG.out.1, HG.out.2⟩

set_option maxHeartbeats 1000000 in
theorem open_any (a : Option Addr) (len cap : Nat) (zs : List Int) (w : World) (h : IsRow .u8 w a len cap zs) :
    Calls Try.prog 67 #[.slice a len cap] w fun e w' => e = .returned (.pointer (some ⟨w.heap.size, 0, none⟩)) ∧ Rd w' w.heap.size 0 ∧ Below w.heap.size w w' := by
  have hbytes : ∀ i, i < len → ∃ x, a = some x ∧ x.block < w.heap.size ∧ ByteAt w (x.add i) := by
    intro i hi
    rcases h with ⟨rfl, rfl, rfl, rfl⟩ | ⟨x, rfl, hl, hm, hz, hc, hwf⟩
    · omega
    · refine ⟨x, rfl, by have := World.block_lt_of_cell? w _ (hc i (by omega)); rwa [block_add] at this, (zs.getD i 0).toNat, ?_⟩
      have hm : zs.getD i 0 ∈ zs := by
        rw [List.getD_eq_getElem?_getD, List.getElem?_eq_getElem (by omega), Option.getD_some]
        exact List.getElem_mem _
      have hw := hwf _ hm
      have hw' : 0 ≤ zs.getD i 0 ∧ zs.getD i 0 ≤ 255 := by simpa [Lit.wf, IntKind.min, IntKind.max, IntKind.signed, IntKind.bits] using hw
      refine ⟨by omega, ?_⟩
      rw [hc i (by omega)]
      congr 2
      omega
  have hcap : len ≤ cap := by
    rcases h with ⟨rfl, rfl, rfl, rfl⟩ | ⟨x, rfl, hl, hm, hz, hc, hwf⟩
    · omega
    · exact hl
  have hmax : len ≤ maxLen := by
    rcases h with ⟨rfl, rfl, rfl, rfl⟩ | ⟨x, rfl, hl, hm, hz, hc, hwf⟩
    · omega
    · omega
  have hcmax : cap ≤ maxLen := by
    rcases h with ⟨rfl, rfl, rfl, rfl⟩ | ⟨x, rfl, hl, hm, hz, hc, hwf⟩
    · omega
    · omega
  unfold maxLen at hmax hcmax
  have key : ∀ (a' : Option Addr) (l c : Nat), l ≤ 2000 → (∀ i, i < l → ∃ x, a' = some x ∧ x.block < w.heap.size ∧ ByteAt w (x.add i)) →
      Rd (w.alloc (.cells #[.slice a' l c, .int .i64 0] 100)) w.heap.size 0 := by
    intro a' l c hl hb
    refine ⟨a', l, c, 0, Nat.le_refl _, hl, ?_, ?_⟩
    · simpa using heap_alloc_new w _
    · intro i hi
      obtain ⟨x, e, hx, z, hz, hc⟩ := hb i hi
      exact ⟨x, e, by omega, z, hz, (World.cell?_alloc_lt w _ _ (by rw [block_add]; exact hx)).trans hc⟩
  have HK := Lib.hid key
  have HB := Lib.hid hbytes
  clear key hbytes h
  by_cases hbig : 2000 < len
  · go_enter Try.func67, Try.ntmps67
    go_wp2
    go_ret
    exact ⟨rfl, HK.out a 2000 cap (by omega) (fun i hi => HB.out i (by omega)), (Below.refl _ _).alloc (Nat.le_refl _) _⟩
  · go_enter Try.func67, Try.ntmps67
    go_wp2
    go_ret
    exact ⟨rfl, HK.out a len cap (by omega) HB.out, (Below.refl _ _).alloc (Nat.le_refl _) _⟩

/-- What a reader's step leaves of older memory. -/
theorem below_only {B : Nat} {a w w' : World} {blk : Nat} (h : Below B a w) (hg : w.grownBy w' (some blk)) (hb : B ≤ blk) (hB : B ≤ a.heap.size) : Below B a w' :=
  ⟨hg.os.trans h.os, hg.tape.trans h.tape, hg.output.trans h.output, Nat.le_trans h.size hg.size, fun k hk => (hg.block k (Nat.lt_of_lt_of_le hk (Nat.le_trans hB h.size)) (by simp; omega)).trans (h.block k hk)⟩

theorem Rd.lt {w : World} {blk N : Nat} (h : Rd w blk N) : blk < w.heap.size := by
  obtain ⟨a, len, cap, p, hp, hl, hh, r⟩ := h
  exact (Array.getElem?_eq_some_iff.1 hh).1

theorem Rd.alloc {w : World} {blk N : Nat} (h : Rd w blk N) (o : Obj) : Rd (w.alloc o) blk N := by
  obtain ⟨a, len, cap, p, hp, hl, hh, hby⟩ := h
  refine ⟨a, len, cap, p, hp, hl, (Below.heap_alloc w o blk (Array.getElem?_eq_some_iff.1 hh).1).trans hh, fun i hi => ?_⟩
  obtain ⟨x, e, hx, z, hz, hc⟩ := hby i hi
  exact ⟨x, e, hx, z, hz, (World.cell?_alloc_lt w o _ (World.block_lt_of_cell? w _ hc)).trans hc⟩

/-- An element of a literal row. -/
theorem row_pick {w : World} {b : Nat} {l : List Value} {T : TypeId} {fr : Nat × Nat} (h : w.heap[b]? = some (.cells l.toArray T fr)) {Q : Value → Prop} (hall : ∀ v ∈ l, Q v) {r : Int} (h0 : 0 ≤ r) (hr : r < l.length) :
    ∃ v, Q v ∧ w.cell? ⟨b, r.toNat, none⟩ = some v := by
  have hlt : r.toNat < l.length := by omega
  refine ⟨l[r.toNat], hall _ (List.getElem_mem _), ?_⟩
  rw [cell_of_row w b r.toNat _ _ _ h]
  simp [hlt]

def SmallStr (v : Value) : Prop := ∃ s : ByteArray, v = .string s ∧ s.size ≤ 40
end Go.Proofs.Ytdehpafflbhadaa
