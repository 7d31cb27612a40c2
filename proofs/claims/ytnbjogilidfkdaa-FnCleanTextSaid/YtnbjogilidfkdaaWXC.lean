/- Contracts: strings.ContainsAny of any text, for a slash and a question mark. -/
import Derived.Test.YtnbjogilidfkdaaWX5
import Derived.Test.YtnbjogilidfkdaaWSh
import Derived.Laws.RangeAny
import Derived.Laws.Runes
import Derived.Lib.IndexAny
import Derived.Deep.LoopGhost
import Derived.WalkMore
import Derived.BigQuiet
import Derived.Test.YtnbjogilidfkdaaWFE

namespace Go.Proofs.Ytnbjogilidfkdaa
set_option maxRecDepth 100000
set_option linter.unusedVariables false
set_option linter.unusedSimpArgs false
open Go.RowKit
def SQ : ByteArray := ⟨#[47, 63]⟩
theorem SQ_size : SQ.size = 2 := rfl
theorem SQ_list : SQ.data.toList = [47, 63] := rfl
theorem ixb_any (s : ByteArray) (c : Int) (w : World) :
    Calls Try.prog 117 #[.string s, .int .u8 c] w fun e w' => e = .returned (.int .i64 (Lib.indexByte s.data.toList c.toNat.toUInt8)) ∧ w' = w := by
  go_enter Try.func117, Try.ntmps117
  go_wp2_with (refine (ixs_any s c w).mono ?_; rintro e w' ⟨rfl, rfl⟩)
  go_ret
  exact ⟨rfl, rfl⟩
/-- A rune that takes more than one byte: all these bytes are high. -/
theorem decode_skip (s : ByteArray) (i : Nat) (h : i < s.size) (hb : 128 ≤ (s[i]'h).toNat) : ∀ j, j < (Utf8.decode s i).2 → ∃ h2 : i + j < s.size, 128 ≤ (s[i + j]'h2).toNat := by
  have hn : ¬ (s[i]'h).toNat < 128 := by omega
  have g : ∀ k (hk : i + k < s.size), (s.get! (i + k)) = s[i + k]'hk := fun k hk => by simp [ByteArray.get!, getElem!_pos, hk]; rfl
  have g0 : s.get! (i + 0) = s[i]'h := g 0 h
  have one : ∀ j, j < 1 → ∃ h2 : i + j < s.size, 128 ≤ (s[i + j]'h2).toNat := by
    intro j hj
    obtain rfl : j = 0 := by omega
    exact ⟨h, hb⟩
  have cont : ∀ k, (decide (i + k < s.size) && (s.get! (i + k)).toNat / 64 == 2) = true → ∃ h2 : i + k < s.size, 128 ≤ (s[i + k]'h2).toNat := by
    intro k hk
    simp only [Bool.and_eq_true, decide_eq_true_eq, beq_iff_eq] at hk
    obtain ⟨h1, h2⟩ := hk
    rw [g k h1] at h2
    exact ⟨h1, by omega⟩
  intro j hj
  simp only [Utf8.decode, g0, hn, if_false] at hj
  split at hj
  · rename_i hc
    simp only [Bool.and_eq_true] at hc
    split at hj
    · have : j = 0 ∨ j = 1 := by omega
      rcases this with rfl | rfl
      · exact ⟨h, hb⟩
      · exact cont 1 (by simpa using hc.2)
    · exact one j hj
  split at hj
  · rename_i _ hc
    simp only [Bool.and_eq_true] at hc
    split at hj
    · have : j = 0 ∨ j = 1 ∨ j = 2 := by omega
      rcases this with rfl | rfl | rfl
      · exact ⟨h, hb⟩
      · exact cont 1 (by simpa using hc.1.2)
      · exact cont 2 (by simpa using hc.2)
    · exact one j hj
  split at hj
  · rename_i _ _ hc
    simp only [Bool.and_eq_true] at hc
    split at hj
    · have : j = 0 ∨ j = 1 ∨ j = 2 ∨ j = 3 := by omega
      rcases this with rfl | rfl | rfl | rfl
      · exact ⟨h, hb⟩
      · exact cont 1 (by simpa using hc.1.1.2)
      · exact cont 2 (by simpa using hc.1.2)
      · exact cont 3 (by simpa using hc.2)
    · exact one j hj
  · exact one j hj
set_option maxHeartbeats 4000000 in
set_option maxRecDepth 1000000 in
theorem idxRune_err (w : World) :
    Calls Try.prog 153 #[.string SQ, .int .i32 65533] w fun e w' => e = .returned (.int .i64 (-1)) ∧ Below w.heap.size w w' := by
  go_enter Try.func153, Try.ntmps153
  go_wp2
  go_loopg [5, 6] 2 (fun g _ _ wx => ∃ i : Nat, i + g = 2 ∧ wx = w.iter SQ i)
  case atStart => exact ⟨0, by omega, rfl⟩
  case round =>
    obtain ⟨i, hig, rfl⟩ := hrel
    cases gk with
    | zero =>
      obtain rfl : i = 2 := by omega
      have hnx := fun ty => run_next_end (P := Try.prog) w SQ 2 ty (by decide)
      go_wp2
      go_ret
      exact ⟨rfl, (Below.refl _ _).alloc (Nat.le_refl _) _⟩
    | succ g =>
      have hi : i < SQ.size := by rw [SQ_size]; omega
      have hx128 : (SQ[i]'hi).toNat < 128 := by
        have : i = 0 ∨ i = 1 := by omega
        rcases this with rfl | rfl
        · exact (by decide : (47 : UInt8).toNat < 128)
        · exact (by decide : (63 : UInt8).toNat < 128)
      have hnx := fun ty => run_next_ascii (P := Try.prog) w SQ i ty hi hx128
      obtain ⟨x, hx⟩ : ∃ x : UInt8, SQ[i]'hi = x := ⟨_, rfl⟩
      rw [hx] at hnx hx128
      have hne : ((x.toNat : Int) == 65533) = false := beq_eq_false_iff_ne.2 (by omega)
      go_wp2
      go_roundg g
      case measure => omega
      case rel => exact ⟨i + 1, by omega, rfl⟩
set_option maxHeartbeats 4000000 in
set_option maxRecDepth 1000000 in
theorem idxRune_high (r : Int) (h1 : 128 ≤ r) (h2 : r ≤ 2147483647) (w : World) :
    Calls Try.prog 153 #[.string SQ, .int .i32 r] w fun e w' => e = .returned (.int .i64 (-1)) ∧ Below w.heap.size w w' := by
  by_cases he : r = 65533
  · subst he; exact idxRune_err w
  have hz0 : (0 : Int) ≤ r := by omega
  have hz1 : ¬ (r < 128) := by omega
  have hz2 : (r == 65533) = false := beq_eq_false_iff_ne.2 he
  by_cases hv : Utf8.valid r = true
  · obtain ⟨q1, q2, q3⟩ := encode_facts r hv h1
    have hvr : Lib.validRune r = true := by rw [← hv]; exact (validRune_eq r).symm
    go_enter Try.func153, Try.ntmps153
    go_wp2_with (refine (Try.utf8_ValidRune r _).mono ?_; rintro e w' ⟨rfl, rfl⟩; rw [hvr])
    by_cases hs : (Utf8.encode r).size = 2
    · have hw : wrap64 (((Utf8.encode r).size : Int) - 1) = 1 := by rw [hs]; exact (IntWalk.wrap64_in _ ⟨by decide, by decide⟩).trans (by decide)
      obtain ⟨x, hx, hx2⟩ : ∃ x : UInt8, (Utf8.encode r)[1]'(by omega) = x ∧ 128 ≤ x.toNat := by
        refine ⟨_, rfl, ?_⟩
        have := q3 (by omega)
        simpa [hs] using this
      have hxe : (Utf8.encode r).data.toList[1]? = some x := by rw [← hx]; exact Lib.data_getElem? _ 1 (by omega)
      have hb1 : (0 : Int) ≤ 1 ∧ (1 : Int) < (SQ.size : Int) := by rw [SQ_size]; decide
      have hb2 : (0 : Int) ≤ 1 ∧ (1 : Int) < ((Utf8.encode r).size : Int) := by rw [hs]; decide
      have hneq : (((SQ[1]'(by rw [SQ_size]; decide)).toNat : Int) != (x.toNat : Int)) = true := by
        have : (SQ[1]'(by rw [SQ_size]; decide)).toNat = 63 := rfl
        rw [this, bne_iff_ne]
        omega
      have hsz : SQ.size = 2 := rfl
      have hwr : wrap64 (1 + 1) = 2 := (IntWalk.wrap64_in _ ⟨by decide, by decide⟩).trans (by decide)
      have hb3 : (2 : Int) ≤ (SQ.size : Int) := by rw [SQ_size]; decide
      have hb4 : (1 : Int) < (SQ.size : Int) := by rw [SQ_size]; decide
      have hext : Lib.indexByte (SQ.extract 2 SQ.size).data.toList x = -1 := rfl
      go_step3
      go_wp2
      go_loopg [9, 10] 1 (fun g s9 s10 wx => s9 = .int .i64 1 ∧ wx = w')
      case atStart => exact ⟨by first | rfl | rw [hw], rfl⟩
      case round =>
        obtain ⟨rfl, rfl⟩ := hrel
        go_wp2
        go_step3
        go_wp2
        go_quiet (fail)
        go_wp2
        refine wp_region_quiet_lit (by kernel_rfl) (by kernel_rfl) ?_
        go_big_quiet_want
        go_big_quiet_op
        go_big_quiet_on
        go_big_quiet_want
        go_big_quiet_op
        go_big_quiet_on
        go_big_quiet_want
        go_big_quiet_op
        go_big_quiet_on
        go_big_quiet_want
        go_big_quiet_op
        go_big_quiet_on
        go_big_quiet_want
        go_big_quiet_op
        go_big_quiet_on
        go_big_quiet_want
        go_big_quiet_op
        go_big_quiet_on
        go_big_quiet_want
        go_big_quiet_op
        go_big_quiet_on
        go_big_quiet_want
        go_big_quiet_op
        go_big_quiet_call (exact (ixb_any _ _ _).mono fun e w' h => ⟨h.1, _, h.2⟩)
        go_big_quiet_want
        go_big_quiet_op
        go_big_quiet_on
        refine wpQuiet_nil ?_
        intro z hz
        obtain ⟨m, rfl⟩ := hz
        have hxn : (x.toNat : Int).toNat.toUInt8 = x := by simp
        have hemp : Lib.indexByte ByteArray.empty.data.toList (x.toNat : Int).toNat.toUInt8 = -1 := rfl
        rw [hemp]
        go_wp2
        simp only [Exit.noGoto_ret, Exit.inBlock, Exit.then]
        go_ret
        exact ⟨rfl, ⟨rfl, rfl, rfl, Nat.le_refl _, fun _ _ => rfl⟩⟩
    · obtain ⟨n, hn⟩ : ∃ n : Nat, (Utf8.encode r).size = n := ⟨_, rfl⟩
      rw [hn] at q1 q2
      have hw : wrap64 (((Utf8.encode r).size : Int) - 1) = (n : Int) - 1 := by rw [hn]; exact IntWalk.wrap64_in _ ⟨by omega, by omega⟩
      have hlt : ¬ ((n : Int) - 1 < (SQ.size : Int)) := by rw [SQ_size]; omega
      go_step3
      go_wp2
      go_loopg [9, 10] 1 (fun g s9 s10 wx => s9 = .int .i64 ((n : Int) - 1) ∧ wx = w')
      case atStart => exact ⟨by first | rfl | rw [hw], rfl⟩
      case round =>
        obtain ⟨rfl, rfl⟩ := hrel
        go_wp2
        simp only [Exit.noGoto_ret, Exit.inBlock, Exit.then]
        go_ret
        exact ⟨rfl, Below.refl _ _⟩
  · have hvr : Lib.validRune r = false := by
      have : Utf8.valid r = false := by simpa using hv
      rw [← this]; exact (validRune_eq r).symm
    go_enter Try.func153, Try.ntmps153
    go_wp2_with (refine (Try.utf8_ValidRune r _).mono ?_; rintro e w' ⟨rfl, rfl⟩; rw [hvr])
    go_ret
    exact ⟨rfl, Below.refl _ _⟩
theorem noAny_add {s ch : List UInt8} {i n : Nat} (h : Lib.NoAny s ch i) (hn : ∀ j, j < n → ∀ b, s[i + j]? = some b → ch.contains b = false) : Lib.NoAny s ch (i + n) := by
  intro j b hj hb
  by_cases e : j < i
  · exact h j b e hb
  · exact hn (j - i) (by omega) b (by rw [show i + (j - i) = j by omega]; exact hb)
theorem high_not {b : UInt8} (h : 128 ≤ b.toNat) : SQ.data.toList.contains b = false := by
  rw [SQ_list]
  simp only [List.contains_cons, List.contains_nil, Bool.or_false, Bool.or_eq_false_iff, beq_eq_false_iff_ne]
  constructor <;> (rintro rfl; revert h; decide)
theorem next_at {P : Program} (w : World) (b : Nat) (s : ByteArray) (pos : Nat) (ty : TypeId) (hb : w.heap[b]? = some (.stringIter s pos)) (h : pos < s.size) :
    (Instr.next (.pointer (some ⟨b, 0, none⟩)) true ty).run P w =
      .ok (.tuple #[.bool true, .int .i64 pos, .int .i32 (Utf8.decode s pos).1]) { w with heap := w.heap.setIfInBounds b (.stringIter s (pos + (Utf8.decode s pos).2)) } := by
  simp only [Instr.next, getObj, setObj, Sem.run_bind, Sem.run, hb, Result.andThen, h, if_true]
  simp [goInt]
theorem next_at_end {P : Program} (w : World) (b : Nat) (s : ByteArray) (pos : Nat) (ty : TypeId) (hb : w.heap[b]? = some (.stringIter s pos)) (h : ¬ pos < s.size) :
    (Instr.next (.pointer (some ⟨b, 0, none⟩)) true ty).run P w = .ok (.tuple #[.bool false]) w := by
  simp [Instr.next, getObj, Sem.run, hb, h]
set_option maxHeartbeats 8000000 in
set_option maxRecDepth 1000000 in
theorem idxAny_short (s : ByteArray) (w : World) (h8 : s.size ≤ 8) :
    Calls Try.prog 144 #[.string s, .string SQ] w fun e w' => e = .returned (.int .i64 (Lib.indexAny s.data.toList SQ.data.toList)) ∧ Below w.heap.size w w' := by
  have hemp : SQ.toList.isEmpty = false := by rw [Lib.toList_data]; rfl
  have hn1 : ((SQ.size : Int) == 1) = false := rfl
  have h8z : decide ((8 : Int) < (s.size : Int)) = false := decide_eq_false (by omega)
  go_enter Try.func144, Try.ntmps144
  go_wp2_with (refine (Try.strings_shouldUseASCIISet _ _).mono ?_; rintro e w' ⟨rfl, hw⟩; rw [hw, h8z])
  go_loopg [9, 10] s.size (fun g _ _ wx => ∃ i : Nat, i ≤ s.size ∧ s.size - i ≤ g ∧ wx.heap[w.heap.size]? = some (.stringIter s i) ∧ Below w.heap.size w wx ∧ Lib.NoAny s.data.toList SQ.data.toList i)
  case atStart => exact ⟨0, by omega, by omega, World.iter_heap _ _ _, (Below.refl _ _).alloc (Nat.le_refl _) _, Lib.NoAny.zero _ _⟩
  case round =>
    obtain ⟨i, his, hig, hit, hbel, hno⟩ := hrel
    have HN : Aside (Lib.NoAny s.data.toList SQ.data.toList i) := hno
    have HB : Aside (Below w.heap.size w wr) := hbel
    clear hno hbel
    by_cases hi : i < s.size
    · obtain ⟨g, rfl⟩ : ∃ g, gk = g + 1 := ⟨gk - 1, by omega⟩
      have hnx := fun ty => next_at (P := Try.prog) wr w.heap.size s i ty hit hi
      obtain ⟨x, hx⟩ : ∃ x : UInt8, s[i]'hi = x := ⟨_, rfl⟩
      have hxl : s.data.toList[i]? = some x := by rw [← hx]; exact Lib.data_getElem? s i hi
      have hlt : w.heap.size < wr.heap.size := (Array.getElem?_eq_some_iff.1 hit).1
      have hbel2 : ∀ o : Obj, Below w.heap.size w { wr with heap := wr.heap.setIfInBounds w.heap.size o } := fun o =>
        ⟨HB.out.os, HB.out.tape, HB.out.output, by simpa using HB.out.size, fun k hk => by
          rw [← HB.out.block k hk]
          show (wr.heap.setIfInBounds w.heap.size o)[k]? = _
          rw [Array.getElem?_setIfInBounds, if_neg (by omega)]⟩
      have hit2 : ∀ o : Obj, ({ wr with heap := wr.heap.setIfInBounds w.heap.size o } : World).heap[w.heap.size]? = some o := fun o => by
        show (wr.heap.setIfInBounds w.heap.size o)[w.heap.size]? = _
        rw [Array.getElem?_setIfInBounds]; simp [hlt]
      have HC : Aside (∀ o : Obj, Below w.heap.size w { wr with heap := wr.heap.setIfInBounds w.heap.size o }) := hbel2
      have HI : Aside (∀ o : Obj, ({ wr with heap := wr.heap.setIfInBounds w.heap.size o } : World).heap[w.heap.size]? = some o) := hit2
      have Hx : Aside (s.data.toList[i]? = some x) := hxl
      clear hbel2 hit2 hxl hit
      by_cases h128 : x.toNat < 128
      · have hde : Utf8.decode s i = (x.toNat, 1) := by rw [← hx]; exact decode_ascii s i hi (by rw [hx]; exact h128)
        rw [hde] at hnx
        clear hde hx
        have hcon := Lib.contains_iff_indexByte SQ.data.toList x
        have hback : ((x.toNat : Int)).toNat.toUInt8 = x := by simp
        cases hin : SQ.data.toList.contains x
        · rw [hin] at hcon
          have hlt0 : ¬ ((0 : Int) ≤ Lib.indexByte SQ.data.toList x) := of_decide_eq_false hcon.symm
          clear hcon
          go_wp2_with (refine (Try.strings_IndexRune_ascii _ _ _ (by omega) (by omega)).mono ?_; rintro e w' ⟨rfl, hw⟩; rw [hw, hback])
          go_roundg g
          case measure => omega
          case rel => exact ⟨i + 1, by omega, by omega, HI.out _, HC.out _, HN.out.succ Hx.out hin⟩
        · rw [hin] at hcon
          have hge : (0 : Int) ≤ Lib.indexByte SQ.data.toList x := of_decide_eq_true hcon.symm
          clear hcon
          go_wp2_with (refine (Try.strings_IndexRune_ascii _ _ _ (by omega) (by omega)).mono ?_; rintro e w' ⟨rfl, hw⟩; rw [hw, hback])
          go_ret
          exact ⟨by rw [Lib.indexAny_hit HN.out Hx.out hin]; rfl, HC.out _⟩
      · have hdh := decode_high s i hi (by rw [hx]; omega)
        have hdl := decode_le s i
        have hsk : Aside (∀ j, j < (Utf8.decode s i).2 → ∃ h2 : i + j < s.size, 128 ≤ (s[i + j]'h2).toNat) := decode_skip s i hi (by rw [hx]; omega)
        clear hx
        obtain ⟨⟨rn, dn⟩, hde⟩ : ∃ q, Utf8.decode s i = q := ⟨_, rfl⟩
        rw [hde] at hnx hdh hdl hsk
        clear hde
        dsimp only at hdh hdl hsk hnx
        go_wp2_with (refine (idxRune_high (rn : Int) (by omega) (by omega) _).mono ?_; rintro e w1 ⟨rfl, hw1⟩)
        have hc := HC.out (.stringIter s (i + dn))
        have hi2 := HI.out (.stringIter s (i + dn))
        have hs2 : wr.heap.size = (wr.heap.setIfInBounds w.heap.size (Obj.stringIter s (i + dn))).size := by simp
        have hb1 : Below w.heap.size w w1 := ⟨hw1.os.trans hc.os, hw1.tape.trans hc.tape, hw1.output.trans hc.output, Nat.le_trans hc.size hw1.size, fun k hk => (hw1.block k (by omega)).trans (hc.block k hk)⟩
        have hi1 : w1.heap[w.heap.size]? = some (.stringIter s (i + dn)) := (hw1.block w.heap.size (by omega)).trans hi2
        have hle : i + dn ≤ s.size := by
          obtain ⟨h2, _⟩ := hsk.out (dn - 1) (by omega)
          omega
        have hn2 : Lib.NoAny s.data.toList SQ.data.toList (i + dn) := noAny_add HN.out fun j hj b hb => by
          obtain ⟨h2, h3⟩ := hsk.out j hj
          rw [Lib.data_getElem? s (i + j) h2] at hb
          cases hb
          exact high_not h3
        go_roundg g
        case measure => omega
        case rel => exact ⟨i + dn, hle, by omega, hi1, hb1, hn2⟩
    · obtain rfl : i = s.size := by omega
      have hnx := fun ty => next_at_end (P := Try.prog) wr w.heap.size s s.size ty hit (by omega)
      go_wp2
      go_ret
      exact ⟨by rw [Lib.indexAny_none (by rw [← Lib.size_eq]; exact HN.out)]; rfl, HB.out⟩
theorem idxAny_all (s : ByteArray) (w : World) (hs : s.size < 4294967281) :
    Calls Try.prog 144 #[.string s, .string SQ] w fun e w' => e = .returned (.int .i64 (Lib.indexAny s.data.toList SQ.data.toList)) ∧ Below w.heap.size w w' := by
  by_cases h8 : s.size ≤ 8
  · exact idxAny_short s w h8
  · refine (Try.strings_IndexAny_long (zero_of_info (P := Try.prog) (n := 256) (by kernel_rfl)).1 s SQ w (by rw [SQ_size]; omega) (by omega) hs (by rw [SQ_size]; omega) ?_).mono fun e w' ⟨h1, h2⟩ => ⟨h1, ?_⟩
    · intro j b hb
      rw [SQ_list] at hb
      have : j = 0 ∨ j = 1 ∨ 2 ≤ j := by omega
      rcases this with rfl | rfl | h
      · simp at hb; subst hb; decide
      · simp at hb; subst hb; decide
      · rw [List.getElem?_eq_none (by simpa using h)] at hb; cases hb
    · rw [h2]
      exact ((Below.refl _ _).alloc (Nat.le_refl _) _).alloc (by simp) _
theorem contAny_all (s : ByteArray) (w : World) (hs : s.size < 4294967281) :
    Calls Try.prog 118 #[.string s, .string SQ] w fun e w' => e = .returned (.bool (Lib.containsAny s.data.toList SQ.data.toList)) ∧ Below w.heap.size w w' := by
  have c := idxAny_all s w hs
  go_enter Try.func118, Try.ntmps118
  go_wp2_with (refine c.mono ?_; rintro e w' ⟨rfl, hw⟩)
  go_ret
  exact ⟨rfl, hw⟩
theorem cany_eq : ∀ s : Bs, Lib.containsAny s [47, 63] = s.any fun b => decide (b.toNat = 47) || decide (b.toNat = 63)
  | [] => rfl
  | b :: r => by
    have ih := cany_eq r
    unfold Lib.containsAny at *
    have hge := Lib.indexAny_ge [47, 63] r
    rw [Lib.indexAny, List.any_cons, ← ih]
    have e : ([47, 63] : Bs).contains b = (decide (b.toNat = 47) || decide (b.toNat = 63)) := by
      revert b; exact all_bytes (by decide)
    rw [e]
    cases (decide (b.toNat = 47) || decide (b.toNat = 63)) with
    | true => simp
    | false =>
      simp only [Bool.false_eq_true, if_false, Bool.false_or]
      split
      · rename_i h; simp only [beq_iff_eq] at h; simp [h]
      · rename_i h; simp only [beq_iff_eq] at h; rw [decide_eq_decide]; omega
/-- Whether there is a slash or a question mark. -/
@[go_sem] def canC : PC := rel (α := Bs) (fun s => [.str s, .str [47, 63]]) (fun s => s.length < 4294967281) (fun s => .bool (s.any fun b => decide (b.toNat = 47) || decide (b.toNat = 63)))
theorem can_any : PureOk Try.prog 118 canC := by
  refine rel_of_calls ⟨_, Try.func118, by kernel_rfl, by kernel_rfl⟩ ?_
  rintro c s vs hc hl hr
  simp only [RepL.cons_iff, RepL.nil_iff] at hr
  obtain ⟨v, _, rfl, hv, u, _, rfl, hu, rfl⟩ := hr
  unfold Rep at hv hu
  subst hv hu
  refine (contAny_all ⟨s.toArray⟩ c.w hl).mono ?_
  rintro e w' ⟨rfl, hb⟩
  refine ⟨_, rfl, ?_, hb⟩
  unfold Rep
  rw [← cany_eq]
  rfl
end Go.Proofs.Ytnbjogilidfkdaa

/- Contracts: SchemeOf, SafeAddress. -/
namespace Go.Proofs.Ytnbjogilidfkdaa
attribute [local irreducible] awp arun acalm FinP Fin AX.then AX.inBlock Again aG gsel amix amixN amixC aop aopc aopd cutK
attribute [local go_sem] aBSliceD aSlice aSliceC boundOf aMk aCall aCallC aLenL aLen aPick_t aPick_f aNil aAlloc aBox aBuild bldPV aBSlice bsPV aApp newsOf destOf drp aConvX aConv aConvInt aLoad cellsAt aStore cellsPV setAt aFld aField aIdx aIndex aUn aBin' aBin aMax aExtract pvOf PV.isCell nmbL PV.nmb List.map_cons List.map_nil List.all_cons List.all_nil Bool.and_true Bool.true_and if_true if_false List.getD_cons_zero List.getD_cons_succ List.getD_nil Option.isSome_some true_and and_true and_self eq_self true_or or_true List.drop_zero List.drop_succ_cons List.drop_nil List.take_zero List.take_succ_cons List.take_nil List.length_cons List.length_nil List.length_map Option.getD_some Option.getD_none List.nil_append List.cons_append List.append_nil Option.some.injEq exists_eq_left' List.getElem?_cons_zero List.getElem?_cons_succ Int.toNat_natCast Int.natCast_inj toNat_succ Nat.zero_add res res1 resC owns owns1 ownsC List.flatMap_cons List.flatMap_nil List.flatten_cons List.flatten_nil List.mem_cons List.not_mem_nil or_false false_or forall_eq forall_eq_or_imp isFro frz frz1 pureC tabA isBld List.cons.injEq PV.seq.injEq PV.int.injEq PV.str.injEq PV.bool.injEq PV.agg.injEq inR tab Γof aRes packR Option.map_some Option.map_none rel Prod.exists exists_and_left exists_eq_left and_assoc beq_self_eq_true Bool.not_true Bool.not_false decide_true decide_false List.set_cons_zero List.set_cons_succ rst_nil rst_cons
attribute [local go_sem ↓] evT upd_def aop aopc aopd
set_option maxRecDepth 100000
set_option linter.unusedVariables false
set_option linter.unusedSimpArgs false
open Go.RowKit
def lvS11_31 : Nat → List Nat
  | 0 => [0]
  | 1 => [4]
  | 2 => [4, 5]
  | 3 => [4, 5]
  | 4 => [4, 5]
  | 5 => [5]
  | 6 => [2]
  | 7 => [2]
  | _ => []
def lvS11_74 : Nat → List Nat
  | 0 => [0]
  | 1 => [0, 3]
  | 2 => [0, 3, 14]
  | 3 => [2]
  | 4 => [0, 3, 4]
  | 5 => [0, 3, 4, 17]
  | 6 => [0, 3, 4]
  | 7 => [0, 3, 4, 31]
  | 8 => [2]
  | 9 => [0, 3, 33]
  | 10 => [2]
  | 11 => [2]
  | _ => []
--LV=S11
@[go_sem] def scC (f : Bs → PV) : PC := rel (α := Bs) (fun s => [.str s]) (fun s => s.length ≤ 1048576) f
theorem of58 : ofI 58 = 58 := by decide
theorem all_snoc {s : Bs} {k : Nat} {f : UInt8 → Bool} (hk : k < s.length) (h : (s.take k).all f = true) (hf : f (s.getD k 0) = true) : (s.take (k + 1)).all f = true := by
  rw [List.take_succ_eq_append_getElem hk, List.all_append, h]
  rw [List.getD_eq_getElem?_getD, List.getElem?_eq_getElem hk] at hf
  simpa using hf
theorem all_stop {s : Bs} {k q : Nat} {f : UInt8 → Bool} (hk : k < s.length) (hq : k < q) (hf : f (s.getD k 0) = false) : (s.take q).all f = false := by
  rw [List.all_eq_false]
  refine ⟨s[k], ?_, ?_⟩
  · rw [List.mem_take_iff_getElem]; exact ⟨k, by omega, rfl⟩
  · rw [List.getD_eq_getElem?_getD, List.getElem?_eq_getElem hk] at hf
    simpa using hf
set_option maxHeartbeats 4000000 in
theorem sch_i : PureOk Try.prog 74 (scC fun s => .str (schB s)) := by
  refine pure_rel 1 (tab_cons ix_any (tab_cons can_any (tab_cons let_i (tab_cons digb_i (tab_cons low_i tab_nil))))) mixed [.tmp 2] Try.func74 rfl rfl (by kernel_rfl) (by kernel_rfl) (fun _ => rfl) (by kernel_rfl) ?_
  rintro s K hl hK
  unfold entry
  by_cases hq : ixB s 58 < 0
  · unfold schB at hK
    rw [if_pos hq] at hK
    repeat' (first | ((first | apply qwd | apply qa1 | apply qa2 | apply qa3 | apply qh1 | apply qh2 | apply qg1 rfl | apply qcd); (try intro K hk); focus (simp only [lvS11_74, mkT, go_sem, Nat.reduceEqDiff, Nat.reduceAdd, Nat.reduceLeDiff, Nat.reduceLT, Nat.reduceSub, Int.reduceToNat, ↓reduceIte, reduceCtorEq, of58, hq]; first | exact rfl | ((repeat (refine And.intro ?_ ?_; focus (first | omega | assumption | with_reducible rfl))); intros; apply hk; clear hk K))) | apply qw8 | apply qw1 | refine qwc lvS11_74 ?_ | apply qt1 | apply qw5 | apply qw2 | apply qw9 | apply qt2 | apply qt3 | apply qt4 | apply qt5 | apply qt6 | apply qw3 | apply qw4 | apply qj1 | apply qj2 | apply qj3 | apply qj4 | apply qj5 | apply qu1 | apply qu2 | (refine qj6 ?_ ?_ <;> intro hc <;> (try simp only [hc]) <;> (try simp only [decide_eq_true_eq, decide_eq_false_iff_not, Bool.not_eq_true', Bool.not_eq_false', Bool.not_eq_true, reduceCtorEq] at hc) <;> (try (exfalso; omega))) | (refine qt7 ?_ ?_; focus decide) | (refine qw7 ?_ ?_ ?_; (focus (decide +kernel)); (focus (decide +kernel))))
    all_goals first
      | (((first | refine fin_ret ?_ | refine fin_end ?_); simp only [go_sem, ↓upd_def, Nat.reduceEqDiff, Nat.reduceAdd, ↓reduceIte, reduceCtorEq])
         exact hK)
      | exact absurd hq hc
  obtain ⟨h1, h2, h3⟩ := ix_some hq
  obtain ⟨q, hqe⟩ := Int.eq_ofNat_of_zero_le (show 0 ≤ ixB s 58 by omega)
  unfold schB at hK
  rw [if_neg hq, hqe] at hK
  rw [hqe] at h1 h2 h3
  simp only [Int.toNat_natCast] at hK h1 h2 h3
  have hq0 : ((q : Int) < 0) = False := eq_false (by omega)
  have hlt : (s.take q).length = q := by simp; omega
  repeat' (first | ((first | apply qwd | apply qa1 | apply qa2 | apply qa3 | apply qh1 | apply qh2 | apply qg1 rfl | apply qcd); (try intro K hk); focus (simp only [lvS11_74, mkT, go_sem, Nat.reduceEqDiff, Nat.reduceAdd, Nat.reduceLeDiff, Nat.reduceLT, Nat.reduceSub, Int.reduceToNat, ↓reduceIte, reduceCtorEq, of58, hqe, hq0, decide_false, Int.toNat_natCast, List.drop_zero]; first | exact rfl | ((repeat (refine And.intro ?_ ?_; focus (first | omega | assumption | with_reducible rfl))); intros; apply hk; clear hk K))) | apply qw8 | apply qw1 | refine qwc lvS11_74 ?_ | apply qt1 | apply qw5 | apply qw2 | apply qw9 | apply qt2 | apply qt3 | apply qt4 | apply qt5 | apply qt6 | apply qw3 | apply qw4 | apply qj1 | apply qj2 | apply qj3 | apply qj4 | apply qj5 | apply qu1 | apply qu2 | (refine qj6 ?_ ?_ <;> intro hc <;> (try simp only [hc]) <;> (try simp only [decide_eq_true_eq, decide_eq_false_iff_not, Bool.not_eq_true', Bool.not_eq_false', Bool.not_eq_true, reduceCtorEq] at hc) <;> (try (exfalso; omega))) | (refine qt7 ?_ ?_; focus decide) | (refine qw7 ?_ ?_ ?_; (focus (decide +kernel)); (focus (decide +kernel))))
  · ((first | refine fin_ret ?_ | refine fin_end ?_); simp only [go_sem, ↓upd_def, Nat.reduceEqDiff, Nat.reduceAdd, ↓reduceIte, reduceCtorEq])
    refine K_str hK ?_
    unfold schP
    rw [if_pos]
    refine Eq.trans ?_ hc
    rfl
  rename _ = false => ha
  have ha' : ¬ (s.take q).any slq = true := fun h => absurd (ha.symm.trans h) (by decide)
  refine s_loop (ι := Nat) (fun k => [(0, .str s), (3, .int .i64 q), (4, .int .i64 k)]) (fun _ => []) 0 (fun k => k ≤ q ∧ (s.take k).all alnum = true) (fun k => q - k) 0 (by omega) ⟨by omega, by simp⟩ ?_ ?_
  · simp [fits, fitsT, fitsM, upd_def, PV.nmb, nmbL, MB.nmb, List.getD_cons_zero, List.getD_cons_succ]
  rintro k ⟨hk, hal⟩
  simp only [mkS, mkT, mkM]
  have hb := byte_lt s k
  repeat' (first | ((first | apply qwd | apply qa1 | apply qa2 | apply qa3 | apply qh1 | apply qh2 | apply qg1 rfl | apply qcd); (try intro K hk); focus (simp only [lvS11_74, mkT, go_sem, Nat.reduceEqDiff, Nat.reduceAdd, Nat.reduceLeDiff, Nat.reduceLT, Nat.reduceSub, Int.reduceToNat, ↓reduceIte, reduceCtorEq, of58, ofI_nat, Int.toNat_natCast, List.drop_zero]; first | exact rfl | ((repeat (refine And.intro ?_ ?_; focus (first | omega | assumption | with_reducible rfl))); intros; apply hk; clear hk K))) | apply qw8 | apply qw1 | refine qwc lvS11_74 ?_ | apply qt1 | apply qw5 | apply qw2 | apply qw9 | apply qt2 | apply qt3 | apply qt4 | apply qt5 | apply qt6 | apply qw3 | apply qw4 | apply qj1 | apply qj2 | apply qj3 | apply qj4 | apply qj5 | apply qu1 | apply qu2 | (refine qj6 ?_ ?_ <;> intro hc <;> (try simp only [hc]) <;> (try simp only [decide_eq_true_eq, decide_eq_false_iff_not, Bool.not_eq_true', Bool.not_eq_false', Bool.not_eq_true, reduceCtorEq] at hc) <;> (try (exfalso; omega))) | (refine qt7 ?_ ?_; focus decide) | (refine qw7 ?_ ?_ ?_; (focus (decide +kernel)); (focus (decide +kernel))))
  · ((first | refine fin_ret ?_ | refine fin_end ?_); simp only [go_sem, ↓upd_def, Nat.reduceEqDiff, Nat.reduceAdd, ↓reduceIte, reduceCtorEq])
    refine K_str hK ?_
    have hst := all_stop (f := alnum) (k := k) (q := q) (s := s) (by omega) (by omega) (by unfold alnum; simp only [*, Bool.or_true, Bool.true_or, Bool.or_false])
    unfold schP
    rw [if_neg ha', if_pos (Or.inr hst)]
  · have hsn := all_snoc (f := alnum) (k := k) (s := s) (by omega) hal (by unfold alnum; simp only [*, Bool.or_true, Bool.true_or, Bool.or_false])
    refine s_again (k + 1) ?_ ?_ ?_ <;> (first | omega | (dsimp only; omega) | skip)
    · exact ⟨by omega, hsn⟩
    all_goals simp [fits, fitsT, fitsM, upd_def, PV.nmb, nmbL, MB.nmb, List.getD_cons_zero, List.getD_cons_succ]
  · have hsn := all_snoc (f := alnum) (k := k) (s := s) (by omega) hal (by unfold alnum; simp only [*, Bool.or_true, Bool.true_or, Bool.or_false])
    refine s_again (k + 1) ?_ ?_ ?_ <;> (first | omega | (dsimp only; omega) | skip)
    · exact ⟨by omega, hsn⟩
    all_goals simp [fits, fitsT, fitsM, upd_def, PV.nmb, nmbL, MB.nmb, List.getD_cons_zero, List.getD_cons_succ]
  · ((first | refine fin_ret ?_ | refine fin_end ?_); simp only [go_sem, ↓upd_def, Nat.reduceEqDiff, Nat.reduceAdd, ↓reduceIte, reduceCtorEq])
    refine K_str hK ?_
    unfold schP
    rw [if_neg ha', if_pos (Or.inl (by rw [List.take_eq_nil_iff]; left; omega))]
  · ((first | refine fin_ret ?_ | refine fin_end ?_); simp only [go_sem, ↓upd_def, Nat.reduceEqDiff, Nat.reduceAdd, ↓reduceIte, reduceCtorEq])
    refine K_str hK ?_
    obtain rfl : k = q := by omega
    unfold schP
    rw [if_neg ha', if_neg]
    rw [hal]
    rintro (h | h)
    · rw [h] at hlt; simp at hlt; omega
    · cases h
theorem safe_i : PureOk Try.prog 31 (scC fun s => .bool (safeB s)) := by
  refine pure_rel 1 (tab_cons sch_i tab_nil) mixed [.tmp 2] Try.func31 rfl rfl (by kernel_rfl) (by kernel_rfl) (fun _ => rfl) (by kernel_rfl) ?_
  rintro s K hl hK
  unfold safeB at hK
  unfold entry
  repeat' (first | ((first | apply qwd | apply qa1 | apply qa2 | apply qa3 | apply qh1 | apply qh2 | apply qg1 rfl | apply qcd); (try intro K hk); focus (simp only [lvS11_31, mkT, go_sem, Nat.reduceEqDiff, Nat.reduceAdd, Nat.reduceLeDiff, Nat.reduceLT, Nat.reduceSub, Int.reduceToNat, ↓reduceIte, reduceCtorEq]; first | exact rfl | ((repeat (refine And.intro ?_ ?_; focus (first | omega | assumption | with_reducible rfl))); intros; apply hk; clear hk K))) | apply qw8 | apply qw1 | refine qwc lvS11_31 ?_ | apply qt1 | apply qw5 | apply qw2 | apply qw9 | apply qt2 | apply qt3 | apply qt4 | apply qt5 | apply qt6 | apply qw3 | apply qw4 | apply qj1 | apply qj2 | apply qj3 | apply qj4 | apply qj5 | apply qu1 | apply qu2 | (refine qj6 ?_ ?_ <;> intro hc <;> (try simp only [hc]) <;> (try simp only [decide_eq_true_eq, decide_eq_false_iff_not, Bool.not_eq_true', Bool.not_eq_false', Bool.not_eq_true, reduceCtorEq] at hc) <;> (try (exfalso; omega))) | (refine qt7 ?_ ?_; focus decide) | (refine qw7 ?_ ?_ ?_; (focus (decide +kernel)); (focus (decide +kernel))))
  all_goals
    ((first | refine fin_ret ?_ | refine fin_end ?_); simp only [go_sem, ↓upd_def, Nat.reduceEqDiff, Nat.reduceAdd, ↓reduceIte, reduceCtorEq])
    refine K_bool hK ?_
    simp [http, https, mailto, *] <;> exact decide_eq_decide.2 Iff.rfl
end Go.Proofs.Ytnbjogilidfkdaa

/- PairAllowed. -/
namespace Go.Proofs.Ytnbjogilidfkdaa
attribute [local irreducible] awp arun acalm FinP Fin AX.then AX.inBlock Again aG gsel amix amixN amixC aop aopc aopd cutK
attribute [local go_sem] aBSliceD aSlice aSliceC boundOf aMk aCall aCallC aLenL aLen aPick_t aPick_f aNil aAlloc aBox aBuild bldPV aBSlice bsPV aApp newsOf destOf drp aConvX aConv aConvInt aLoad cellsAt aStore cellsPV setAt aFld aField aIdx aIndex aUn aBin' aBin aMax aExtract pvOf PV.isCell nmbL PV.nmb List.map_cons List.map_nil List.all_cons List.all_nil Bool.and_true Bool.true_and if_true if_false List.getD_cons_zero List.getD_cons_succ List.getD_nil Option.isSome_some true_and and_true and_self eq_self true_or or_true List.drop_zero List.drop_succ_cons List.drop_nil List.take_zero List.take_succ_cons List.take_nil List.length_cons List.length_nil List.length_map Option.getD_some Option.getD_none List.nil_append List.cons_append List.append_nil Option.some.injEq exists_eq_left' List.getElem?_cons_zero List.getElem?_cons_succ Int.toNat_natCast Int.natCast_inj toNat_succ Nat.zero_add res res1 resC owns owns1 ownsC List.flatMap_cons List.flatMap_nil List.flatten_cons List.flatten_nil List.mem_cons List.not_mem_nil or_false false_or forall_eq forall_eq_or_imp isFro frz frz1 pureC tabA isBld List.cons.injEq PV.seq.injEq PV.int.injEq PV.str.injEq PV.bool.injEq PV.agg.injEq inR tab Γof aRes packR Option.map_some Option.map_none rel Prod.exists exists_and_left exists_eq_left and_assoc beq_self_eq_true Bool.not_true Bool.not_false decide_true decide_false List.set_cons_zero List.set_cons_succ rst_nil rst_cons
attribute [local go_sem ↓] evT upd_def aop aopc aopd
set_option maxRecDepth 100000
set_option linter.unusedVariables false
set_option linter.unusedSimpArgs false
open Go.RowKit
def lvYP_17 : Nat → List Nat
  | 0 => [0, 3]
  | 1 => [0, 3, 5]
  | 2 => [4]
  | 3 => [0, 3, 9]
  | 4 => [3, 9]
  | 5 => [4]
  | 6 => [4]
  | _ => []
--LV=YP
def titN : Bs := [116, 105, 116, 108, 101]
def pairB (t n v : Bs) : Bool := if n = titN then true else if n = [104, 114, 101, 102] ∧ t = [97] ∨ n = [115, 114, 99] ∧ t = [105, 109, 103] then safeB v else false
@[go_sem] def prC : PC := rel (α := Bs × (Bs × Bs)) (fun x => [.str x.1, .agg [.str x.2.1, .str x.2.2]]) (fun x => x.1.length ≤ 1048576 ∧ x.2.1.length ≤ 1048576 ∧ x.2.2.length ≤ 1048576) (fun x => .bool (pairB x.1 x.2.1 x.2.2))
theorem ex_2 {p : Bs × Bs → Prop} : (∃ x, p x) ↔ ∃ a b, p (a, b) := ⟨fun ⟨(a, b), h⟩ => ⟨a, b, h⟩, fun ⟨a, b, h⟩ => ⟨_, h⟩⟩
set_option maxHeartbeats 4000000 in
theorem pr_i : PureOk Try.prog 17 prC := by
  refine pure_rel 2 (tab_cons safe_i tab_nil) mixed [.tmp 4] Try.func17 rfl rfl (by kernel_rfl) (by kernel_rfl) (fun _ => rfl) (by kernel_rfl) ?_
  rintro ⟨t, n, v⟩ K ⟨h1, h2, h3⟩ hK
  dsimp only at *
  unfold pairB at hK
  unfold entry
  repeat' (first | ((first | apply qwd | apply qa1 | apply qa2 | apply qa3 | apply qh1 | apply qh2 | apply qg1 rfl | apply qcd); (try intro K hk); focus (simp only [lvYP_17, mkT, go_sem, Nat.reduceEqDiff, Nat.reduceAdd, Nat.reduceLeDiff, Nat.reduceLT, Nat.reduceSub, Int.reduceToNat, ↓reduceIte, reduceCtorEq]; first | exact rfl | ((repeat (refine And.intro ?_ ?_; focus (first | omega | assumption | with_reducible rfl))); intros; apply hk; clear hk K))) | apply qw8 | apply qw1 | refine qwc lvYP_17 ?_ | apply qt1 | apply qw5 | apply qw2 | apply qw9 | apply qt2 | apply qt3 | apply qt4 | apply qt5 | apply qt6 | apply qw3 | apply qw4 | apply qj1 | apply qj2 | apply qj3 | apply qj4 | apply qj5 | apply qu1 | apply qu2 | (refine qj6 ?_ ?_ <;> intro hc <;> (try simp only [hc]) <;> (try simp only [decide_eq_true_eq, decide_eq_false_iff_not, Bool.not_eq_true', Bool.not_eq_false', Bool.not_eq_true, reduceCtorEq] at hc) <;> (try (exfalso; omega))) | (refine qt7 ?_ ?_; focus decide) | (refine qw7 ?_ ?_ ?_; (focus (decide +kernel)); (focus (decide +kernel))))
  all_goals
    ((first | refine fin_ret ?_ | refine fin_end ?_); simp only [go_sem, ↓upd_def, Nat.reduceEqDiff, Nat.reduceAdd, ↓reduceIte, reduceCtorEq])
    refine K_bool hK ?_
    first | (simp [titN, *]; done) | (exfalso; simp_all; done) | (simp_all [titN]; done)
end Go.Proofs.Ytnbjogilidfkdaa
