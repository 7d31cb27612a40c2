/- Drawn states. -/
import Derived.Test.YtdehpafflbhadaaWT4
import Derived.Test.YtdehpafflbhadaaWR
namespace Go.Proofs.Ytdehpafflbhadaa
set_option maxRecDepth 100000
set_option linter.unusedVariables false
set_option linter.unusedSimpArgs false
open Go.RowKit

theorem only_drew {a w : World} {row : Option Nat} (h : a.grownBy w row) : a.grownBy w.drew row := ⟨h.os, h.tape, h.output, h.size, h.block⟩
theorem only_alloc {a w : World} {row : Option Nat} (h : a.grownBy w row) (o : Obj) : a.grownBy (w.alloc o) row :=
  ⟨h.os, h.tape, h.output, Nat.le_trans h.size (by simp), fun i hi hne => (Below.heap_alloc w o i (Nat.lt_of_lt_of_le hi h.size)).trans (h.block i hi hne)⟩
theorem only_setCell {a w : World} {g : Nat} (h : a.grownBy w (some g)) {p : Addr} (hp : a.heap.size ≤ p.block) (u : Value) : a.grownBy (w.setCell p u) (some g) :=
  ⟨h.os, h.tape, h.output, by simpa [World.setCell] using h.size, fun i hi hne => (Below.heap_setCell w p u i (by rintro rfl; omega)).trans (h.block i hi hne)⟩
theorem only_call {a w w' : World} {g : Nat} (h : a.grownBy w (some g)) (k : w.grownBy w' (some g)) : a.grownBy w' (some g) :=
  ⟨k.os.trans h.os, k.tape.trans h.tape, k.output.trans h.output, Nat.le_trans h.size k.size, fun i hi hne => (k.block i (Nat.lt_of_lt_of_le hi h.size) hne).trans (h.block i hi hne)⟩
theorem only_below {a w w' : World} {g : Nat} (h : a.grownBy w (some g)) (k : Below w.heap.size w w') : a.grownBy w' (some g) :=
  ⟨k.os.trans h.os, k.tape.trans h.tape, k.output.trans h.output, Nat.le_trans h.size k.size, fun i hi hne => (k.block i (Nat.lt_of_lt_of_le hi h.size)).trans (h.block i hi hne)⟩
theorem Rd.below {w w' : World} {blk N : Nat} (h : Rd w blk N) (hb : Below w.heap.size w w') : Rd w' blk N := by
  obtain ⟨a, len, cap, p, hp, hl, hh, hby⟩ := h
  refine ⟨a, len, cap, p, hp, hl, (hb.block blk (Array.getElem?_eq_some_iff.1 hh).1).trans hh, fun i hi => ?_⟩
  obtain ⟨x, e, hx, z, hz, hc⟩ := hby i hi
  exact ⟨x, e, hx, z, hz, (hb.cell (World.block_lt_of_cell? w _ hc)).trans hc⟩
theorem Rd.setCell {w : World} {blk N : Nat} (h : Rd w blk N) {p : Addr} (hp : blk < p.block) (u : Value) : Rd (w.setCell p u) blk N := by
  obtain ⟨a, len, cap, q, hq, hl, hh, hby⟩ := h
  refine ⟨a, len, cap, q, hq, hl, (Below.heap_setCell w _ _ blk (by omega)).trans hh, fun j hj => ?_⟩
  obtain ⟨x, e, hx, z, hz, hc⟩ := hby j hj
  refine ⟨x, e, hx, z, hz, (World.cell?_setCell_other _ _ _ _ (fun e => ?_)).trans hc⟩
  have h1 : p.block = x.block := by rw [e, block_add]
  omega

set_option maxHeartbeats 16000000 in
theorem l20State_any (blk N : Nat) (n : Int) (hn : 0 ≤ n) (hn' : n ≤ 1000000) (w : World) (hN : N ≤ 100000000) (h : Rd w blk N) :
    Calls Try.prog 72 #[.pointer (some ⟨blk, 0, none⟩), .int .i64 n] w fun e w' =>
      ∃ (m : Int) (tag attr : ByteArray) (seen : Bool), e = .returned (.agg #[.int .i64 m, .string tag, .string attr, .bool seen]) ∧ tag.size ≤ 100 ∧ attr.size ≤ 100 ∧ Rd w' blk (N + 4) ∧ w.grownBy w' (some blk) := by
  have H := Lib.hid h
  have hlt := h.lt
  clear h
  go_enter Try.func72, Try.ntmps72
  go_wp2_with fail
  refine (pick_any blk N 22 (by omega) (by omega) _ (by omega) ((H.out.alloc _).alloc _)).mono ?_
  rintro e w2 ⟨r, rfl, ⟨hr0, hr1⟩, hrd, hg⟩
  have hrow := (hg.block (w.heap.size + 1) (by simp) (by simp; omega)).trans ((congrArg _ (by simp)).trans (heap_alloc_new (w.alloc _) _))
  obtain ⟨v, ⟨s, rfl, hs⟩, hc⟩ := row_pick (Q := SmallStr) hrow (by intro v hv; simp at hv; rcases hv with rfl | rfl | rfl | rfl | rfl | rfl | rfl | rfl | rfl | rfl | rfl | rfl | rfl | rfl | rfl | rfl | rfl | rfl | rfl | rfl | rfl | rfl <;> exact ⟨_, rfl, by decide⟩) hr0 hr1
  have HG := Lib.hid (only_call (only_alloc (only_alloc (World.grownBy.refl w (some blk)) _) _) hg)
  have hsz := hg.size
  have HB4 := Lib.hid (((Blk.new w 43 #[.int .i64 0, .string ⟨#[]⟩, .string ⟨#[]⟩, .bool false] rfl).alloc _).grown hg (by simp; omega))
  have HR := Lib.hid hrd
  clear hrow hg hrd
  simp at hsz
  go_wp2_with fail
  refine (stateAfter_s 0 ⟨#[]⟩ ⟨#[]⟩ false s (by decide) (by decide) (by unfold maxLen; omega) _).mono ?_
  rintro e w3 ⟨rfl, hb⟩
  have hsh : (afterSt ⟨0, [], [], false⟩ s.data.toList).short := by
    unfold afterSt
    split
    · exact short_bad
    · exact short_runS ⟨by simp, by simp⟩ _
  have eR : afterSt ⟨0, (⟨#[]⟩ : ByteArray).data.toList, (⟨#[]⟩ : ByteArray).data.toList, false⟩ s.data.toList = afterSt ⟨0, [], [], false⟩ s.data.toList := rfl
  rw [eR]
  generalize afterSt ⟨0, [], [], false⟩ s.data.toList = R at hsh ⊢
  obtain ⟨m, tag, attr, seen⟩ := R
  obtain ⟨hs1, hs2⟩ := hsh
  obtain ⟨T, hT⟩ : ∃ T : ByteArray, (⟨tag.toArray⟩ : ByteArray) = T := ⟨_, rfl⟩
  obtain ⟨A, hA⟩ : ∃ A : ByteArray, (⟨attr.toArray⟩ : ByteArray) = A := ⟨_, rfl⟩
  have hTs : T.size ≤ 40 := by rw [← hT]; show tag.toArray.size ≤ 40; simp at hs1 ⊢; omega
  have hAs : A.size ≤ 40 := by rw [← hA]; show attr.toArray.size ≤ 40; simp at hs2 ⊢; omega
  simp only [stV]
  rw [hT, hA]
  have HG3 := Lib.hid (only_below HG.out hb)
  have hsz3 := hb.size
  have HB43 := Lib.hid (HB4.out.below hb (by first | omega | (simp; done) | (simp; omega)))
  have HR3 := Lib.hid (HR.out.below hb)
  have hl3 : w.heap.size < w3.heap.size := by omega
  clear hb hT hA eR HG HB4 HR hc hs1 hs2
  go_wp2_with fail
  refine (odd_any blk (N + 1) n hn hn' _ (by omega) (HR3.out.alloc _)).mono ?_
  rintro e w4 ⟨r2, rfl, hrd, hg⟩
  have HG4 := Lib.hid (only_call (only_alloc HG3.out _) hg)
  have hsz4 := hg.size
  simp at hsz4
  have HB44 := Lib.hid ((HB43.out.alloc _).grown hg (by simp; omega))
  have HB5 := Lib.hid ((Blk.new w3 43 #[.int .i64 m, .string T, .string A, .bool seen] rfl).grown hg (by simp; omega))
  have HR4 := Lib.hid hrd
  have hl4 : w3.heap.size < w4.heap.size := by omega
  have hl4' : w.heap.size < w4.heap.size := by omega
  clear hrd hg HG3 HB43 HR3
  have C4 := HB44.out.c4
  have C5 := HB5.out.c4
  cases r2 with
  | false =>
    go_wp2_with fail
    refine bodyPost_ret (v := .agg #[.int .i64 m, .string T, .string A, .bool seen]) (by simp [results, Try.results72, go_sem, C4]) rfl ⟨m, T, A, seen, rfl, by omega, by omega, ?_, ?_⟩
    · exact Rd.more (N := N + 1 + 1) (by repeat (first | with_reducible exact HR4.out | refine Rd.setCell ?_ (by dsimp only; omega) _)) (by omega)
    · repeat (first | with_reducible exact HG4.out | refine only_setCell ?_ (by dsimp only; omega) _)
  | true =>
    go_wp2_with fail
    refine (pick_any blk (N + 2) 4 (by omega) (by omega) _ (by omega) HR4.out).mono ?_
    rintro e w5 ⟨r3, rfl, ⟨hr30, hr31⟩, hrd, hg⟩
    have HG5 := Lib.hid (only_call HG4.out hg)
    have hsz5 := hg.size
    have HB45 := Lib.hid (HB44.out.grown hg (by simp; omega))
    have HB55 := Lib.hid (HB5.out.grown hg (by simp; omega))
    have HR5 := Lib.hid hrd
    have hl5 : w3.heap.size < w5.heap.size := by omega
    have hl5' : w.heap.size < w5.heap.size := by omega
    clear hrd hg HG4 HB44 HB5 HR4 C4 C5
    have hcs : r3 = 3 ∨ r3 = 0 ∨ r3 = 1 ∨ r3 = 2 := by omega
    rcases hcs with rfl | rfl | rfl | rfl
    · have C4 := HB45.out.c4
      have C5 := HB55.out.c4
      go_wp2_with fail
      refine bodyPost_ret (v := .agg #[.int .i64 m, .string T, .string A, .bool (!seen)]) (by simp [results, Try.results72, go_sem, C4]) rfl ⟨m, T, A, _, rfl, by omega, by omega, ?_, ?_⟩
      · exact Rd.more (N := N + 2 + 1) (by repeat (first | with_reducible exact HR5.out | refine Rd.setCell ?_ (by dsimp only; omega) _)) (by omega)
      · repeat (first | with_reducible exact HG5.out | refine only_setCell ?_ (by dsimp only; omega) _)
    all_goals
      go_wp2_with fail
      refine (pick_any blk (N + 3) _ (by omega) (by omega) _ (by omega) (HR5.out.alloc _)).mono ?_
      rintro e w6 ⟨r4, rfl, ⟨hr40, hr41⟩, hrd, hg⟩
      have hrow := (hg.block w5.heap.size (by simp) (by simp; omega)).trans (heap_alloc_new w5 _)
      have HG6 := Lib.hid (only_call (only_alloc HG5.out _) hg)
      have hsz6 := hg.size
      simp at hsz6
      have C4 := ((HB45.out.alloc _).grown hg (by simp; omega)).c4
      have C5 := ((HB55.out.alloc _).grown hg (by simp; omega)).c4
      have HR6 := Lib.hid hrd
      have hl6 : w3.heap.size < w6.heap.size := by omega
      have hl6' : w.heap.size < w6.heap.size := by omega
      clear hrd hg HG5 HB45 HB55 HR5
    · obtain ⟨v, ⟨m2, rfl⟩, hc⟩ := row_pick (Q := fun v => ∃ m2 : Int, v = .int .i64 m2) hrow (by intro v hv; simp at hv; rcases hv with rfl | rfl <;> exact ⟨_, rfl⟩) hr40 hr41
      clear hrow
      go_wp2_with fail
      refine bodyPost_ret (v := .agg #[.int .i64 m2, .string T, .string A, .bool seen]) (by simp [results, Try.results72, go_sem, C4]) rfl ⟨m2, T, A, seen, rfl, by omega, by omega, ?_, ?_⟩
      · exact Rd.more (N := N + 3 + 1) (by repeat (first | with_reducible exact HR6.out | refine Rd.setCell ?_ (by dsimp only; omega) _)) (by omega)
      · repeat (first | with_reducible exact HG6.out | refine only_setCell ?_ (by dsimp only; omega) _)
    · obtain ⟨v, ⟨T2, rfl, hT2⟩, hc⟩ := row_pick (Q := SmallStr) hrow (by intro v hv; simp at hv; rcases hv with rfl | rfl | rfl <;> exact ⟨_, rfl, by decide⟩) hr40 hr41
      clear hrow
      go_wp2_with fail
      refine bodyPost_ret (v := .agg #[.int .i64 m, .string T2, .string A, .bool seen]) (by simp [results, Try.results72, go_sem, C4]) rfl ⟨m, T2, A, seen, rfl, by omega, by omega, ?_, ?_⟩
      · exact Rd.more (N := N + 3 + 1) (by repeat (first | with_reducible exact HR6.out | refine Rd.setCell ?_ (by dsimp only; omega) _)) (by omega)
      · repeat (first | with_reducible exact HG6.out | refine only_setCell ?_ (by dsimp only; omega) _)
    · obtain ⟨v, ⟨T2, rfl, hT2⟩, hc⟩ := row_pick (Q := SmallStr) hrow (by intro v hv; simp at hv; rcases hv with rfl | rfl | rfl <;> exact ⟨_, rfl, by decide⟩) hr40 hr41
      clear hrow
      go_wp2_with fail
      refine bodyPost_ret (v := .agg #[.int .i64 m, .string T, .string T2, .bool seen]) (by simp [results, Try.results72, go_sem, C4]) rfl ⟨m, T, T2, seen, rfl, by omega, by omega, ?_, ?_⟩
      · exact Rd.more (N := N + 3 + 1) (by repeat (first | with_reducible exact HR6.out | refine Rd.setCell ?_ (by dsimp only; omega) _)) (by omega)
      · repeat (first | with_reducible exact HG6.out | refine only_setCell ?_ (by dsimp only; omega) _)
end Go.Proofs.Ytdehpafflbhadaa
