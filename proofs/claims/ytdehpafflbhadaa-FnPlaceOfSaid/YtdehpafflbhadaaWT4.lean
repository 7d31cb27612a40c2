/- The reference's StateAfter. -/
import Derived.Test.YtdehpafflbhadaaWT3z
import Derived.StillTailTactics
namespace Go.Proofs.Ytdehpafflbhadaa
set_option maxRecDepth 100000
set_option linter.unusedVariables false
set_option linter.unusedSimpArgs false
open Go.RowKit

def stepS (s : St) (b : UInt8) : St := step s.mode s.tag s.attr s.seen b
def runS (s : St) (l : List UInt8) : St := l.foldl stepS s
def afterSt (s : St) (l : List UInt8) : St := if s.ok = false then St.bad else runS s l

def St.short (s : St) : Prop := s.tag.length ≤ 10 ∧ s.attr.length ≤ 10
theorem short_bad : St.bad.short := ⟨by simp [St.bad], by simp [St.bad]⟩
theorem short_more (m : Int) (tag attr more : List UInt8) : (moreSt m tag attr more).short := by
  unfold moreSt
  split <;> split
  · exact short_bad
  · refine ⟨?_, ?_⟩ <;> (simp only; omega)
  · exact short_bad
  · refine ⟨?_, ?_⟩ <;> (simp only; omega)
theorem short_content (tag : List UInt8) : (contentSt tag).short := by
  unfold contentSt
  split <;> exact ⟨by simp, by simp⟩
theorem short_tag {m : Int} {tag attr : List UInt8} {b : UInt8} (h : tag.length ≤ 10 ∧ attr.length ≤ 10) : (tagSt m tag attr b).short := by
  unfold tagSt
  repeat' split
  all_goals first | exact short_content _ | exact short_more _ _ _ _ | exact short_bad | exact ⟨h.1, h.2⟩ | exact ⟨h.1, Nat.zero_le _⟩
theorem short_script (m : Int) (b : UInt8) : (scriptSt m b).short := by
  unfold scriptSt
  repeat' split
  all_goals first | exact short_bad | exact ⟨by simp, by simp⟩
theorem ite_short {c : Prop} [Decidable c] {a b : St} (ha : a.short) (hb : b.short) : (if c then a else b).short := by split <;> assumption
theorem short_step (m : Int) (tag attr : List UInt8) (seen : Bool) (b : UInt8) : (step m tag attr seen b).short := by
  unfold step
  cases hv : stOk m tag attr seen with
  | false => exact short_bad
  | true =>
    have h := stOk_short hv
    rw [if_neg (by decide)]
    repeat' (first | exact short_more _ _ _ _ | exact short_tag h | exact short_script _ _ | exact short_bad | refine ite_short ?_ ?_)
    all_goals first | exact short_bad | exact short_tag h | exact short_script _ _ | exact short_more _ _ _ _ | exact ⟨h.1, h.2⟩ | exact ⟨h.1, Nat.zero_le _⟩ | exact ⟨Nat.zero_le _, Nat.zero_le _⟩
theorem short_runS {s : St} (h : s.short) (l : List UInt8) : (runS s l).short := by
  induction l generalizing s with
  | nil => exact h
  | cons b l ih => exact ih (short_step _ _ _ _ _)
theorem runS_succ (s : St) (l : List UInt8) (k : Nat) (h : k < l.length) : runS s (l.take (k + 1)) = stepS (runS s (l.take k)) (l.getD k 0) := by
  unfold runS
  rw [List.take_succ_eq_append_getElem h, List.foldl_append]
  simp [List.getD_eq_getElem?_getD, h]

set_option maxHeartbeats 4000000 in
theorem stateAfter_s (m : Int) (tag attr : ByteArray) (seen : Bool) (text : ByteArray) (ht : tag.size ≤ maxLen) (ha : attr.size ≤ maxLen) (hx : text.size ≤ maxLen) (w : World) :
    Calls Try.prog 98 #[.agg #[.int .i64 m, .string tag, .string attr, .bool seen], .string text] w fun e w' =>
      e = .returned (stV (afterSt ⟨m, tag.data.toList, attr.data.toList, seen⟩ text.data.toList)) ∧ Below w.heap.size w w' := by
  have HT := Lib.hid ht
  have HA := Lib.hid ha
  unfold maxLen at hx
  clear ht ha
  cases hv : stOk m tag.data.toList attr.data.toList seen with
  | false =>
    rw [show afterSt ⟨m, tag.data.toList, attr.data.toList, seen⟩ text.data.toList = St.bad from by unfold afterSt; rw [if_pos (show St.ok ⟨m, tag.data.toList, attr.data.toList, seen⟩ = false from hv)]]
    go_enter Try.func98, Try.ntmps98
    go_wp2_with fail
    refine (stateValid_s _ tag attr seen HT.out HA.out _).mono ?_
    rintro e w1 ⟨rfl, hb⟩
    have HB := Lib.hid (below_call (((Below.refl w.heap.size w).alloc (Nat.le_refl _) _).alloc (by first | omega | (simp; done) | (simp; omega)) _) hb (by first | omega | (simp; done) | (simp; omega)))
    have hbs := hb.size
    have C1 := ((Blk.new (w.alloc _) 43 #[.int .i64 0, .string ⟨#[]⟩, .string ⟨#[]⟩, .bool false] (g := w.heap.size + 1) (by simp)).below hb (by first | omega | (simp; done) | (simp; omega))).c4
    clear hb
    simp at hbs
    go_wp2_with fail
    refine bodyPost_ret (v := .agg #[.int .i64 15, .string ⟨#[]⟩, .string ⟨#[]⟩, .bool false]) (by simp [results, Try.results98, go_sem, C1]) rfl ⟨by simp [stV, St.bad], ?_⟩
    repeat (first | exact HB.out | refine Below.setCell ?_ (by first | omega | (simp; done) | (simp; omega)) _ | refine Below.alloc ?_ (by first | omega | (simp; done) | (simp; omega)) _ | refine Below.drew ?_)
  | true =>
    obtain ⟨hs1, hs2⟩ := stOk_sizes hv
    have HSP : Hid (afterSt ⟨m, tag.data.toList, attr.data.toList, seen⟩ text.data.toList = runS ⟨m, tag.data.toList, attr.data.toList, seen⟩ text.data.toList) := Lib.hid (by unfold afterSt; rw [if_neg (by show ¬ stOk _ _ _ _ = false; rw [hv]; decide)])
    have HSH : Hid (St.short ⟨m, tag.data.toList, attr.data.toList, seen⟩) := Lib.hid ⟨by simpa using hs1, by simpa using hs2⟩
    go_enter Try.func98, Try.ntmps98
    go_wp2_with fail
    refine (stateValid_s _ tag attr seen HT.out HA.out _).mono ?_
    rintro e w1 ⟨rfl, hb⟩
    have HB := Lib.hid (below_call (((Below.refl w.heap.size w).alloc (Nat.le_refl _) _).alloc (by first | omega | (simp; done) | (simp; omega)) _) hb (by first | omega | (simp; done) | (simp; omega)))
    have hbs := hb.size
    have HB0 := Lib.hid (((Blk.new w 43 #[.int .i64 m, .string tag, .string attr, .bool seen] rfl).alloc _).below hb (by first | omega | (simp; done) | (simp; omega)))
    have HB1 := Lib.hid ((Blk.new (w.alloc _) 43 #[.int .i64 0, .string ⟨#[]⟩, .string ⟨#[]⟩, .bool false] (g := w.heap.size + 1) (by simp)).below hb (by first | omega | (simp; done) | (simp; omega)))
    clear hb
    simp at hbs
    go_wp2_with fail
    generalize hs0 : (⟨m, tag.data.toList, attr.data.toList, seen⟩ : St) = s0 at HSP HSH
    have HS0 := Lib.hid hs0
    clear hs0
    go_loopw [5] (fun i wr => ∃ (k : Nat) (s : St), k ≤ text.size ∧ i = .int .i64 k ∧ Hid (s = runS s0 (text.data.toList.take k)) ∧
        Hid (Blk wr w.heap.size 43 #[.int .i64 s.mode, .string ⟨s.tag.toArray⟩, .string ⟨s.attr.toArray⟩, .bool s.seen]) ∧
        Hid (Blk wr (w.heap.size + 1) 43 #[.int .i64 0, .string ⟨#[]⟩, .string ⟨#[]⟩, .bool false]) ∧ Hid (Below w.heap.size w wr) ∧ w.heap.size + 1 < wr.heap.size)
      (fun i _ => text.size - (intOf i).toNat)
    case atStart => exact ⟨0, s0, Nat.zero_le _, rfl, Lib.hid rfl, Lib.hid (by have := HB0.out; rw [← HS0.out]; simpa [ba_eta] using this), HB1, HB, by omega⟩
    case round =>
      obtain ⟨k, s, hk, rfl, HR, HP0, HP1, HBW, hsz⟩ := hrel
      clear HB HB0 HB1
      by_cases hlt : k < text.size
      · have hg := getD_get text k hlt
        have C0 := HP0.out.c4
        have HG := Lib.hid hg
        clear hg
        go_wp2_with fail
        go_still_tail 4, (by kernel_rfl)
        change wpList _ _ _ _ _ wr.drew
        go_wp2_with fail
        have hsh := short_runS HSH.out (text.data.toList.take k)
        rw [← HR.out] at hsh
        refine (stepState_s s.mode ⟨s.tag.toArray⟩ ⟨s.attr.toArray⟩ s.seen text[k] (by unfold maxLen; show s.tag.toArray.size ≤ _; have := hsh.1; simp; omega) (by unfold maxLen; show s.attr.toArray.size ≤ _; have := hsh.2; simp; omega) _).mono ?_
        rintro e w2 ⟨rfl, hb⟩
        have hsz2 := hb.size
        simp at hsz2
        have hz2 : w.heap.size + 1 < w2.heap.size := by omega
        have hB0 := (HP0.out.drew).below hb (by first | omega | (simp; done) | (simp; omega))
        have hB1 := (HP1.out.drew).below hb (by first | omega | (simp; done) | (simp; omega))
        have hBW := below_call HBW.out.drew hb (by first | omega | (simp; done) | (simp; omega))
        have C0 := hB0.c4
        have hR2 : step s.mode s.tag s.attr s.seen text[k] = runS s0 (text.data.toList.take (k + 1)) := by
          rw [runS_succ _ _ _ (by simpa using hlt), HG.out, ← HR.out]; rfl
        have eR : step s.mode (⟨s.tag.toArray⟩ : ByteArray).data.toList (⟨s.attr.toArray⟩ : ByteArray).data.toList s.seen text[k] = step s.mode s.tag s.attr s.seen text[k] := rfl
        rw [eR]
        generalize step s.mode s.tag s.attr s.seen text[k] = R at hR2 ⊢
        have HR2 := Lib.hid hR2
        have HQ := Lib.hid (And.intro hB0 (And.intro hB1 hBW))
        simp only [stV]
        clear hb hsz2 hB0 hB1 hBW hR2 eR HG HP0 HP1 HBW HR hsz hsh
        go_wp2_with fail
        go_roundw
        case rel => exact ⟨k + 1, R, by omega, by go_num, HR2, Lib.hid (by have h := (((HQ.out.1.set_ 0 (.int .i64 R.mode)).set_ 1 (.string ⟨R.tag.toArray⟩)).set_ 2 (.string ⟨R.attr.toArray⟩)).set_ 3 (.bool R.seen); simpa using h), Lib.hid ((((HQ.out.2.1.far (by simp) _).far (by simp) _).far (by simp) _).far (by simp) _), Lib.hid (by repeat (first | exact HQ.out.2.2 | refine Below.setCell ?_ (by first | omega | (simp; done) | (simp; omega)) _ | refine Below.alloc ?_ (by first | omega | (simp; done) | (simp; omega)) _ | refine Below.drew ?_)), by simp; omega⟩
        case measure => simp [intOf]; omega
      · have C0 := HP0.out.c4
        have C1 := HP1.out.c4
        have hR := HR.out
        rw [List.take_of_length_le (by simp; omega)] at hR
        have HE := Lib.hid (HSP.out.trans hR.symm)
        clear hR HR HSP HSH
        go_wp2_with fail
        refine bodyPost_ret (v := .agg #[.int .i64 s.mode, .string ⟨s.tag.toArray⟩, .string ⟨s.attr.toArray⟩, .bool s.seen]) (by simp [results, Try.results98, go_sem, C1]) rfl ⟨by rw [HS0.out, HE.out]; rfl, ?_⟩
        repeat (first | exact HBW.out | refine Below.setCell ?_ (by first | omega | (simp; done) | (simp; omega)) _ | refine Below.alloc ?_ (by first | omega | (simp; done) | (simp; omega)) _ | refine Below.drew ?_)
end Go.Proofs.Ytdehpafflbhadaa
