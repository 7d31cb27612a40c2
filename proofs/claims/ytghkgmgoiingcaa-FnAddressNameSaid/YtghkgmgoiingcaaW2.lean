/- Walks of the laws of the first seat. -/
import Derived.Test.YtghkgmgoiingcaaW1
import Derived.Test.YtghkgmgoiingcaaWF
import Derived.Test.YtghkgmgoiingcaaWL
import Derived.Test.YtghkgmgoiingcaaWN
import Derived.Test.YtghkgmgoiingcaaWR
namespace Go.Proofs.Ytghkgmgoiingcaa
open Go.RowKit

set_option maxHeartbeats 400000 in
theorem FnExactTagAllowed_walk (s : ByteArray) (w : World) (_hs : s.size ≤ maxLen) :
    Calls Try.prog 3 #[.string s] w fun e w' => e = .returned (.bool true) ∧ Below w.heap.size w w' := by
  go_enter Try.func3, Try.ntmps3
  go_wp2_with (first | (go_at_call 9; refine (tagAllowed_i _ _).mono ?_; rintro e w' ⟨rfl, rfl⟩) | (go_at_call 8; refine (tagAllowed_s _ _).mono ?_; rintro e w' ⟨rfl, rfl⟩))
  all_goals go_ret
  all_goals exact ⟨by simp_all, Below.refl _ _⟩

set_option maxHeartbeats 400000 in
theorem FnExactFaultText_walk (n : Int) (w : World) (_hn : (Lit.int .i64 n).wf = true) :
    Calls Try.prog 4 #[.int .i64 n] w fun e w' => e = .returned (.bool true) ∧ Below w.heap.size w w' := by
  go_enter Try.func4, Try.ntmps4
  go_wp2_with fail
  refine (faultText_s _ _).mono ?_; rintro e w1 ⟨rfl, hb1⟩
  go_wp2_with fail
  refine (faultText_i _ _).mono ?_; rintro e w2 ⟨rfl, hb2⟩
  go_wp2_with fail
  go_ret
  exact ⟨rfl, hb1.trans (hb2.mono hb1.size)⟩

set_option maxHeartbeats 1000000 in
theorem DrawAddressName_any (a : Option Addr) (len cap : Nat) (zs : List Int) (w : World) (h : IsRow .u8 w a len cap zs) :
    Calls Try.prog 12 #[.slice a len cap] w fun e w' => ∃ s : ByteArray, e = .returned (.string s) ∧ s.size ≤ 40 ∧ Below w.heap.size w w' := by
  have H := Lib.hid h
  clear h
  go_enter Try.func12, Try.ntmps12
  go_wp2_with fail
  refine (open_any a len cap zs _ H.out).mono ?_
  rintro e w1 ⟨rfl, hrd, hb⟩
  have HR := Lib.hid (And.intro hrd hb)
  clear hrd hb H
  go_wp2_with fail
  refine (pick_any w.heap.size 0 7 (by omega) (by omega) _ (by omega) (HR.out.1.alloc _)).mono ?_
  rintro e w2 ⟨r, rfl, hr, hrd, hg⟩
  have hrow := (hg.block w1.heap.size (by simp) (by have := HR.out.1.lt; simp; omega)).trans (heap_alloc_new w1 _)
  obtain ⟨v, ⟨s, rfl, hs⟩, hc⟩ := row_pick (Q := SmallStr) hrow (by intro v hv; simp at hv; rcases hv with rfl | rfl | rfl | rfl | rfl | rfl | rfl <;> exact ⟨_, rfl, by decide⟩) hr.1 hr.2
  obtain ⟨hr0, hr1⟩ := hr
  have HB : Hid (Below w.heap.size w w2) := Lib.hid (below_only ((HR.out.2).alloc HR.out.2.size _) hg (Nat.le_refl _) (Nat.le_refl _))
  clear hrow hg hrd HR
  go_wp2
  go_ret
  exact ⟨s, rfl, hs, HB.out⟩

set_option maxHeartbeats 1000000 in
theorem DrawTagAllowed_any (a : Option Addr) (len cap : Nat) (zs : List Int) (w : World) (h : IsRow .u8 w a len cap zs) :
    Calls Try.prog 18 #[.slice a len cap] w fun e w' => ∃ s : ByteArray, e = .returned (.string s) ∧ s.size ≤ 40 ∧ Below w.heap.size w w' := by
  have H := Lib.hid h
  clear h
  go_enter Try.func18, Try.ntmps18
  go_wp2_with fail
  refine (open_any a len cap zs _ H.out).mono ?_
  rintro e w1 ⟨rfl, hrd, hb⟩
  have HR := Lib.hid (And.intro hrd hb)
  clear hrd hb H
  go_wp2_with fail
  refine (pick_any w.heap.size 0 12 (by omega) (by omega) _ (by omega) (HR.out.1.alloc _)).mono ?_
  rintro e w2 ⟨r, rfl, hr, hrd, hg⟩
  have hrow := (hg.block w1.heap.size (by simp) (by have := HR.out.1.lt; simp; omega)).trans (heap_alloc_new w1 _)
  obtain ⟨v, ⟨s, rfl, hs⟩, hc⟩ := row_pick (Q := SmallStr) hrow (by intro v hv; simp at hv; rcases hv with rfl | rfl | rfl | rfl | rfl | rfl | rfl | rfl | rfl | rfl | rfl | rfl <;> exact ⟨_, rfl, by decide⟩) hr.1 hr.2
  obtain ⟨hr0, hr1⟩ := hr
  have HB : Hid (Below w.heap.size w w2) := Lib.hid (below_only ((HR.out.2).alloc HR.out.2.size _) hg (Nat.le_refl _) (Nat.le_refl _))
  clear hrow hg hrd HR
  go_wp2
  go_ret
  exact ⟨s, rfl, hs, HB.out⟩

set_option maxHeartbeats 1000000 in
theorem DrawFaultText_any (a : Option Addr) (len cap : Nat) (zs : List Int) (w : World) (h : IsRow .u8 w a len cap zs) :
    Calls Try.prog 17 #[.slice a len cap] w fun e w' => ∃ n : Int, e = .returned (.int .i64 n) ∧ (-1 ≤ n ∧ n < 7) ∧ Below w.heap.size w w' := by
  have H := Lib.hid h
  clear h
  go_enter Try.func17, Try.ntmps17
  go_wp2_with fail
  refine (open_any a len cap zs _ H.out).mono ?_
  rintro e w1 ⟨rfl, hrd, hb⟩
  have HR := Lib.hid (And.intro hrd hb)
  clear hrd hb H
  go_wp2_with fail
  refine (pick_any w.heap.size 0 8 (by omega) (by omega) _ (by omega) HR.out.1).mono ?_
  rintro e w2 ⟨r, rfl, ⟨hr0, hr1⟩, hrd, hg⟩
  have HB : Hid (Below w.heap.size w w2) := Lib.hid (below_only HR.out.2 hg (Nat.le_refl _) (Nat.le_refl _))
  clear hg hrd HR
  go_wp2
  go_ret
  exact ⟨_, rfl, by omega, HB.out⟩

set_option maxHeartbeats 1000000 in
theorem alive_any (w : World) : Calls Try.prog 16 #[] w fun e w' => e = .returned (.bool true) ∧ Below w.heap.size w w' := by
  go_enter Try.func16, Try.ntmps16
  go_wp2_with fail
  refine (lowerText_i _ (by decide) _).mono ?_
  rintro e w1 ⟨rfl, hb⟩
  have HB := Lib.hid hb
  clear hb
  have e1 : lowL (ByteArray.mk #[65, 98]).data.toList = [97, 98] := by decide
  rw [e1]
  go_wp2
  go_ret
  exact ⟨rfl, HB.out⟩

theorem addrB_low {s : ByteArray} (h : addrB s.toList = true) : lowL s.data.toList = s.data.toList := by
  rw [toList_data] at h
  generalize s.data.toList = l at *
  simp [addrB] at h
  rcases h with (rfl | rfl) | rfl <;> decide

theorem addrB_x (s : ByteArray) : addrB (s ++ (⟨#[120]⟩ : ByteArray)).toList = false := by
  rw [toList_data]
  have e : (s ++ (⟨#[120]⟩ : ByteArray)).data.toList = s.data.toList ++ [120] := by simp
  rw [e]
  generalize s.data.toList = l
  have h : (l ++ [120]).getLast? = some (120 : UInt8) := by simp
  generalize l ++ [120] = m at *
  cases hb : addrB m with
  | false => rfl
  | true =>
    simp [addrB] at hb
    rcases hb with (rfl | rfl) | rfl <;> simp at h

set_option maxHeartbeats 1000000 in
theorem FnAddressName_walk (a : Option Addr) (len cap : Nat) (zs : List Int) (w : World) (h : IsRow .u8 w a len cap zs) :
    Calls Try.prog 5 #[.slice a len cap] w fun e w' => e = .returned (.bool true) ∧ Below w.heap.size w w' := by
  have H := Lib.hid h
  have hmax : len ≤ maxLen := by
    rcases h with ⟨rfl, rfl, rfl, rfl⟩ | ⟨x, rfl, hl, hm, hz, hc, hwf⟩
    · omega
    · omega
  unfold maxLen at hmax
  clear h
  by_cases hbig : 1048576 < len
  · go_enter Try.func5, Try.ntmps5
    go_wp2
    go_ret
    exact ⟨rfl, Below.refl _ _⟩
  go_enter Try.func5, Try.ntmps5
  go_wp2_with fail
  refine (DrawAddressName_any a len cap zs _ H.out).mono ?_
  rintro e w1 ⟨s, rfl, hs, hb⟩
  have HB := Lib.hid hb
  clear hb
  go_wp2_with fail
  refine (addressName_i _ _).mono ?_
  rintro e w2 ⟨rfl, rfl⟩
  go_wp2_with fail
  refine (addressName_s _ _).mono ?_
  rintro e w2 ⟨rfl, rfl⟩
  by_cases hB : addrB s.toList = true
  · go_wp2_with fail
    refine (lowerText_i _ (by unfold maxLen; omega) _).mono ?_
    rintro e w2 ⟨rfl, hb2⟩
    rw [addrB_low hB]
    have HB2 := Lib.hid (HB.out.trans (hb2.mono HB.out.size))
    clear hb2 HB
    go_wp2_with fail
    have hx := addrB_x s
    refine (addressName_i _ _).mono ?_
    rintro e w3 ⟨rfl, rfl⟩
    go_wp2_with fail
    refine (alive_any _).mono ?_
    rintro e w3 ⟨rfl, hb3⟩
    have HB3 := Lib.hid (HB2.out.trans (hb3.mono HB2.out.size))
    clear hb3 HB2
    go_wp2_with fail
    go_ret
    exact ⟨rfl, HB3.out⟩
  · have hx := addrB_x s
    go_wp2_with fail
    refine (addressName_i _ _).mono ?_
    rintro e w3 ⟨rfl, rfl⟩
    go_wp2_with fail
    refine (alive_any _).mono ?_
    rintro e w3 ⟨rfl, hb3⟩
    have HB3 := Lib.hid (HB.out.trans (hb3.mono HB.out.size))
    clear hb3 HB
    go_wp2_with fail
    go_ret
    exact ⟨rfl, HB3.out⟩

theorem tagB_name {s : ByteArray} (h : tagB s.toList = true) : nameB s.data.toList = true := by
  rw [toList_data] at h
  generalize s.data.toList = l at *
  simp [tagB] at h
  rcases h with ((((((rfl | rfl) | rfl) | rfl) | rfl) | rfl) | rfl) | rfl <;> decide

set_option maxHeartbeats 1000000 in
theorem FnTagAllowed_walk (a : Option Addr) (len cap : Nat) (zs : List Int) (w : World) (h : IsRow .u8 w a len cap zs) :
    Calls Try.prog 7 #[.slice a len cap] w fun e w' => e = .returned (.bool true) ∧ Below w.heap.size w w' := by
  have H := Lib.hid h
  have hmax : len ≤ maxLen := by
    rcases h with ⟨rfl, rfl, rfl, rfl⟩ | ⟨x, rfl, hl, hm, hz, hc, hwf⟩
    · omega
    · omega
  unfold maxLen at hmax
  clear h
  by_cases hbig : 1048576 < len
  · go_enter Try.func7, Try.ntmps7
    go_wp2
    go_ret
    exact ⟨rfl, Below.refl _ _⟩
  have e1 : tagB (ByteArray.mk #[115, 99, 114, 105, 112, 116]).toList = false := by rw [toList_data]; decide
  have e2 : tagB (ByteArray.mk #[102, 111, 114, 109]).toList = false := by rw [toList_data]; decide
  go_enter Try.func7, Try.ntmps7
  go_wp2_with fail
  refine (DrawTagAllowed_any a len cap zs _ H.out).mono ?_
  rintro e w1 ⟨s, rfl, hs, hb⟩
  have HB := Lib.hid hb
  clear hb
  go_wp2_with fail
  refine (tagAllowed_i _ _).mono ?_
  rintro e w2 ⟨rfl, rfl⟩
  go_wp2_with fail
  refine (tagAllowed_s _ _).mono ?_
  rintro e w2 ⟨rfl, rfl⟩
  by_cases hB : tagB s.toList = true
  · have hn := tagB_name hB
    go_wp2_with fail
    refine (nameValid_i _ (by unfold maxLen; omega) _).mono ?_
    rintro e w3 ⟨rfl, rfl⟩
    go_wp2_with fail
    refine (tagAllowed_i _ _).mono ?_
    rintro e w3 ⟨rfl, rfl⟩
    go_wp2_with fail
    refine (tagAllowed_i _ _).mono ?_
    rintro e w3 ⟨rfl, rfl⟩
    go_wp2_with fail
    refine (alive_any _).mono ?_
    rintro e w3 ⟨rfl, hb3⟩
    have HB3 := Lib.hid (HB.out.trans (hb3.mono HB.out.size))
    clear hb3 HB
    go_wp2_with fail
    go_ret
    exact ⟨rfl, HB3.out⟩
  · go_wp2_with fail
    refine (tagAllowed_i _ _).mono ?_
    rintro e w3 ⟨rfl, rfl⟩
    go_wp2_with fail
    refine (tagAllowed_i _ _).mono ?_
    rintro e w3 ⟨rfl, rfl⟩
    go_wp2_with fail
    refine (alive_any _).mono ?_
    rintro e w3 ⟨rfl, hb3⟩
    have HB3 := Lib.hid (HB.out.trans (hb3.mono HB.out.size))
    clear hb3 HB
    go_wp2_with fail
    go_ret
    exact ⟨rfl, HB3.out⟩

set_option maxHeartbeats 1000000 in
theorem FnFaultText_walk (a : Option Addr) (len cap : Nat) (zs : List Int) (w : World) (h : IsRow .u8 w a len cap zs) :
    Calls Try.prog 6 #[.slice a len cap] w fun e w' => e = .returned (.bool true) ∧ Below w.heap.size w w' := by
  have H := Lib.hid h
  have hmax : len ≤ maxLen := by
    rcases h with ⟨rfl, rfl, rfl, rfl⟩ | ⟨x, rfl, hl, hm, hz, hc, hwf⟩
    · omega
    · omega
  unfold maxLen at hmax
  clear h
  by_cases hbig : 1048576 < len
  · go_enter Try.func6, Try.ntmps6
    go_wp2
    go_ret
    exact ⟨rfl, Below.refl _ _⟩
  go_enter Try.func6, Try.ntmps6
  go_wp2_with fail
  refine (DrawFaultText_any a len cap zs _ H.out).mono ?_
  rintro e w1 ⟨n, rfl, ⟨hn0, hn1⟩, hb⟩
  have HB := Lib.hid hb
  clear hb
  go_wp2_with fail
  refine (faultText_i _ _).mono ?_
  rintro e w2 ⟨rfl, hb2⟩
  have HB2 := Lib.hid (HB.out.trans (hb2.mono HB.out.size))
  clear hb2 HB
  go_wp2_with fail
  refine (faultText_s _ _).mono ?_
  rintro e w3 ⟨rfl, hb3⟩
  have HB3 := Lib.hid (HB2.out.trans (hb3.mono HB2.out.size))
  clear hb3 HB2
  have hc : n = -1 ∨ n = 6 ∨ n = 0 ∨ n = 1 ∨ n = 2 ∨ n = 3 ∨ n = 4 ∨ n = 5 := by omega
  clear hn0 hn1
  have f6 : faultS (-1) = [] := rfl
  have f7 : faultS 6 = [] := rfl
  have f0 : faultS 0 = [110, 111, 110, 101] := rfl
  have f1 : faultS 1 = [109, 97, 114, 107, 117, 112] := rfl
  have f2 : faultS 2 = [112, 108, 97, 99, 101] := rfl
  have f3 : faultS 3 = [98, 114, 97, 110, 99, 104] := rfl
  have f4 : faultS 4 = [108, 111, 111, 112] := rfl
  have f5 : faultS 5 = [101, 110, 100] := rfl
  rcases hc with rfl | rfl | rfl | rfl | rfl | rfl | rfl | rfl
  all_goals go_wp2_with fail
  · refine (alive_any _).mono ?_
    rintro e w4 ⟨rfl, hb3⟩
    have HB4 := Lib.hid (HB3.out.trans (hb3.mono HB3.out.size))
    clear hb3 HB3
    go_wp2_with fail
    go_ret
    exact ⟨rfl, HB4.out⟩
  · refine (alive_any _).mono ?_
    rintro e w4 ⟨rfl, hb3⟩
    have HB4 := Lib.hid (HB3.out.trans (hb3.mono HB3.out.size))
    clear hb3 HB3
    go_wp2_with fail
    go_ret
    exact ⟨rfl, HB4.out⟩
  all_goals
    refine (faultText_i _ _).mono ?_
    rintro e w4 ⟨rfl, hb3⟩
    have HB4 := Lib.hid (HB3.out.trans (hb3.mono HB3.out.size))
    clear hb3 HB3
    go_wp2_with fail
    go_ret
    exact ⟨rfl, HB4.out⟩
end Go.Proofs.Ytghkgmgoiingcaa
