/- The machine of modes: what a step does; the reference's step. -/
import Derived.Test.YtdehpafflbhadaaWS
import Derived.Test.YtdehpafflbhadaaWL
namespace Go.Proofs.Ytdehpafflbhadaa
set_option maxRecDepth 100000
set_option linter.unusedVariables false
set_option linter.unusedSimpArgs false
open Go.RowKit

structure St where
  mode : Int
  tag : List UInt8
  attr : List UInt8
  seen : Bool
deriving DecidableEq

def St.ok (s : St) : Bool := stOk s.mode s.tag s.attr s.seen
def St.bad : St := ⟨15, [], [], false⟩
def stV (s : St) : Value := .agg #[.int .i64 s.mode, .string ⟨s.tag.toArray⟩, .string ⟨s.attr.toArray⟩, .bool s.seen]

def letN (n : Int) : Bool := (decide (97 ≤ n) && decide (n ≤ 122)) || (decide (65 ≤ n) && decide (n ≤ 90))
def nameN (n : Int) : Bool := letN n || digB n || (n == 45)
def bareN (n : Int) : Bool := letN n || digB n || (n == 45) || (n == 95) || (n == 46) || (n == 47) || (n == 58)

/-- A longer name of the tag, or of the attribute. -/
def moreSt (m : Int) (tag attr more : List UInt8) : St :=
  if m = 4 then (if 10 < (attr ++ lowL more).length ∨ 10 < tag.length then St.bad else ⟨m, tag, attr ++ lowL more, false⟩)
  else (if 10 < attr.length ∨ 10 < (tag ++ lowL more).length then St.bad else ⟨m, tag ++ lowL more, attr, false⟩)

def contentSt (tag : List UInt8) : St := if tag = [115, 99, 114, 105, 112, 116] then ⟨11, [], [], false⟩ else ⟨0, [], [], false⟩

theorem ba_append (s : ByteArray) (l : List UInt8) : s ++ (⟨l.toArray⟩ : ByteArray) = ⟨(s.data.toList ++ l).toArray⟩ := by
  have h : (s ++ (⟨l.toArray⟩ : ByteArray)).data = (⟨(s.data.toList ++ l).toArray⟩ : ByteArray).data := by
    rw [ByteArray.data_append]
    apply Array.ext'
    simp
  cases hs : s ++ (⟨l.toArray⟩ : ByteArray)
  rw [hs] at h
  simp at h
  rw [h]
theorem ba_eta (s : ByteArray) : (⟨s.data.toList.toArray⟩ : ByteArray) = s := by cases s; simp

set_option maxHeartbeats 400000 in
theorem l1Letter_any (b : Int) (w : World) :
    Calls Try.prog 120 #[.int .u8 b] w fun e w' => e = .returned (.bool (letN b)) ∧ w = w' := by
  go_enter Try.func120, Try.ntmps120
  go_wp2
  all_goals go_ret
  all_goals exact ⟨by simp_all [letN] <;> omega, rfl⟩

set_option maxHeartbeats 400000 in
theorem l5Name_any (b : Int) (w : World) :
    Calls Try.prog 143 #[.int .u8 b] w fun e w' => e = .returned (.bool (nameN b)) ∧ w = w' := by
  cases hl : letN b with
  | true =>
    go_enter Try.func143, Try.ntmps143
    go_wp2_with (first | (go_at_call 120; refine (l1Letter_any _ _).mono ?_; rintro e w' ⟨rfl, rfl⟩) | (go_at_call 119; refine (l1Digit_any _ _).mono ?_; rintro e w' ⟨rfl, rfl⟩))
    go_ret
    exact ⟨by simp [nameN, hl], rfl⟩
  | false =>
    cases hd : digB b with
    | true =>
      go_enter Try.func143, Try.ntmps143
      go_wp2_with (first | (go_at_call 120; refine (l1Letter_any _ _).mono ?_; rintro e w' ⟨rfl, rfl⟩) | (go_at_call 119; refine (l1Digit_any _ _).mono ?_; rintro e w' ⟨rfl, rfl⟩))
      go_ret
      exact ⟨by simp [nameN, hl, hd], rfl⟩
    | false =>
      go_enter Try.func143, Try.ntmps143
      go_wp2_with (first | (go_at_call 120; refine (l1Letter_any _ _).mono ?_; rintro e w' ⟨rfl, rfl⟩) | (go_at_call 119; refine (l1Digit_any _ _).mono ?_; rintro e w' ⟨rfl, rfl⟩))
      go_ret
      exact ⟨by simp [nameN, hl, hd], rfl⟩

set_option maxHeartbeats 400000 in
theorem l5Content_any (tag : ByteArray) (w : World) :
    Calls Try.prog 151 #[.string tag] w fun e w' => e = .returned (stV (contentSt tag.data.toList)) ∧ Below w.heap.size w w' := by
  cases ht : tag.toList == [115, 99, 114, 105, 112, 116] with
  | true =>
    have e : contentSt tag.data.toList = ⟨11, [], [], false⟩ := by rw [toList_data] at ht; simp at ht; simp [contentSt, ht]
    rw [e]; clear e
    go_enter Try.func151, Try.ntmps151
    go_wp2
    refine bodyPost_ret (v := stV ⟨11, [], [], false⟩) (by simp [results, Try.results151, go_sem, stV]) rfl ⟨rfl, ?_⟩
    repeat (first | exact Below.refl _ _ | refine Below.setCell ?_ (by first | omega | (simp; done) | (simp; omega)) _ | refine Below.alloc ?_ (by first | omega | (simp; done) | (simp; omega)) _ | refine Below.drew ?_)
  | false =>
    have e : contentSt tag.data.toList = ⟨0, [], [], false⟩ := by rw [toList_data] at ht; simp at ht; simp [contentSt, ht]
    rw [e]; clear e
    go_enter Try.func151, Try.ntmps151
    go_wp2
    refine bodyPost_ret (v := stV ⟨0, [], [], false⟩) (by simp [results, Try.results151, go_sem, stV]) rfl ⟨rfl, ?_⟩
    repeat (first | exact Below.refl _ _ | refine Below.setCell ?_ (by first | omega | (simp; done) | (simp; omega)) _ | refine Below.alloc ?_ (by first | omega | (simp; done) | (simp; omega)) _ | refine Below.drew ?_)

set_option maxHeartbeats 400000 in
theorem l5Value_any (m : Int) (tag attr : ByteArray) (seen : Bool) (w : World) :
    Calls Try.prog 142 #[.agg #[.int .i64 m, .string tag, .string attr, .bool seen]] w fun e w' => e = .returned (.agg #[.int .i64 m, .string tag, .string attr, .bool true]) ∧ Below w.heap.size w w' := by
  go_enter Try.func142, Try.ntmps142
  go_wp2
  refine bodyPost_ret (v := .agg #[.int .i64 m, .string tag, .string attr, .bool true]) (by simp [results, Try.results142, go_sem]) rfl ⟨rfl, ?_⟩
  repeat (first | exact Below.refl _ _ | refine Below.setCell ?_ (by first | omega | (simp; done) | (simp; omega)) _ | refine Below.alloc ?_ (by first | omega | (simp; done) | (simp; omega)) _ | refine Below.drew ?_)

set_option maxHeartbeats 2000000 in
theorem l5More_any (m : Int) (tag attr more : ByteArray) (ht : tag.size ≤ 1000) (ha : attr.size ≤ 1000) (hm : more.size ≤ 1000) (w : World) :
    Calls Try.prog 141 #[.int .i64 m, .string tag, .string attr, .string more] w fun e w' => e = .returned (stV (moreSt m tag.data.toList attr.data.toList more.data.toList)) ∧ Below w.heap.size w w' := by
  by_cases h4 : m = 4
  · subst h4
    obtain ⟨M, hM⟩ : ∃ M : ByteArray, M = ⟨(lowL more.data.toList).toArray⟩ := ⟨_, rfl⟩
    have hMs : M.size ≤ 1000 := by rw [hM]; show (lowL more.data.toList).toArray.size ≤ 1000; simp [lowL]; exact hm
    obtain ⟨Y, hcat⟩ : ∃ Y : ByteArray, attr ++ M = Y := ⟨_, rfl⟩
    have hYd : Y.data.toList = attr.data.toList ++ lowL more.data.toList := by rw [← hcat, hM, ba_append]
    have hYs : Y.size = attr.size + M.size := by rw [← hcat]; exact ByteArray.size_append
    have hYl : Y.size ≤ 2000 := by omega
    have HSP : Hid (moreSt 4 tag.data.toList attr.data.toList more.data.toList = if 10 < Y.size ∨ 10 < tag.size then St.bad else ⟨4, tag.data.toList, Y.data.toList, false⟩) := by
      apply Lib.hid
      have e : Y.size = (attr.data.toList ++ lowL more.data.toList).length := by rw [← hYd]; simp
      rw [e, hYd]
      unfold moreSt
      rw [if_pos rfl]; simp
    have HM := Lib.hid hM
    clear hM hYd hYs
    go_enter Try.func141, Try.ntmps141
    go_wp2_with fail
    refine (lowerText_s more (by omega) _).mono ?_
    rintro e w1 ⟨rfl, hb⟩
    rw [← HM.out]
    have HB := Lib.hid (below_call (((Below.refl w.heap.size w).alloc (Nat.le_refl _) _).alloc (by first | omega | (simp; done) | (simp; omega)) _) hb (by first | omega | (simp; done) | (simp; omega)))
    have hbs := hb.size
    have C0 := (((Blk.new w 43 #[.int .i64 0, .string ⟨#[]⟩, .string ⟨#[]⟩, .bool false] rfl).alloc _).below hb (by first | omega | (simp; done) | (simp; omega))).c4
    have C1 := ((Blk.new (w.alloc _) 43 #[.int .i64 _, .string tag, .string attr, .bool false] (g := w.heap.size + 1) (by simp)).below hb (by first | omega | (simp; done) | (simp; omega))).c4
    clear hb
    simp at hbs
    by_cases h1 : 10 < Y.size
    · go_wp2_with fail
      rw [HSP.out, if_pos (by omega)]
      refine bodyPost_ret (v := stV St.bad) (by simp [results, Try.results141, go_sem, stV, St.bad, C0]) rfl ⟨rfl, ?_⟩
      repeat (first | exact HB.out | refine Below.setCell ?_ (by first | omega | (simp; done) | (simp; omega)) _ | refine Below.alloc ?_ (by first | omega | (simp; done) | (simp; omega)) _ | refine Below.drew ?_)
    by_cases h2 : 10 < tag.size
    · go_wp2_with fail
      rw [HSP.out, if_pos (by omega)]
      refine bodyPost_ret (v := stV St.bad) (by simp [results, Try.results141, go_sem, stV, St.bad, C0]) rfl ⟨rfl, ?_⟩
      repeat (first | exact HB.out | refine Below.setCell ?_ (by first | omega | (simp; done) | (simp; omega)) _ | refine Below.alloc ?_ (by first | omega | (simp; done) | (simp; omega)) _ | refine Below.drew ?_)
    · go_wp2_with fail
      rw [HSP.out, if_neg (by omega)]
      refine bodyPost_ret (v := .agg #[.int .i64 4, .string tag, .string Y, .bool false]) (by simp [results, Try.results141, go_sem, C0]) rfl ⟨by simp [stV, ba_eta], ?_⟩
      repeat (first | exact HB.out | refine Below.setCell ?_ (by first | omega | (simp; done) | (simp; omega)) _ | refine Below.alloc ?_ (by first | omega | (simp; done) | (simp; omega)) _ | refine Below.drew ?_)
  · have h4' : (m == 4) = false := by simp [h4]
    obtain ⟨M, hM⟩ : ∃ M : ByteArray, M = ⟨(lowL more.data.toList).toArray⟩ := ⟨_, rfl⟩
    have hMs : M.size ≤ 1000 := by rw [hM]; show (lowL more.data.toList).toArray.size ≤ 1000; simp [lowL]; exact hm
    obtain ⟨Y, hcat⟩ : ∃ Y : ByteArray, tag ++ M = Y := ⟨_, rfl⟩
    have hYd : Y.data.toList = tag.data.toList ++ lowL more.data.toList := by rw [← hcat, hM, ba_append]
    have hYs : Y.size = tag.size + M.size := by rw [← hcat]; exact ByteArray.size_append
    have hYl : Y.size ≤ 2000 := by omega
    have HSP : Hid (moreSt m tag.data.toList attr.data.toList more.data.toList = if 10 < Y.size ∨ 10 < attr.size then St.bad else ⟨m, Y.data.toList, attr.data.toList, false⟩) := by
      apply Lib.hid
      have e : Y.size = (tag.data.toList ++ lowL more.data.toList).length := by rw [← hYd]; simp
      rw [e, hYd]
      unfold moreSt
      rw [if_neg h4]; simp [or_comm]
    have HM := Lib.hid hM
    clear hM hYd hYs h4
    go_enter Try.func141, Try.ntmps141
    go_wp2_with fail
    refine (lowerText_s more (by omega) _).mono ?_
    rintro e w1 ⟨rfl, hb⟩
    rw [← HM.out]
    have HB := Lib.hid (below_call (((Below.refl w.heap.size w).alloc (Nat.le_refl _) _).alloc (by first | omega | (simp; done) | (simp; omega)) _) hb (by first | omega | (simp; done) | (simp; omega)))
    have hbs := hb.size
    have C0 := (((Blk.new w 43 #[.int .i64 0, .string ⟨#[]⟩, .string ⟨#[]⟩, .bool false] rfl).alloc _).below hb (by first | omega | (simp; done) | (simp; omega))).c4
    have C1 := ((Blk.new (w.alloc _) 43 #[.int .i64 _, .string tag, .string attr, .bool false] (g := w.heap.size + 1) (by simp)).below hb (by first | omega | (simp; done) | (simp; omega))).c4
    clear hb
    simp at hbs
    by_cases h1 : 10 < attr.size
    · go_wp2_with fail
      rw [HSP.out, if_pos (by omega)]
      refine bodyPost_ret (v := stV St.bad) (by simp [results, Try.results141, go_sem, stV, St.bad, C0]) rfl ⟨rfl, ?_⟩
      repeat (first | exact HB.out | refine Below.setCell ?_ (by first | omega | (simp; done) | (simp; omega)) _ | refine Below.alloc ?_ (by first | omega | (simp; done) | (simp; omega)) _ | refine Below.drew ?_)
    by_cases h2 : 10 < Y.size
    · go_wp2_with fail
      rw [HSP.out, if_pos (by omega)]
      refine bodyPost_ret (v := stV St.bad) (by simp [results, Try.results141, go_sem, stV, St.bad, C0]) rfl ⟨rfl, ?_⟩
      repeat (first | exact HB.out | refine Below.setCell ?_ (by first | omega | (simp; done) | (simp; omega)) _ | refine Below.alloc ?_ (by first | omega | (simp; done) | (simp; omega)) _ | refine Below.drew ?_)
    · go_wp2_with fail
      rw [HSP.out, if_neg (by omega)]
      refine bodyPost_ret (v := .agg #[.int .i64 m, .string Y, .string attr, .bool false]) (by simp [results, Try.results141, go_sem, C0]) rfl ⟨by simp [stV, ba_eta], ?_⟩
      repeat (first | exact HB.out | refine Below.setCell ?_ (by first | omega | (simp; done) | (simp; omega)) _ | refine Below.alloc ?_ (by first | omega | (simp; done) | (simp; omega)) _ | refine Below.drew ?_)
end Go.Proofs.Ytdehpafflbhadaa
