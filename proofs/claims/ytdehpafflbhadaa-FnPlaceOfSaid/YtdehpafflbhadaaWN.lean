/- NameValid. -/
import Derived.Test.YtdehpafflbhadaaW1
import Derived.Lib.Hide
namespace Go.Proofs.Ytdehpafflbhadaa
set_option maxRecDepth 100000
set_option linter.unusedVariables false
set_option linter.unusedSimpArgs false
open Go.RowKit

def nmB (b : UInt8) : Bool := (decide (97 ≤ b.toNat) && decide (b.toNat ≤ 122)) || (decide (48 ≤ b.toNat) && decide (b.toNat ≤ 57)) || b.toNat == 45
def nameB (l : List UInt8) : Bool := decide (1 ≤ l.length) && decide (l.length ≤ 10) && decide (97 ≤ (l.getD 0 0).toNat) && decide ((l.getD 0 0).toNat ≤ 122) && l.all nmB

theorem getD_get (s : ByteArray) (k : Nat) (h : k < s.size) : s.data.toList.getD k 0 = s[k] := by
  simp [List.getD_eq_getElem?_getD, h]; rfl

theorem all_get {p : UInt8 → Bool} (l : List UInt8) (k : Nat) (hk : k = l.length) (h : ∀ j, j < k → p (l.getD j 0) = true) : l.all p = true := by
  rw [List.all_eq_true]
  intro x hx
  obtain ⟨j, hj, rfl⟩ := List.mem_iff_getElem.1 hx
  have := h j (by omega)
  simpa [List.getD_eq_getElem?_getD, hj] using this

theorem all_not {p : UInt8 → Bool} (l : List UInt8) (k : Nat) (hk : k < l.length) (h : p (l.getD k 0) = false) : l.all p = false := by
  rw [List.all_eq_false]
  refine ⟨l[k], List.getElem_mem _, ?_⟩
  simpa [List.getD_eq_getElem?_getD, hk] using h

set_option maxHeartbeats 1000000 in
theorem nameValid_i (s : ByteArray) (hs : s.size ≤ maxLen) (w : World) :
    Calls Try.prog 73 #[.string s] w fun e w' => e = .returned (.bool (nameB s.data.toList)) ∧ w = w' := by
  unfold maxLen at hs
  have hlen : s.data.toList.length = s.size := by simp
  by_cases h1 : s.size < 1
  · have e : nameB s.data.toList = false := by unfold nameB; simp only [hlen]; simp; omega
    rw [e]; clear e hlen
    go_enter Try.func73, Try.ntmps73
    go_wp2
    go_ret
    exact ⟨rfl, rfl⟩
  by_cases h2 : 10 < s.size
  · have e : nameB s.data.toList = false := by unfold nameB; simp only [hlen]; simp; omega
    rw [e]; clear e hlen
    go_enter Try.func73, Try.ntmps73
    go_wp2
    go_ret
    exact ⟨rfl, rfl⟩
  have h0 : 0 < s.size := by omega
  have hg := getD_get s 0 h0
  by_cases h3 : s[0].toNat < 97
  · have e : nameB s.data.toList = false := by unfold nameB; rw [hg]; simp; omega
    rw [e]; clear e hlen hg
    go_enter Try.func73, Try.ntmps73
    go_wp2
    go_ret
    exact ⟨rfl, rfl⟩
  by_cases h4 : 122 < s[0].toNat
  · have e : nameB s.data.toList = false := by unfold nameB; rw [hg]; simp; omega
    rw [e]; clear e hlen hg
    go_enter Try.func73, Try.ntmps73
    go_wp2
    go_ret
    exact ⟨rfl, rfl⟩
  have HT : Hid (s.data.toList.all nmB = nameB s.data.toList) := by
    apply Lib.hid
    unfold nameB; rw [hg, hlen]
    rw [decide_eq_true (by omega : 1 ≤ s.size), decide_eq_true (by omega : s.size ≤ 10), decide_eq_true (by omega : 97 ≤ s[0].toNat), decide_eq_true (by omega : s[0].toNat ≤ 122)]
    rfl
  clear hlen hg
  go_enter Try.func73, Try.ntmps73
  go_wp2
  go_loop [3] (fun i => ∃ k : Nat, k ≤ s.size ∧ i = .int .i64 k ∧ Hid (∀ j, j < k → nmB (s.data.toList.getD j 0) = true)) (fun i => s.size - (intOf i).toNat)
  case atStart => exact ⟨0, Nat.zero_le _, rfl, Lib.hid fun j hj => absurd hj (by omega)⟩
  case round =>
    obtain ⟨k, hk, rfl, HA⟩ := hrel
    by_cases hlt : k < s.size
    · have hg := getD_get s k hlt
      have HN : Hid (nmB s[k] = true → ∀ j, j < k + 1 → nmB (s.data.toList.getD j 0) = true) := Lib.hid fun h j hj => by
        by_cases e : j < k
        · exact HA.out j e
        · obtain rfl : j = k := by omega
          rw [hg]; exact h
      have HF : Hid (nmB s[k] = false → false = nameB s.data.toList) := Lib.hid fun h => by
        rw [← HT.out, all_not _ k (by simpa using hlt) (by rw [hg]; exact h)]
      clear hg HA HT
      have hc : (97 ≤ s[k].toNat ∧ s[k].toNat ≤ 122) ∨ (¬ 97 ≤ s[k].toNat ∨ 122 < s[k].toNat) := by omega
      rcases hc with ⟨a1, a2⟩ | hc
      · have HM : Hid (nmB s[k] = true) := Lib.hid (by simp [nmB, a1, a2])
        go_wp2
        go_round
        case rel => exact ⟨k + 1, by omega, by go_num, Lib.hid (HN.out HM.out)⟩
        case measure => simp [intOf]; omega
      · by_cases hd : 48 ≤ s[k].toNat ∧ s[k].toNat ≤ 57
        · have HM : Hid (nmB s[k] = true) := Lib.hid (by simp [nmB, hd.1, hd.2])
          have hdb := digB_t (n := (s[k].toNat : Int)) (by omega) (by omega)
          have a1 : s[k].toNat < 97 := by omega
          clear hc
          · go_wp2_with (go_at_call 97; refine (isDigit_any _ _).mono ?_; rintro e w' ⟨rfl, rfl⟩)
            go_round
            case rel => exact ⟨k + 1, by omega, by go_num, Lib.hid (HN.out HM.out)⟩
            case measure => simp [intOf]; omega
        · have hdb := digB_f (n := (s[k].toNat : Int)) (by omega)
          by_cases h45 : s[k].toNat = 45
          · have HM : Hid (nmB s[k] = true) := Lib.hid (by simp [nmB, h45])
            have hb45 : ((s[k].toNat : Int) == 45) = true := by simp [h45]
            have H45 := Lib.hid h45
            clear h45
            have a1 : s[k].toNat < 97 := by have := H45.out; omega
            clear hc
            · go_wp2_with (go_at_call 97; refine (isDigit_any _ _).mono ?_; rintro e w' ⟨rfl, rfl⟩)
              go_round
              case rel => exact ⟨k + 1, by omega, by go_num, Lib.hid (HN.out HM.out)⟩
              case measure => simp [intOf]; omega
          · have HM : Hid (nmB s[k] = false) := Lib.hid (by simp [nmB, h45]; omega)
            have hb45 : ((s[k].toNat : Int) == 45) = false := by simp; omega
            clear h45
            rcases hc with hc | hc
            all_goals
              try have a1 : 97 ≤ s[k].toNat := by omega
              try have a2 : decide ((s[k].toNat : Int) ≤ 122) = false := by simp; omega
              go_wp2_with (go_at_call 97; refine (isDigit_any _ _).mono ?_; rintro e w' ⟨rfl, rfl⟩)
              go_ret
              exact ⟨by rw [← HF.out HM.out]; rfl, rfl⟩
    · have HE : Hid (true = nameB s.data.toList) := Lib.hid (by rw [← HT.out]; exact (all_get _ k (by simp; omega) HA.out).symm)
      clear HA HT
      go_wp2
      go_ret
      exact ⟨by rw [← HE.out]; rfl, rfl⟩

set_option maxHeartbeats 400000 in
theorem l1Digit_any (b : Int) (w : World) :
    Calls Try.prog 119 #[.int .u8 b] w fun e w' => e = .returned (.bool (digB b)) ∧ w = w' := by
  go_enter Try.func119, Try.ntmps119
  go_wp2
  all_goals go_ret
  all_goals exact ⟨by simp_all [digB] <;> omega, rfl⟩

theorem nameB_first {l : List UInt8} (h0 : 0 < l.length) (h : (l.getD 0 0).toNat < 97 ∨ 122 < (l.getD 0 0).toNat) : nameB l = false := by
  unfold nameB
  generalize (l.getD 0 0).toNat = c at *
  rcases h with h | h
  · rw [show decide (97 ≤ c) = false by simp; omega]; simp
  · rw [show decide (c ≤ 122) = false by simp; omega]; simp

set_option maxHeartbeats 2000000 in
theorem nameValid_s (s : ByteArray) (hs : s.size ≤ maxLen) (w : World) :
    Calls Try.prog 91 #[.string s] w fun e w' => e = .returned (.bool (nameB s.data.toList)) ∧ w = w' := by
  unfold maxLen at hs
  have hlen : s.data.toList.length = s.size := by simp
  have HL := Lib.hid hlen
  clear hlen
  go_enter Try.func91, Try.ntmps91
  go_wp2
  go_loop [3] (fun i => ∃ k : Nat, k ≤ s.size ∧ i = .int .i64 k ∧ Hid ((∀ j, j < k → nmB (s.data.toList.getD j 0) = true) ∧ (0 < k → 97 ≤ (s.data.toList.getD 0 0).toNat ∧ (s.data.toList.getD 0 0).toNat ≤ 122))) (fun i => s.size - (intOf i).toNat)
  case atStart => exact ⟨0, Nat.zero_le _, rfl, Lib.hid ⟨fun j hj => absurd hj (by omega), fun h => absurd h (by omega)⟩⟩
  case round =>
    obtain ⟨k, hk, rfl, HA⟩ := hrel
    by_cases hlt : k < s.size
    · have hg := getD_get s k hlt
      have HN : Hid (nmB s[k] = true → (0 < k ∨ (97 ≤ s[k].toNat ∧ s[k].toNat ≤ 122)) → (∀ j, j < k + 1 → nmB (s.data.toList.getD j 0) = true) ∧ (0 < k + 1 → 97 ≤ (s.data.toList.getD 0 0).toNat ∧ (s.data.toList.getD 0 0).toNat ≤ 122)) := Lib.hid fun h h' => by
        refine ⟨fun j hj => ?_, fun _ => ?_⟩
        · by_cases e : j < k
          · exact HA.out.1 j e
          · obtain rfl : j = k := by omega
            rw [hg]; exact h
        · rcases h' with h' | h'
          · exact HA.out.2 h'
          · by_cases e : 0 < k
            · exact HA.out.2 e
            · obtain rfl : k = 0 := by omega
              rw [hg]; exact h'
      have HF : Hid (nmB s[k] = false → false = nameB s.data.toList) := Lib.hid fun h => by
        unfold nameB; rw [all_not _ k (by simpa using hlt) (by rw [hg]; exact h), Bool.and_false]
      have HZ : Hid (k = 0 → (s[k].toNat < 97 ∨ 122 < s[k].toNat) → false = nameB s.data.toList) := Lib.hid fun h0 h => by
        subst h0
        exact (nameB_first (by rw [HL.out]; exact hlt) (by rw [hg]; exact h)).symm
      clear hg HA
      by_cases hsm : 97 ≤ s[k].toNat ∧ s[k].toNat ≤ 122
      · have HM : Hid (nmB s[k] = true) := Lib.hid (by simp [nmB, hsm.1, hsm.2])
        obtain ⟨a1, a2⟩ := hsm
        go_wp2
        go_round
        case rel => exact ⟨k + 1, by omega, by go_num, Lib.hid (HN.out HM.out (.inr ⟨by omega, by omega⟩))⟩
        case measure => simp [intOf]; omega
      · by_cases hz : k = 0
        · have hsm' : s[k].toNat < 97 ∨ 122 < s[k].toNat := by omega
          have HQ := Lib.hid (HZ.out hz hsm')
          have hz' : ((k : Int) == 0) = true := by simp [hz]
          clear HZ HN HF hsm hz
          rcases hsm' with h | h
          · go_wp2
            go_ret
            exact ⟨by rw [← HQ.out]; rfl, rfl⟩
          · have h97 : 97 ≤ s[k].toNat := by omega
            have h2 : decide ((s[k].toNat : Int) ≤ 122) = false := by simp; omega
            go_wp2
            go_ret
            exact ⟨by rw [← HQ.out]; rfl, rfl⟩
        · have hz' : ((k : Int) == 0) = false := by simp; omega
          have hkp : 0 < k := by omega
          clear HZ hz
          by_cases hd : 48 ≤ s[k].toNat ∧ s[k].toNat ≤ 57
          · have HM : Hid (nmB s[k] = true) := Lib.hid (by simp [nmB, hd.1, hd.2])
            have hdb := digB_t (n := (s[k].toNat : Int)) (by omega) (by omega)
            have a1 : s[k].toNat < 97 := by omega
            clear hsm
            go_wp2_with (go_at_call 119; refine (l1Digit_any _ _).mono ?_; rintro e w' ⟨rfl, rfl⟩)
            go_round
            case rel => exact ⟨k + 1, by omega, by go_num, Lib.hid (HN.out HM.out (.inl hkp))⟩
            case measure => simp [intOf]; omega
          · have hdb := digB_f (n := (s[k].toNat : Int)) (by omega)
            by_cases h45 : s[k].toNat = 45
            · have HM : Hid (nmB s[k] = true) := Lib.hid (by simp [nmB, h45])
              have hb45 : ((s[k].toNat : Int) != 45) = false := by simp [h45]
              have a1 : s[k].toNat < 97 := by omega
              clear hsm h45 hd
              go_wp2_with (go_at_call 119; refine (l1Digit_any _ _).mono ?_; rintro e w' ⟨rfl, rfl⟩)
              go_round
              case rel => exact ⟨k + 1, by omega, by go_num, Lib.hid (HN.out HM.out (.inl hkp))⟩
              case measure => simp [intOf]; omega
            · have HM : Hid (nmB s[k] = false) := Lib.hid (by simp [nmB, h45]; omega)
              have hb45 : ((s[k].toNat : Int) != 45) = true := by simp; omega
              have hsm' : s[k].toNat < 97 ∨ 122 < s[k].toNat := by omega
              clear hsm h45 hd
              rcases hsm' with h | h
              · go_wp2_with (go_at_call 119; refine (l1Digit_any _ _).mono ?_; rintro e w' ⟨rfl, rfl⟩)
                go_ret
                exact ⟨by rw [← HF.out HM.out]; rfl, rfl⟩
              · have h97 : 97 ≤ s[k].toNat := by omega
                have h2 : decide ((s[k].toNat : Int) ≤ 122) = false := by simp; omega
                go_wp2_with (go_at_call 119; refine (l1Digit_any _ _).mono ?_; rintro e w' ⟨rfl, rfl⟩)
                go_ret
                exact ⟨by rw [← HF.out HM.out]; rfl, rfl⟩
    · have HE : Hid (inB s.size 1 10 = nameB s.data.toList) := Lib.hid (by
        obtain ⟨hall, hfst⟩ := HA.out
        unfold nameB inB
        rw [all_get _ k (by rw [HL.out]; omega) hall, HL.out]
        by_cases h0 : 0 < k
        · obtain ⟨f1, f2⟩ := hfst h0
          rw [decide_eq_true f1, decide_eq_true f2]
          simp only [Bool.and_true]
          congr 1
          · simp; omega
          · simp; omega
        · have : s.size = 0 := by omega
          rw [this]; rfl)
      clear HA
      go_wp2_with (go_at_call 90; refine (l1In_any _ _ _ _).mono ?_; rintro e w' ⟨rfl, rfl⟩)
      go_ret
      exact ⟨by rw [← HE.out]; rfl, rfl⟩
end Go.Proofs.Ytdehpafflbhadaa
