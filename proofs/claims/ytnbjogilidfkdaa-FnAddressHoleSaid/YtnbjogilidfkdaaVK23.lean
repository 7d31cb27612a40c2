/- Two filled templates and their tokens: a hole's value comes back; an address stays safe. Plain. -/
import Derived.Test.YtnbjogilidfkdaaVK21
import Derived.Test.YtnbjogilidfkdaaVK3
import Derived.Test.YtnbjogilidfkdaaVK10

namespace Go.Proofs.Ytnbjogilidfkdaa
set_option maxRecDepth 100000
set_option linter.unusedVariables false
set_option linter.unusedSimpArgs false
open Go.RowKit
theorem pctA_58 : ∀ b : UInt8, b.toNat ≠ 58 → ∀ c ∈ pctW keepA b, c.toNat ≠ 58 := all_bytes (by decide)
theorem pct3_58 : ∀ b : UInt8, ∀ c ∈ pctW keep3 b, c.toNat ≠ 58 ∧ c.toNat ≠ 38 := all_bytes (by decide)
theorem pctA_slq : ∀ b : UInt8, (pctW keepA b).any slq = slq b := all_bytes (by decide)
theorem pctA_alnum : ∀ b : UInt8, alnum b = true → pctW keepA b = [b] := all_bytes (by decide)
theorem flat_no58 {p : Bs} (h : ∀ b ∈ p, b.toNat ≠ 58) : ∀ c ∈ pctS keepA p, c.toNat ≠ 58 := by
  intro c hc
  unfold pctS at hc
  obtain ⟨b, hb, hc⟩ := List.mem_flatMap.1 hc
  exact pctA_58 b (h b hb) c hc
theorem flat3_no {p : Bs} : ∀ c ∈ pctS keep3 p, c.toNat ≠ 58 ∧ c.toNat ≠ 38 := by
  intro c hc
  unfold pctS at hc
  obtain ⟨b, hb, hc⟩ := List.mem_flatMap.1 hc
  exact pct3_58 b c hc
theorem any_slq : ∀ p : Bs, (pctS keepA p).any slq = p.any slq
  | [] => rfl
  | b :: r => by rw [pctS_cons, List.any_append, pctA_slq, any_slq r, List.any_cons]
theorem all_alnum : ∀ p : Bs, p.all alnum = true → pctS keepA p = p
  | [], _ => rfl
  | b :: r, h => by
    rw [List.all_cons, Bool.and_eq_true] at h
    rw [pctS_cons, pctA_alnum b h.1, all_alnum r h.2]; rfl
theorem u8_ne58 {b : UInt8} : b.toNat ≠ 58 ↔ b ≠ 58 := by
  constructor
  · rintro h rfl; exact h rfl
  · intro h e
    exact h (UInt8.toNat_inj.1 e)
theorem sch_app {p r : Bs} (h : ∀ b ∈ p, b.toNat ≠ 58) : schB (p ++ 58 :: r) = schP p := by
  have e : ixB (p ++ 58 :: r) 58 = (p.length : Int) := ix_take (by simp) (by rw [List.take_left]; exact fun b hb => u8_ne58.1 (h b hb)) (by rw [List.getD_eq_getElem?_getD, List.getElem?_append_right (Nat.le_refl _), Nat.sub_self]; rfl)
  unfold schB
  rw [e, if_neg (by omega), Int.toNat_natCast, List.take_left]
theorem sch_none {p : Bs} (h : ∀ b ∈ p, b.toNat ≠ 58) : schB p = [] := schB_none fun b hb => u8_ne58.1 (h b hb)
theorem split58 (s : Bs) : (∀ b ∈ s, b.toNat ≠ 58) ∨ ∃ p r, s = p ++ 58 :: r ∧ ∀ b ∈ p, b.toNat ≠ 58 := by
  induction s with
  | nil => exact .inl fun b hb => by cases hb
  | cons a s ih =>
    by_cases ha : a.toNat = 58
    · refine .inr ⟨[], s, ?_, fun b hb => by cases hb⟩
      rw [show a = 58 from UInt8.toNat_inj.1 ha]; rfl
    · rcases ih with h | ⟨p, r, rfl, h⟩
      · exact .inl fun b hb => by
          rcases List.mem_cons.1 hb with rfl | hb
          · exact ha
          · exact h b hb
      · refine .inr ⟨a :: p, r, rfl, fun b hb => ?_⟩
        rcases List.mem_cons.1 hb with rfl | hb
        · exact ha
        · exact h b hb
theorem safe_nil {s : Bs} (h : schB s = []) : safeB s = true := by unfold safeB; rw [h]; rfl
theorem safe_pct {s E : Bs} (hE : ∀ b ∈ E, b.toNat ≠ 58) (h : safeB s = true) : safeB (pctS keepA s ++ E) = true := by
  rcases split58 s with hs | ⟨p, r, rfl, hp⟩
  · refine safe_nil (sch_none fun b hb => ?_)
    rcases List.mem_append.1 hb with hb | hb
    · exact flat_no58 hs b hb
    · exact hE b hb
  · have e : pctS keepA (p ++ 58 :: r) ++ E = pctS keepA p ++ 58 :: (pctS keepA r ++ E) := by
      unfold pctS
      rw [List.flatMap_append, List.flatMap_cons, List.append_assoc]; rfl
    rw [e]
    have h1 := sch_app (r := pctS keepA r ++ E) (flat_no58 hp)
    have h2 := sch_app (r := r) hp
    unfold safeB at h ⊢
    rw [h1]
    rw [h2] at h
    by_cases hq : p.any slq = true
    · unfold schP
      rw [if_pos (by rw [any_slq]; exact hq)]; rfl
    · by_cases hn : p = [] ∨ p.all alnum = false
      · exfalso
        unfold schP at h
        rw [if_neg hq, if_pos hn] at h
        revert h; decide
      · have ha : p.all alnum = true := by
          cases hc : p.all alnum with
          | true => rfl
          | false => exact absurd (.inr hc) hn
        rw [all_alnum p ha]
        exact h
theorem unT_escA : ∀ s y : Bs, unT (escT s ++ y) = s ++ unT y
  | [], y => rfl
  | b :: r, y => by
    have := unT_ent b (escT r ++ y)
    rw [show escT (b :: r) = ent1 b ++ escT r from rfl, List.append_assoc, this, unT_escA r y]; rfl
theorem unT_no : ∀ y : Bs, (∀ c ∈ y, c.toNat ≠ 38) → unT y = y
  | [], _ => rfl
  | b :: r, h => by
    have hb : b.toNat ≠ 38 := h b List.mem_cons_self
    have hf : ((38 : UInt8) == b) = false := by
      rw [beq_eq_false_iff_ne]
      rintro rfl
      exact hb rfl
    rw [unT_cons, if_pos, unT_no r (fun c hc => h c (List.mem_cons_of_mem _ hc))]
    simp [entAt, List.isPrefixOf, hf]
theorem unT_adr (s y : Bs) (hy : ∀ c ∈ y, c.toNat ≠ 38) : unT (escFor 3 s ++ y) = (if safeB s = true then pctS keepA s else [35]) ++ y := by
  have e : escFor 3 s = if safeB s = true then escT (pctS keepA s) else [35] := by unfold escFor; simp
  rw [e]
  split
  · rw [unT_escA, unT_no y hy]
  · rw [unT_no _ (fun c hc => ?_)]
    rcases List.mem_append.1 hc with hc | hc
    · obtain rfl : c = 35 := by simpa using hc
      decide
    · exact hy c hc
theorem safe_adr (s u : Bs) : safeB (unT (escFor 3 s ++ escFor 4 u)) = true := by
  have e4 : escFor 4 u = pctS keep3 u := by unfold escFor; simp
  rw [e4, unT_adr s _ (fun c hc => (flat3_no c hc).2)]
  split
  · rename_i h
    exact safe_pct (fun b hb => (flat3_no b hb).1) h
  · refine safe_nil (sch_none fun b hb => ?_)
    rcases List.mem_append.1 hb with hb | hb
    · obtain rfl : b = 35 := by simpa using hb
      decide
    · exact (flat3_no b hb).1
def ptT (t : Bs) : PartD := .mk 1 t [] [] []
def ptH (n : Bs) : PartD := .mk 2 [] n [] []
def hv1 : Bs := [60, 112, 32, 116, 105, 116, 108, 101, 61, 34]
def hv2 : Bs := [34, 62]
def hv3 : Bs := [60, 47, 112, 62]
def hvL : List PartD := [ptT hv1, ptH [97], ptT hv2, ptH [97], ptT hv3]
def hvText : Bs := [60, 112, 32, 116, 105, 116, 108, 101, 61, 34, 123, 123, 97, 125, 125, 34, 62, 123, 123, 97, 125, 125, 60, 47, 112, 62]
theorem hv_parts : partsB hvL = true := by decide +kernel
theorem hv_safe : safeM hvL = true := by decide +kernel
theorem hv_read : readM hvText = some hvL := by
  have e : txtL hvL = hvText := by decide +kernel
  rw [← e]
  exact readM_text hv_parts
def fdN (n s : Bs) : FieldD := ⟨n, s, false, []⟩
theorem hv_data {s : Bs} (h : valB s = true) : dataB [fdN [97] s] = true := by
  have h1 : nameB [97] = true := by decide
  simp [dataB, datL, fldB, fdN, hasF, h, h1]
theorem hv_st : afterS st0 hv1 = ⟨6, [112], [116, 105, 116, 108, 101], false⟩ := by decide +kernel
theorem hv_fill {s : Bs} (h : valB s = true) : fillM hvL [fdN [97] s] = some (hv1 ++ escT s ++ hv2 ++ escT s ++ hv3) := by
  unfold fillM
  rw [if_pos ⟨hv_safe, hv_data h⟩]
  have e1 : behindM ⟨6, [112], [116, 105, 116, 108, 101], false⟩ = ⟨6, [112], [116, 105, 116, 108, 101], true⟩ := by decide +kernel
  have e2 : afterS ⟨6, [112], [116, 105, 116, 108, 101], true⟩ hv2 = st0 := by decide +kernel
  have e3 : behindM st0 = st0 := by decide +kernel
  have p1 : placeM ⟨6, [112], [116, 105, 116, 108, 101], false⟩ = 2 := by decide +kernel
  have p2 : placeM st0 = 1 := by decide +kernel
  have f1 : (findF [fdN [97] s] [97]).text = s := rfl
  have g1 : ∀ t, escFor 1 t = escT t := fun t => by unfold escFor; simp
  have g2 : ∀ t, escFor 2 t = escT t := fun t => by unfold escFor; simp
  simp only [hvL, ptT, ptH, evL_cons, evL_nil, evP_mk, if_true, hv_st, e1, e2, e3]
  simp [cat, outS, f1, e2, p1, p2, g1, g2]
def hvTk (s : Bs) : List TokD := tkOpen [112] [([116, 105, 116, 108, 101], s)] :: (txtL1 s ++ [tkEnd [112]])
theorem hv_print (s : Bs) : printL (hvTk s) = hv1 ++ escT s ++ hv2 ++ escT s ++ hv3 := by
  unfold hvTk
  rw [printL_cons]
  have e : printL (txtL1 s ++ [tkEnd [112]]) = printL (txtL1 s) ++ printL [tkEnd [112]] := List.flatMap_append
  rw [e, print_txt]
  simp [printT, printL, printP, tkOpen, tkEnd, hv1, hv2, hv3]
theorem val_text {s : Bs} (h : valB s = true) : textB s = true ∧ s.length ≤ 40 := by
  unfold valB at h
  rw [Bool.and_eq_true, decide_eq_true_eq] at h
  exact ⟨h.2, h.1⟩
theorem hv_tok {s : Bs} (h : valB s = true) : tokM (hv1 ++ escT s ++ hv2 ++ escT s ++ hv3) = some (hvTk s) := by
  obtain ⟨h1, h2⟩ := val_text h
  have hl := escT_len s
  rw [← hv_print]
  refine read_print ?_ ?_ ?_ ?_
  · intro t ht
    unfold hvTk at ht
    rcases List.mem_cons.1 ht with rfl | ht
    · exact .inr (.inr ⟨rfl, rfl, by show nameB [112] = true; decide, by show ([112] : Bs) ≠ script; decide, by simp [tkOpen], fun p hp => by
        obtain rfl : p = _ := by simpa [tkOpen] using hp
        show nameB [116, 105, 116, 108, 101] = true
        decide⟩)
    · rcases List.mem_append.1 ht with ht | ht
      · unfold txtL1 at ht
        split at ht
        · cases ht
        · rename_i hne
          obtain rfl : t = tkText s := by simpa using ht
          exact .inl ⟨rfl, rfl, rfl, hne⟩
      · obtain rfl : t = tkEnd [112] := by simpa using ht
        exact .inr (.inl ⟨rfl, rfl, rfl, by decide⟩)
  · unfold hvTk txtL1; split <;> rfl
  · unfold hvTk txtL1; split <;> simp
  · rw [hv_print, textB_iff]
    refine ⟨by simp only [List.length_append]; simp [hv1, hv2, hv3]; omega, ?_⟩
    exact okL_app (okL_app (okL_app (okL_app (okL_lit (by decide)) (okB_esc (okB_text h1))) (okL_lit (by decide))) (okB_esc (okB_text h1))) (okL_lit (by decide))
def ah1 : Bs := [60, 97, 32, 104, 114, 101, 102, 61, 39]
def ah2 : Bs := [39, 62, 120, 60, 47, 97, 62]
def ahL : List PartD := [ptT ah1, ptH [97], ptH [98], ptT ah2]
def ahText : Bs := [60, 97, 32, 104, 114, 101, 102, 61, 39, 123, 123, 97, 125, 125, 123, 123, 98, 125, 125, 39, 62, 120, 60, 47, 97, 62]
theorem ah_parts : partsB ahL = true := by decide +kernel
theorem ah_safe : safeM ahL = true := by decide +kernel
theorem ah_read : readM ahText = some ahL := by
  have e : txtL ahL = ahText := by decide +kernel
  rw [← e]
  exact readM_text ah_parts
theorem ah_data {s u : Bs} (h : valB s = true) (h' : valB u = true) : dataB [fdN [97] s, fdN [98] u] = true := by
  have h1 : nameB [97] = true := by decide
  have h2 : nameB [98] = true := by decide
  simp [dataB, datL, fldB, fdN, hasF, h, h1, h', h2]
theorem ah_fill {s u : Bs} (h : valB s = true) (h' : valB u = true) : fillM ahL [fdN [97] s, fdN [98] u] = some (ah1 ++ (escFor 3 s ++ escFor 4 u) ++ ah2) := by
  unfold fillM
  rw [if_pos ⟨ah_safe, ah_data h h'⟩]
  have e0 : afterS st0 ah1 = ⟨7, [97], [104, 114, 101, 102], false⟩ := by decide +kernel
  have e1 : behindM ⟨7, [97], [104, 114, 101, 102], false⟩ = ⟨7, [97], [104, 114, 101, 102], true⟩ := by decide +kernel
  have e2 : behindM ⟨7, [97], [104, 114, 101, 102], true⟩ = ⟨7, [97], [104, 114, 101, 102], true⟩ := by decide +kernel
  have p1 : placeM ⟨7, [97], [104, 114, 101, 102], false⟩ = 3 := by decide +kernel
  have p2 : placeM ⟨7, [97], [104, 114, 101, 102], true⟩ = 4 := by decide +kernel
  have f1 : (findF [fdN [97] s, fdN [98] u] [97]).text = s := rfl
  have f2 : (findF [fdN [97] s, fdN [98] u] [98]).text = u := by
    unfold findF
    rw [if_neg (by simp [fdN])]; rfl
  simp only [ahL, ptT, ptH, evL_cons, evL_nil, evP_mk, if_true, e0, e1, e2]
  simp [cat, outS, f1, f2, p1, p2]
theorem okB_pctA : ∀ b : UInt8, ∀ c ∈ pctW keepA b, okByte c.toNat = true := all_bytes (by decide)
theorem okB_pct3 : ∀ b : UInt8, ∀ c ∈ pctW keep3 b, okByte c.toNat = true := all_bytes (by decide)
theorem okB_for3 (s : Bs) : okL' (escFor 3 s) := by
  have e : escFor 3 s = if safeB s = true then escT (pctS keepA s) else [35] := by unfold escFor; simp
  rw [e]
  split
  · refine okB_esc fun c hc => ?_
    unfold pctS at hc
    obtain ⟨b, hb, hc⟩ := List.mem_flatMap.1 hc
    exact okB_pctA b c hc
  · exact okL_lit (by decide)
theorem okB_for4 (s : Bs) : okL' (escFor 4 s) := by
  have e : escFor 4 s = pctS keep3 s := by unfold escFor; simp
  rw [e]
  intro c hc
  unfold pctS at hc
  obtain ⟨b, hb, hc⟩ := List.mem_flatMap.1 hc
  exact okB_pct3 b c hc
theorem ah_tok {s u : Bs} (hl : (escFor 3 s).length + (escFor 4 u).length ≤ 580) : tokM (ah1 ++ (escFor 3 s ++ escFor 4 u) ++ ah2) = some [tkOpen [97] [([104, 114, 101, 102], unT (escFor 3 s ++ escFor 4 u))], tkText [120], tkEnd [97]] := by
  have ht : textB (ah1 ++ (escFor 3 s ++ escFor 4 u) ++ ah2) = true := by
    rw [textB_iff]
    exact ⟨by simp only [List.length_append]; simp [ah1, ah2]; omega, okL_app (okL_app (okL_lit (by decide)) (okL_app (okB_for3 s) (okB_for4 u))) (okL_lit (by decide))⟩
  unfold tokM
  rw [if_pos ht]
  generalize hv : escFor 3 s ++ escFor 4 u = v
  have hq : ∀ b ∈ v, b.toNat ≠ 39 := by
    intro b hb
    rw [← hv] at hb
    rcases List.mem_append.1 hb with hb | hb
    · exact (noSp_iff.1 (List.all_eq_true.1 (escFor_noSp 3 s) b hb)).2.2.2
    · exact (noSp_iff.1 (List.all_eq_true.1 (escFor_noSp 4 u) b hb)).2.2.2
  have n1 : nameB [97] = true := by decide
  have n2 : nameB [104, 114, 101, 102] = true := by decide
  have r1 := run_open [97] [] [] n1
  have r2 := run_pair (k := 7) (q := 39) (.inr ⟨rfl, rfl⟩) [97] [104, 114, 101, 102] v [] (flushT [] []) 2 (.inl rfl) n1 n2 hq
  have r3 := run_close n1 (by decide) [([104, 114, 101, 102], v)] (flushT [] []) 3 (.inr rfl) (by simp)
  have r4 := run_text [120] [] [tkOpen [97] (unPs [([104, 114, 101, 102], v)])] (by decide)
  have r5 := run_end [97] [120] [tkOpen [97] (unPs [([104, 114, 101, 102], v)])] n1
  have es : ah1 ++ v ++ ah2 = ([60] ++ [97]) ++ (([32] ++ [104, 114, 101, 102] ++ [61, 39] ++ v ++ [39]) ++ (62 :: ([120] ++ ([60, 47] ++ [97] ++ [62])))) := by simp [ah1, ah2]
  rw [es]
  have e : tkFold tkI0 (([60] ++ [97]) ++ (([32] ++ [104, 114, 101, 102] ++ [61, 39] ++ v ++ [39]) ++ (62 :: ([120] ++ ([60, 47] ++ [97] ++ [62]))))) = some ⟨st0, [], [], flushT [120] [tkOpen [97] (unPs [([104, 114, 101, 102], v)])] ++ [tkEnd [97]]⟩ := by
    have e0 : tkI0 = ⟨st0, [], [], []⟩ := rfl
    rw [e0, fold_run r1, fold_run r2, List.nil_append, fold_one r3]
    have e9 : flushT [] [] ++ [tkOpen [97] (unPs [([104, 114, 101, 102], v)])] = [tkOpen [97] (unPs [([104, 114, 101, 102], v)])] := rfl
    rw [e9, fold_run r4, List.nil_append, r5]
  rw [e]
  have eu : unT [120] = [120] := by decide
  simp [tkFin, flushT, st0, unPs, eu]
end Go.Proofs.Ytnbjogilidfkdaa
