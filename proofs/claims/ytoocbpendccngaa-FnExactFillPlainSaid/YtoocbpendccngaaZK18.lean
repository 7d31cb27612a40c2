/- What comes when parts are filled in, by steps; bounds. Plain. -/
import Derived.Test.YtoocbpendccngaaZK3

namespace Go.Proofs.Ytoocbpendccngaa
set_option maxRecDepth 100000
set_option linter.unusedVariables false
set_option linter.unusedSimpArgs false
open Go.RowKit
mutual
theorem stV_evP (data : List FieldD) : ∀ (x : PartD) (s : St), stV s = true → stV (evP data s x).2 = true
  | .mk k t n ps os, s, h => by
    have h1 := stV_evL data ps s h
    have h2 := stV_evL data os s h
    rw [evP_mk]
    split
    · exact stV_afterS s t
    split
    · exact stV_behind s
    split
    · split
      · exact h1
      · exact h2
    split
    · exact h
    · exact h
theorem stV_evL (data : List FieldD) : ∀ (xs : List PartD) (s : St), stV s = true → stV (evL data s xs).2 = true
  | [], s, h => by rw [evL_nil]; exact h
  | x :: xs, s, h => by rw [evL_cons]; exact stV_evL data xs _ (stV_evP data x s h)
end
theorem ev_split {data : List FieldD} {s : St} {xs : List PartD} {k : Nat} {x : PartD} (h : xs[k]? = some x) : wEs (evL data s (xs.take k)).1 + wEs (evP data (evL data s (xs.take k)).2 x).1 ≤ wEs (evL data s xs).1 := by
  have e : evL data s xs = evL data s (xs.take (k + 1) ++ xs.drop (k + 1)) := by rw [List.take_append_drop]
  rw [e, evL_append, evL_snoc h]
  simp only [wEs_append]
  omega
/-- What comes of some items. -/
def evI (data : List FieldD) (s : St) (ps : List PartD) (its : List Bs) : List Ev := its.flatMap fun it => (evL (withF data it) s ps).1
theorem evI_nil (data : List FieldD) (s : St) (ps : List PartD) : evI data s ps [] = [] := rfl
theorem evI_snoc {data : List FieldD} {s : St} {ps : List PartD} {its : List Bs} {j : Nat} {t : Bs} (h : its[j]? = some t) : evI data s ps (its.take (j + 1)) = evI data s ps (its.take j) ++ (evL (withF data t) s ps).1 := by
  unfold evI
  rw [take_snoc' h, List.flatMap_append]; simp
theorem evI_split {data : List FieldD} {s : St} {ps : List PartD} {its : List Bs} {j : Nat} {t : Bs} (h : its[j]? = some t) : wEs (evI data s ps (its.take j)) + wEs (evL (withF data t) s ps).1 ≤ wEs (evI data s ps its) := by
  have e : evI data s ps its = evI data s ps (its.take (j + 1) ++ its.drop (j + 1)) := by rw [List.take_append_drop]
  have e2 : evI data s ps (its.take (j + 1) ++ its.drop (j + 1)) = evI data s ps (its.take (j + 1)) ++ evI data s ps (its.drop (j + 1)) := by unfold evI; rw [List.flatMap_append]
  rw [e, e2, evI_snoc h]
  simp only [wEs_append]
  omega
theorem evI_pre (data : List FieldD) (s : St) (ps : List PartD) (its : List Bs) (j : Nat) : wEs (evI data s ps (its.take j)) ≤ wEs (evI data s ps its) := by
  have e : evI data s ps its = evI data s ps (its.take j ++ its.drop j) := by rw [List.take_append_drop]
  have e2 : evI data s ps (its.take j ++ its.drop j) = evI data s ps (its.take j) ++ evI data s ps (its.drop j) := by unfold evI; rw [List.flatMap_append]
  rw [e, e2]
  simp only [wEs_append]
  omega
section
variable {data : List FieldD} {s : St} {k : Int} {t n : Bs} {ps os : List PartD}
theorem ev1 (h : k = 1) : evP data s (.mk k t n ps os) = ([.txt t], afterS s t) := by rw [evP_mk, if_pos h]
theorem ev2 (h : k = 2) : evP data s (.mk k t n ps os) = ([.hole (findF data n) s], behindM s) := by rw [evP_mk, if_neg (by omega), if_pos h]
theorem ev3 (h : k = 3) (hh : (findF data n).holds = true) : evP data s (.mk k t n ps os) = evL data s ps := by rw [evP_mk, if_neg (by omega), if_neg (by omega), if_pos h, if_pos hh]
theorem ev3o (h : k = 3) (hh : (findF data n).holds = false) : evP data s (.mk k t n ps os) = evL data s os := by rw [evP_mk, if_neg (by omega), if_neg (by omega), if_pos h, if_neg (by rw [hh]; decide)]
theorem ev4 (h : k = 4) : evP data s (.mk k t n ps os) = (evI data s ps (findF data n).items, s) := by rw [evP_mk, if_neg (by omega), if_neg (by omega), if_neg (by omega), if_pos h]; rfl
theorem ev0 (h1 : ¬ k = 1) (h2 : ¬ k = 2) (h3 : ¬ k = 3) (h4 : ¬ k = 4) : evP data s (.mk k t n ps os) = ([], s) := by rw [evP_mk, if_neg h1, if_neg h2, if_neg h3, if_neg h4]
end
/-- Deeper parts: the depth goes down. -/
theorem gd_deep {d : Nat} {k : Int} {t n : Bs} {ps os : List PartD} (h : gdP d (.mk k t n ps os) = true) (hk : k = 3 ∨ k = 4) : 1 ≤ d ∧ gdL (d - 1) false ps = true ∧ gdL (d - 1) false os = true := by
  rw [gdP_mk, if_neg (by omega), if_neg (by omega), if_pos hk] at h
  simp only [Bool.and_eq_true, Bool.not_eq_true', decide_eq_false_iff_not] at h
  exact ⟨by omega, h.1.2, h.2⟩
theorem wE_txt (t : Bs) : wE (.txt t) = t.length + 1 := rfl
theorem wE_hole (f : FieldD) (s : St) : wE (.hole f s) = 18 * f.text.length + 2 := rfl
theorem wEs_one (e : Ev) : wEs [e] = wE e := by rw [wEs_cons, wEs_nil]; rfl
theorem wEs_flat2 {α : Type} (g h : α → List Ev) : ∀ l : List α, (∀ x ∈ l, wEs (g x) = wEs (h x)) → wEs (l.flatMap g) = wEs (l.flatMap h)
  | [], _ => rfl
  | x :: l, hh => by
    rw [List.flatMap_cons, List.flatMap_cons, wEs_append, wEs_append, hh x (by simp), wEs_flat2 g h l (fun y hy => hh y (by simp [hy]))]
mutual
theorem wE_stP : ∀ (x : PartD) (data : List FieldD) (s s' : St), wEs (evP data s x).1 = wEs (evP data s' x).1
  | .mk k t n ps os, data, s, s' => by
    rw [evP_mk, evP_mk]
    split
    · rfl
    split
    · rfl
    split
    · split
      · exact wE_stL ps data s s'
      · exact wE_stL os data s s'
    split
    · exact wEs_flat2 _ _ _ fun it _ => wE_stL ps (withF data it) s s'
    · rfl
theorem wE_stL : ∀ (xs : List PartD) (data : List FieldD) (s s' : St), wEs (evL data s xs).1 = wEs (evL data s' xs).1
  | [], data, s, s' => by rw [evL_nil, evL_nil]
  | x :: xs, data, s, s' => by
    rw [evL_cons, evL_cons, wEs_append, wEs_append, wE_stP x data s s', wE_stL xs data _ (evP data s' x).2]
end
/-- What comes, plainly: without states. -/
def plE (data : List FieldD) (xs : List PartD) : Bs := cat outP (evL data st0 xs).1
theorem plE_st (data : List FieldD) (s : St) (xs : List PartD) : cat outP (evL data s xs).1 = plE data xs := ev_plainL xs data s st0
def plW (data : List FieldD) (xs : List PartD) : Nat := wEs (evL data st0 xs).1
theorem plE_len (data : List FieldD) (xs : List PartD) : (plE data xs).length ≤ plW data xs := cat_len outP_len _
/-- Plainly filled items. -/
def plI (data : List FieldD) (ps : List PartD) (its : List Bs) : Bs := its.flatMap fun it => plE (withF data it) ps
theorem plI_nil (data : List FieldD) (ps : List PartD) : plI data ps [] = [] := rfl
theorem plI_snoc {data : List FieldD} {ps : List PartD} {its : List Bs} {j : Nat} {t : Bs} (h : its[j]? = some t) : plI data ps (its.take (j + 1)) = plI data ps (its.take j) ++ plE (withF data t) ps := by
  unfold plI
  rw [take_snoc' h, List.flatMap_append]; simp
theorem plI_ev (data : List FieldD) (s : St) (ps : List PartD) (its : List Bs) : cat outP (evI data s ps its) = plI data ps its := by
  unfold evI plI
  rw [cat_flat]
  congr 1
  funext it
  exact plE_st _ _ _
section
variable {data : List FieldD} {k : Int} {t n : Bs} {ps os : List PartD}
def plP (data : List FieldD) (x : PartD) : Bs := cat outP (evP data st0 x).1
theorem plE_snoc {xs : List PartD} {k : Nat} {x : PartD} (h : xs[k]? = some x) : plE data (xs.take (k + 1)) = plE data (xs.take k) ++ plP data x := by
  unfold plE plP
  rw [evL_snoc h, cat_append]
  congr 1
  exact ev_plainP x data _ _
theorem plW_split {xs : List PartD} {k : Nat} {x : PartD} (h : xs[k]? = some x) : plW data (xs.take k) + wEs (evP data st0 x).1 ≤ plW data xs := by
  have := ev_split (data := data) (s := st0) h
  rw [wE_stP x data _ st0] at this
  exact this
theorem pl1 (h : k = 1) : plP data (.mk k t n ps os) = t := by unfold plP; rw [ev1 h]; simp [cat, outP]
theorem pl2 (h : k = 2) : plP data (.mk k t n ps os) = (findF data n).text := by unfold plP; rw [ev2 h]; simp [cat, outP]
theorem pl3 (h : k = 3) (hh : (findF data n).holds = true) : plP data (.mk k t n ps os) = plE data ps := by unfold plP; rw [ev3 h hh]; rfl
theorem pl3o (h : k = 3) (hh : (findF data n).holds = false) : plP data (.mk k t n ps os) = plE data os := by unfold plP; rw [ev3o h hh]; rfl
theorem pl4 (h : k = 4) : plP data (.mk k t n ps os) = plI data ps (findF data n).items := by unfold plP; rw [ev4 h]; exact plI_ev _ _ _ _
theorem plw3 (h : k = 3) (hh : (findF data n).holds = true) : wEs (evP data st0 (.mk k t n ps os)).1 = plW data ps := by rw [ev3 h hh]; rfl
theorem plw3o (h : k = 3) (hh : (findF data n).holds = false) : wEs (evP data st0 (.mk k t n ps os)).1 = plW data os := by rw [ev3o h hh]; rfl
theorem plw4 (h : k = 4) {j : Nat} {it : Bs} (hj : (findF data n).items[j]? = some it) : wEs (evI data st0 ps ((findF data n).items.take j)) + plW (withF data it) ps ≤ wEs (evP data st0 (.mk k t n ps os)).1 := by
  rw [ev4 h]; exact evI_split hj
theorem plI_len (data : List FieldD) (ps : List PartD) (its : List Bs) : (plI data ps its).length ≤ wEs (evI data st0 ps its) := by
  rw [← plI_ev data st0]; exact cat_len outP_len _
theorem plP_len (data : List FieldD) (x : PartD) : (plP data x).length ≤ wEs (evP data st0 x).1 := cat_len outP_len _
end
end Go.Proofs.Ytoocbpendccngaa
