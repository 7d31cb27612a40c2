/- Contracts: the reference's l12Fill, FillPlain. -/
import Derived.Test.YtdedddmnacomfaaVK3
import Derived.Test.YtdedddmnacomfaaVX16

namespace Go.Proofs.Ytdedddmnacomfaa
set_option maxRecDepth 100000
set_option linter.unusedVariables false
set_option linter.unusedSimpArgs false
open Go.RowKit
--LV=X24
theorem find_no : ∀ {l : List FieldD} {n : Bs}, hasF l n = false → findF l n = noF
  | [], _, _ => rfl
  | f :: r, n, h => by
    unfold hasF at h
    rw [List.any_cons, Bool.or_eq_false_iff] at h
    unfold findF
    rw [if_neg (by simpa using h.1)]
    exact find_no h.2
theorem fdS_mk (l : List FieldD) (n : Bs) : ∃ m, fdS l n = ⟨m, (findF l n).text, (findF l n).holds, (findF l n).items⟩ := by
  unfold fdS
  cases h : hasF l n
  · exact ⟨n, by rw [find_no h]; rfl⟩
  · exact ⟨(findF l n).name, rfl⟩
theorem dataB_len {l : List FieldD} (h : dataB l = true) : l.length ≤ 8 := by
  unfold dataB at h
  simp only [Bool.and_eq_true, decide_eq_true_eq] at h
  exact h.1
end Go.Proofs.Ytdedddmnacomfaa
