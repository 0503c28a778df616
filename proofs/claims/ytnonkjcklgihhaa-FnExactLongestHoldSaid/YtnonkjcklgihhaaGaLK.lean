/- A part of the proof that stands in this folder: a small machine whose steps are shown to be the steps of the model, or walks of functions by it. No condition of its own. -/
import Derived.Test.YtnonkjcklgihhaaGaLJ
set_option linter.unusedVariables false
set_option linter.unusedSimpArgs false
namespace Go.Proofs.Ytnonkjcklgihhaa.Pam
open Go
theorem isL_st {x : List Int} {m : Int} {l : List Int} (h : isL x m l = true) : isSt x m = true ∧ l.length ≤ 8 := by
  simp only [isL, Bool.and_eq_true, decide_eq_true_eq] at h
  exact ⟨h.1.1, by omega⟩
end Go.Proofs.Ytnonkjcklgihhaa.Pam
