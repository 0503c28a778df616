/- A part of the proof that stands in this folder: a small machine whose steps are shown to be the steps of the model, or walks of functions by it. No condition of its own. -/
import Derived.Test.YtmbljmolegalhaaGcLA
set_option linter.unusedVariables false
set_option linter.unusedSimpArgs false
namespace Go.Proofs.Ytmbljmolegalhaa.Pam
open Go
theorem eq_upto {α : Type} {l m : List α} (d : α) (h : l.length = m.length) {i : Nat} (hi : i ≤ l.length) (hp : ∀ j, j < i → l.getD j d = m.getD j d) (he : i = l.length) : l = m := by
  apply List.ext_getElem h
  intro j h1 h2
  have := hp j (by omega)
  rwa [getD_lt h1, getD_lt h2] at this
end Go.Proofs.Ytmbljmolegalhaa.Pam
