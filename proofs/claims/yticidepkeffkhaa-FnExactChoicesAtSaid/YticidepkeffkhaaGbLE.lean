/- A part of the proof that stands in this folder: a small machine whose steps are shown to be the steps of the model, or walks of functions by it. No condition of its own. -/
import Derived.Test.YticidepkeffkhaaGbLD
set_option linter.unusedVariables false
set_option linter.unusedSimpArgs false
namespace Go.Proofs.Yticidepkeffkhaa.Pam
open Go
theorem slI_lenP {v : PV} {l : List Int} (h : slI v = some l) : lenP v = some l.length := by
  rcases slI_out h with rfl | ⟨rfl, rfl⟩ <;> simp [lenP, ints_len]
end Go.Proofs.Yticidepkeffkhaa.Pam
