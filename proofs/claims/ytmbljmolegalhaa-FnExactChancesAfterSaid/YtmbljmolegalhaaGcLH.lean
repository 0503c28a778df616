/- A part of the proof that stands in this folder: a small machine whose steps are shown to be the steps of the model, or walks of functions by it. No condition of its own. -/
import Derived.Test.YtmbljmolegalhaaGcLG
set_option linter.unusedVariables false
set_option linter.unusedSimpArgs false
namespace Go.Proofs.Ytmbljmolegalhaa.Pam
open Go
theorem slA_lenP {v : PV} {l : List (Int × Bool)} (h : slA v = some l) : lenP v = some l.length := by
  rcases slA_out h with rfl | ⟨rfl, rfl⟩ <;> simp [lenP, asks_len]
theorem marksA_len (k : Int) (n : Nat) : (marksA k n).length = n := by simp [marksA]
end Go.Proofs.Ytmbljmolegalhaa.Pam
