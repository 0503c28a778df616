/- A part of the proof that stands in this folder: a small machine whose steps are shown to be the steps of the model, or walks of functions by it. No condition of its own. -/
import Derived.Test.YtnonkjcklgihhaaGaLF
set_option linter.unusedVariables false
set_option linter.unusedSimpArgs false
namespace Go.Proofs.Ytnonkjcklgihhaa.Pam
open Go
theorem st2_len {m : Int} (l : List Int) (a : Int × Bool) : (st2 m l a).length = l.length := afterL_len _ _ _
theorem st2_small {m : Int} (l : List Int) (a : Int × Bool) (h : smallL m l) : smallL m (st2 m l a) := afterL_small _ h
end Go.Proofs.Ytnonkjcklgihhaa.Pam
