/- A part of the proof that stands in this folder: a small machine whose steps are shown to be the steps of the model, or walks of functions by it. No condition of its own. -/
import Derived.Test.YtmbljmolegalhaaGeLV
set_option linter.unusedVariables false
set_option linter.unusedSimpArgs false
namespace Go.Proofs.Ytmbljmolegalhaa.Pam
open Go
theorem pcN_le2 : ∀ f x k, x < 2 ^ k → pcN f x ≤ k
  | 0, _, _, _ => by simp [pcN]
  | f + 1, x, 0, h => by
    have : x = 0 := by simp at h; omega
    rw [this, pcN_zero]; omega
  | f + 1, x, k + 1, h => by
    have h2 : x / 2 < 2 ^ k := by rw [Nat.pow_succ] at h; omega
    have := pcN_le2 f (x / 2) k h2
    have := Nat.mod_lt x (y := 2) (by omega)
    simp only [pcN]; omega
theorem wdL_get (l : List Int) {n i : Nat} (h : i < n) : (wdL l n).getD i 0 = (wdN l i l.length : Int) := by
  rw [getD_lt (by rw [wdL_len]; exact h)]; simp [wdL]
/-- Whether a scheme's chances are asked. -/
def okS (n : Int) (l : List Int) (s o : Int) : Bool := isSm n l && decide ((l.length : Int) ≤ 12) && isD s o
theorem okS_out {n : Int} {l : List Int} {s o : Int} (h : okS n l s o = true) : 1 ≤ n ∧ n ≤ 12 ∧ l.length ≤ 12 ∧ isD s o = true := by
  simp only [okS, isSm, Bool.and_eq_true, decide_eq_true_eq] at h
  exact ⟨h.1.1.1.1.1, h.1.1.1.1.2, by omega, h.2⟩
end Go.Proofs.Ytmbljmolegalhaa.Pam
