/- A part of the proof that stands in this folder: a small machine whose steps are shown to be the steps of the model, or walks of functions by it. No condition of its own. -/
import Derived.Test.YtnonkjcklgihhaaGaLE
set_option linter.unusedVariables false
set_option linter.unusedSimpArgs false
namespace Go.Proofs.Ytnonkjcklgihhaa.Pam
open Go
/-- The lies behind answers, one after the other. -/
def allL (st : List Int → Int × Bool → List Int) (l : List Int) (as : List (Int × Bool)) : List Int := as.foldl st l
def st2 (m : Int) (l : List Int) (a : Int × Bool) : List Int := afterL (fun i => (bitW a.1 i == 1) != a.2) m l
/-- Lies that are small enough to be counted on. -/
def smallL (m : Int) (l : List Int) : Prop := ∀ x ∈ l, x ≤ m ∨ x ≤ 0
theorem afterL_small (f : Nat → Bool) {m : Int} {l : List Int} (h : smallL m l) : smallL m (afterL f m l) := by
  intro x hx
  simp only [afterL, List.mem_map, List.mem_range] at hx
  obtain ⟨i, hi, rfl⟩ := hx
  have := h (l.getD i 0) (by rw [getD_lt hi]; exact List.getElem_mem hi)
  simp only [afterF]
  split
  · split <;> omega
  · exact this
theorem small_1000 {m : Int} {l : List Int} (h : smallL m l) (hm : m ≤ 1000) : (l.all fun x => decide (x ≤ 1000)) = true := by
  rw [List.all_eq_true]; intro x hx
  have := h x hx
  simp; omega
theorem allL_one (st : List Int → Int × Bool → List Int) (l : List Int) (as : List (Int × Bool)) (i : Nat) (h : i < as.length) : allL st l (as.take (i + 1)) = st (allL st l (as.take i)) (as.getD i (0, false)) := foldl_one st l as i (0, false) h
theorem allL_ok {st : List Int → Int × Bool → List Int} {m : Int} (h1 : ∀ l a, (st l a).length = l.length) (h2 : ∀ l a, smallL m l → smallL m (st l a)) {l : List Int} (hl : smallL m l) (as : List (Int × Bool)) : (allL st l as).length = l.length ∧ smallL m (allL st l as) := by
  unfold allL
  induction as generalizing l with
  | nil => exact ⟨rfl, hl⟩
  | cons a r ih =>
    obtain ⟨g1, g2⟩ := ih (h2 l a hl)
    exact ⟨by rw [List.foldl_cons, g1, h1], by rw [List.foldl_cons]; exact g2⟩

end Go.Proofs.Ytnonkjcklgihhaa.Pam
