/- A part of the proof that stands in this folder: a small machine whose steps are shown to be the steps of the model, or walks of functions by it. No condition of its own. -/
import Derived.Test.YtmncbkkpchmjhaaGdMF
set_option linter.unusedVariables false
set_option linter.unusedSimpArgs false
namespace Go.Proofs.Ytmncbkkpchmjhaa.Pam
open Go
def tabB : List (List (List Nat)) := [[[0, 0, 1, 2, 2, 3, 3, 3, 3], [0, 2, 3, 3, 3, 4, 4, 4], [3, 4, 4, 4, 4, 4, 4], [5, 5, 5, 5, 5, 5], [5, 5, 5, 5, 5], [6, 6, 6, 6], [6, 6, 6], [6, 6], [6]], [[0, 3, 4, 4, 4, 4, 5, 5], [4, 5, 5, 5, 5, 5, 5], [6, 6, 6, 6, 6, 6], [6, 6, 6, 6, 6], [6, 6, 6, 6], [7, 7, 7], [7, 7], [7]], [[5, 6, 6, 6, 6, 6, 6], [7, 7, 7, 7, 7, 7], [7, 7, 7, 7, 7], [7, 7, 7, 7], [7, 7, 7], [7, 7], [7]], [[8, 8, 8, 8, 8, 8], [8, 8, 8, 8, 8], [8, 8, 8, 8], [8, 8, 8], [8, 8], [8]], [[8, 8, 8, 8, 8], [8, 8, 8, 8], [8, 8, 8], [8, 8], [8]], [[9, 9, 9, 9], [9, 9, 9], [9, 9], [9]], [[9, 9, 9], [9, 9], [9]], [[9, 9], [9]], [[9]]]
def tabO : List (List (List Nat)) := [[[0, 0, 1, 2, 2, 3, 3, 3, 3], [0, 1, 2, 2, 3, 3, 3, 3], [2, 2, 3, 3, 3, 3, 4], [3, 3, 3, 3, 4, 4], [4, 4, 4, 4, 4], [4, 4, 4, 4], [4, 4, 4], [5, 5], [5]], [[0, 1, 2, 2, 3, 3, 3, 3], [2, 2, 3, 3, 3, 3, 4], [3, 3, 3, 3, 4, 4], [4, 4, 4, 4, 4], [4, 4, 4, 4], [4, 4, 4], [5, 5], [5]], [[3, 3, 3, 3, 3, 4, 4], [3, 3, 4, 4, 4, 4], [4, 4, 4, 4, 4], [4, 4, 4, 4], [5, 5, 5], [5, 5], [5]], [[4, 4, 4, 4, 4, 4], [4, 4, 4, 4, 4], [5, 5, 5, 5], [5, 5, 5], [5, 5], [5]], [[5, 5, 5, 5, 5], [5, 5, 5, 5], [5, 5, 5], [5, 5], [5]], [[5, 5, 5, 5], [5, 5, 5], [6, 6], [6]], [[6, 6, 6], [6, 6], [6]], [[6, 6], [6]], [[6]]]
/-- The need of a triple, by a table. -/
def ntT (tab : List (List (List Nat))) : List Int → Nat
  | [a, b, c] => ((tab.getD a.toNat []).getD b.toNat []).getD c.toNat 0
  | _ => 0
def rwC (a b k : Nat) : List (List Int) := (List.range k).map fun c : Nat => [(a : Int), (b : Int), (c : Int)]
def rwB (a k : Nat) : List (List Int) := (List.range k).flatMap fun b => rwC a b (9 - a - b)
def rwA (k : Nat) : List (List Int) := (List.range k).flatMap fun a => rwB a (9 - a)
/-- All triples of counts. -/
def allT : List (List Int) := rwA 9
/-- Whether a list of three is one of them. -/
def inT : List Int → Bool
  | [a, b, c] => decide (0 ≤ a) && decide (0 ≤ b) && decide (0 ≤ c) && decide (a + b + c ≤ 8)
  | _ => false
theorem mem_rwC {a b k : Nat} {t : List Int} : t ∈ rwC a b k ↔ ∃ c : Nat, c < k ∧ t = [(a : Int), (b : Int), (c : Int)] := by
  simp only [rwC, List.mem_map, List.mem_range]
  exact ⟨fun ⟨c, h, e⟩ => ⟨c, h, e.symm⟩, fun ⟨c, h, e⟩ => ⟨c, h, e.symm⟩⟩
theorem mem_rwB {a k : Nat} {t : List Int} : t ∈ rwB a k ↔ ∃ b c : Nat, b < k ∧ c < 9 - a - b ∧ t = [(a : Int), (b : Int), (c : Int)] := by
  simp only [rwB, List.mem_flatMap, List.mem_range, mem_rwC]
  exact ⟨fun ⟨b, h, c, h2, e⟩ => ⟨b, c, h, h2, e⟩, fun ⟨b, c, h, h2, e⟩ => ⟨b, h, c, h2, e⟩⟩
theorem mem_rwA {k : Nat} {t : List Int} : t ∈ rwA k ↔ ∃ a b c : Nat, a < k ∧ b < 9 - a ∧ c < 9 - a - b ∧ t = [(a : Int), (b : Int), (c : Int)] := by
  simp only [rwA, List.mem_flatMap, List.mem_range, mem_rwB]
  exact ⟨fun ⟨a, h, b, c, h2, h3, e⟩ => ⟨a, b, c, h, h2, h3, e⟩, fun ⟨a, b, c, h, h2, h3, e⟩ => ⟨a, h, b, c, h2, h3, e⟩⟩
theorem mem_allT {t : List Int} : t ∈ allT ↔ inT t = true := by
  rw [allT, mem_rwA]
  constructor
  · rintro ⟨a, b, c, h1, h2, h3, rfl⟩
    simp only [inT, Bool.and_eq_true, decide_eq_true_eq]
    omega
  · intro h
    unfold inT at h
    split at h
    · rename_i a b c
      simp only [Bool.and_eq_true, decide_eq_true_eq] at h
      exact ⟨a.toNat, b.toNat, c.toNat, by omega, by omega, by omega, by congr 1; omega; congr 1; omega; congr 1; omega⟩
    · cases h
theorem allT_nodup : allT.Nodup := by decide +kernel
/-- The counts to which yes leads. -/
def yb (both : Bool) (c s : List Int) : List Int := if both = true then yesL c s else s
def told (t : List Int) : Bool := decide (t.sum ≤ 1)
/-- Whether a table tells the needs. -/
def chkN (both : Bool) (nt : List Int → Nat) (t : List Int) : Bool :=
  ((splL t).all fun s => inT (pad3 (yb both t s)) && inT (pad3 (noL t s)) && decide (nt (pad3 t) ≤ max (nt (pad3 (yb both t s))) (nt (pad3 (noL t s))) + 1)) &&
    ((splL t).any fun s => decide (max (nt (pad3 (yb both t s))) (nt (pad3 (noL t s))) + 1 ≤ nt (pad3 t)))
def chkT (both : Bool) (nt : List Int → Nat) (t : List Int) : Bool := if told t = true then nt (pad3 t) == 0 else decide (1 ≤ nt (pad3 t)) && chkN both nt t
theorem chkB3 : (allT.all fun t => chkT true (ntT tabB) t) = true := by decide +kernel
theorem chkO3 : (allT.all fun t => chkT false (ntT tabO) t) = true := by decide +kernel
end Go.Proofs.Ytmncbkkpchmjhaa.Pam
