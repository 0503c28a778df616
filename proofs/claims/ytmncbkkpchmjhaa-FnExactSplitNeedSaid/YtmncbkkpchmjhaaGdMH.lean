/- A part of the proof that stands in this folder: a small machine whose steps are shown to be the steps of the model, or walks of functions by it. No condition of its own. -/
import Derived.Test.YtmncbkkpchmjhaaGdMG
set_option linter.unusedVariables false
set_option linter.unusedSimpArgs false
namespace Go.Proofs.Ytmncbkkpchmjhaa.Pam
open Go
theorem inT_len {t : List Int} (h : inT t = true) : t.length = 3 := by
  unfold inT at h; split at h
  · rfl
  · cases h
theorem inT_in8 {t : List Int} (h : inT t = true) : in8 t = true := by
  unfold inT at h; split at h
  · rename_i a b c
    simp only [Bool.and_eq_true, decide_eq_true_eq] at h
    simp only [in8, List.all_cons, List.all_nil, Bool.and_true, Bool.and_eq_true, decide_eq_true_eq]
    omega
  · cases h
def lev (nt : List Int → Nat) (k : Nat) : List (List Int) := allT.filter fun t => nt t == k
def openL (nt : List Int → Nat) (k : Nat) : List (List Int) := allT.filter fun t => decide (k < nt t)
def eL (nt : List Int → Nat) : Nat → List (List Int × Int)
  | 0 => (lev nt 0).map fun t => (t, 0)
  | k + 1 => eL nt k ++ (lev nt (k + 1)).map fun t => (t, ((k + 1 : Nat) : Int))
theorem lk_map {L : List (List Int)} {v : Int} {t : List Int} : lk t (L.map fun t => (t, v)) = if t ∈ L then some v else none := by
  induction L with
  | nil => simp [lk]
  | cons x r ih =>
    simp only [List.map_cons, lk, ih, List.mem_cons]
    by_cases h : t = x
    · simp [h]
    · simp [h]
theorem lk_eL {nt : List Int → Nat} {t : List Int} (ht : t ∈ allT) : ∀ k, lk t (eL nt k) = if nt t ≤ k then some (nt t : Int) else none
  | 0 => by
    simp only [eL, lk_map, lev, List.mem_filter, beq_iff_eq]
    by_cases h : nt t = 0
    · simp [ht, h]
    · simp [h]
  | k + 1 => by
    simp only [eL, lk_app, lk_eL ht k]
    by_cases h : nt t ≤ k
    · simp only [if_pos h]; rw [if_pos (by omega)]
    · simp only [if_neg h, lk_map, lev, List.mem_filter, beq_iff_eq]
      by_cases h2 : nt t = k + 1
      · simp [ht, h2]
      · rw [if_neg (fun e => h2 e.2), if_neg (by omega)]
theorem all3_map {L : List (List Int)} {v : Int} (h : ∀ t ∈ L, t.length = 3) : all3 (L.map fun t => (t, v)) = true := by
  simp only [all3, List.all_map, List.all_eq_true]
  intro t ht
  simp [h t ht]
theorem allT_len {t : List Int} (h : t ∈ allT) : t.length = 3 := inT_len (mem_allT.1 h)
theorem lev_len {nt : List Int → Nat} {k : Nat} : ∀ t ∈ lev nt k, t.length = 3 := fun t h => allT_len (List.mem_filter.1 h).1
theorem all3_eL (nt : List Int → Nat) : ∀ k, all3 (eL nt k) = true
  | 0 => all3_map lev_len
  | k + 1 => all3_app (all3_eL nt k) (all3_map lev_len)
theorem al3_of {L : List (List Int)} (h : ∀ t ∈ L, t ∈ allT) : al3 L = true := by
  rw [al3, List.all_eq_true]; intro t ht
  simp [allT_len (h t ht)]
/-- What a table of needs must do. -/
structure NT (both : Bool) (nt : List Int → Nat) (R : Nat) : Prop where
  zero : ∀ t ∈ allT, (nt t = 0 ↔ told t = true)
  wit : ∀ t ∈ allT, told t = false → ∀ k, ((splL t).any fun s => decide (nt (yb both t s) ≤ k) && decide (nt (noL t s) ≤ k)) = decide (nt t ≤ k + 1)
  inn : ∀ t ∈ allT, told t = false → ∀ s ∈ splL t, yb both t s ∈ allT ∧ noL t s ∈ allT
  top : ∀ t ∈ allT, nt t ≤ R
  non : ∀ k, k < R → lev nt (k + 1) ≠ []
theorem pad3_len_id {l : List Int} (h : l.length = 3) : pad3 l = l := by simp [pad3, h]
theorem chk_wit {both : Bool} {nt : List Int → Nat} {c : List Int} (h : chkN both nt c = true) (k : Nat) : ((splL c).any fun s => decide (nt (pad3 (yb both c s)) ≤ k) && decide (nt (pad3 (noL c s)) ≤ k)) = decide (nt (pad3 c) ≤ k + 1) := by
  simp only [chkN, Bool.and_eq_true, List.all_eq_true, List.any_eq_true, decide_eq_true_eq] at h
  obtain ⟨h1, s0, hs0, h2⟩ := h
  rw [Bool.eq_iff_iff, List.any_eq_true, decide_eq_true_eq]
  constructor
  · rintro ⟨s, hs, hb⟩
    simp only [Bool.and_eq_true, decide_eq_true_eq] at hb
    have := (h1 s hs).2
    omega
  · intro hk
    refine ⟨s0, hs0, ?_⟩
    simp only [Bool.and_eq_true, decide_eq_true_eq]
    omega
theorem chk_inn {both : Bool} {nt : List Int → Nat} {c : List Int} (h : chkN both nt c = true) {s : List Int} (hs : s ∈ splL c) : pad3 (yb both c s) ∈ allT ∧ pad3 (noL c s) ∈ allT := by
  simp only [chkN, Bool.and_eq_true, List.all_eq_true, List.any_eq_true, decide_eq_true_eq] at h
  have := (h.1 s hs).1
  exact ⟨mem_allT.2 this.1, mem_allT.2 this.2⟩
theorem spl_len {c s : List Int} (hs : s ∈ splL c) : s.length = c.length := spI_mem_len hs
theorem NT.of {both : Bool} {nt : List Int → Nat} {R : Nat} (h : (allT.all fun t => chkT both nt t) = true) (h2 : (allT.all fun t => decide (nt t ≤ R)) = true) (h3 : ((List.range R).all fun k => allT.any fun t => nt t == k + 1) = true) : NT both nt R := by
  have hp : ∀ t ∈ allT, pad3 t = t := fun t ht => pad3_len_id (allT_len ht)
  have hch : ∀ t ∈ allT, told t = false → chkN both nt t = true := fun t ht hn => by
    have := List.all_eq_true.1 h t ht
    simp only [chkT, hn, Bool.false_eq_true, if_false, Bool.and_eq_true] at this
    exact this.2
  have hy : ∀ t ∈ allT, ∀ s ∈ splL t, pad3 (yb both t s) = yb both t s ∧ pad3 (noL t s) = noL t s := fun t ht s hs => by
    have hl := spl_len hs
    rw [allT_len ht] at hl
    refine ⟨pad3_len_id ?_, pad3_len_id (by rw [noL_len, hl])⟩
    cases both
    · exact hl
    · simp only [yb, if_true]; rw [yesL_len, hl]
  refine ⟨fun t ht => ?_, fun t ht hn k => ?_, fun t ht hn s hs => ?_, fun t ht => by simpa using List.all_eq_true.1 h2 t ht, fun k hk => ?_⟩
  · have := List.all_eq_true.1 h t ht
    simp only [chkT, hp t ht] at this
    by_cases hn : told t = true
    · simp only [hn, if_true, beq_iff_eq] at this
      exact ⟨fun _ => hn, fun _ => this⟩
    · simp only [hn, Bool.false_eq_true, if_false, Bool.and_eq_true, decide_eq_true_eq] at this
      exact ⟨fun e => by omega, fun e => absurd e hn⟩
  · have := chk_wit (hch t ht hn) k
    rw [hp t ht] at this
    rw [← this]
    rw [Bool.eq_iff_iff, List.any_eq_true, List.any_eq_true]
    constructor
    · rintro ⟨s, hs, hb⟩
      exact ⟨s, hs, by rw [(hy t ht s hs).1, (hy t ht s hs).2]; exact hb⟩
    · rintro ⟨s, hs, hb⟩
      exact ⟨s, hs, by rw [(hy t ht s hs).1, (hy t ht s hs).2] at hb; exact hb⟩
  · have := chk_inn (hch t ht hn) hs
    rw [(hy t ht s hs).1, (hy t ht s hs).2] at this
    exact this
  · have := List.all_eq_true.1 h3 k (List.mem_range.2 hk)
    obtain ⟨t, ht, e⟩ := List.any_eq_true.1 this
    intro e2
    have : t ∈ lev nt (k + 1) := List.mem_filter.2 ⟨ht, e⟩
    rw [e2] at this; simp at this
theorem ntB : NT true (ntT tabB) 9 := NT.of chkB3 (by decide +kernel) (by decide +kernel)
theorem ntO : NT false (ntT tabO) 6 := NT.of chkO3 (by decide +kernel) (by decide +kernel)
/-- What a round finds: of those that are open, the next level. -/
theorem open_next {nt : List Int → Nat} {k : Nat} : (openL nt k).filter (fun t => decide (nt t ≤ k + 1)) = lev nt (k + 1) := by
  simp only [openL, lev, List.filter_filter]
  apply List.filter_congr
  intro t _
  rw [Bool.eq_iff_iff]
  simp only [Bool.and_eq_true, decide_eq_true_eq, beq_iff_eq]
  omega
theorem open_keep {nt : List Int → Nat} {k : Nat} : (openL nt k).filter (fun t => !decide (t ∈ lev nt (k + 1))) = openL nt (k + 1) := by
  simp only [openL, List.filter_filter]
  apply List.filter_congr
  intro t ht
  have : (t ∈ lev nt (k + 1)) ↔ nt t = k + 1 := by simp [lev, ht]
  rw [Bool.eq_iff_iff]
  simp only [Bool.and_eq_true, decide_eq_true_eq, Bool.not_eq_true', decide_eq_false_iff_not, this]
  omega
theorem kpI_filter {d : List Int} {q : List Int → Bool} : ∀ (L : List (List Int)) (j : Nat), j ≤ L.length → kpI d L (L.map q) j = (L.take j).filter fun t => !q t
  | L, 0, _ => by simp [kpI]
  | L, j + 1, h => by
    have ih := kpI_filter (d := d) (q := q) L j (by omega)
    have hb : (L.map q).getD j false = q (L.getD j d) := by rw [getD_lt (by rw [List.length_map]; omega), getD_lt (by omega)]; simp
    rw [take_one L j d (by omega), List.filter_append]
    cases hq : q (L.getD j d) with
    | true => rw [kpI_no (by rw [hb, hq]), ih]; simp only [List.filter_cons, hq, List.filter_nil, Bool.not_true, Bool.false_eq_true, if_false, List.append_nil]
    | false => rw [kpI_yes (by rw [hb, hq]), ih]; simp only [List.filter_cons, hq, List.filter_nil, Bool.not_false, if_true]
theorem openL_sub {nt : List Int → Nat} {k : Nat} : ∀ t ∈ openL nt k, t ∈ allT := fun t h => (List.mem_filter.1 h).1
theorem openL_len (nt : List Int → Nat) (k : Nat) : (openL nt k).length ≤ 165 := by
  have h1 := List.length_filter_le (fun t => decide (k < nt t)) allT
  have h2 : allT.length = 165 := by decide +kernel
  simp only [openL]; omega
theorem lev_len165 (nt : List Int → Nat) (k : Nat) : (lev nt k).length ≤ 165 := by
  have h1 := List.length_filter_le (fun t => nt t == k) allT
  have h2 : allT.length = 165 := by decide +kernel
  simp only [lev]; omega
/-- What stands behind the open ones in the array. -/
def restZ (nt : List Int → Nat) : Nat → List (List Int)
  | 0 => []
  | k + 1 => List.replicate ((openL nt k).length - (openL nt (k + 1)).length) [0, 0, 0] ++ restZ nt k
theorem openL_anti (nt : List Int → Nat) (k : Nat) : (openL nt (k + 1)).length ≤ (openL nt k).length := by
  rw [← open_keep]; exact List.length_filter_le _ _
theorem restZ_len (nt : List Int → Nat) : ∀ k, (openL nt k).length + (restZ nt k).length = (openL nt 0).length
  | 0 => by simp [restZ]
  | k + 1 => by
    have := restZ_len nt k
    have h2 := openL_anti nt k
    simp only [restZ, List.length_append, List.length_replicate]
    omega
theorem restZ_al3 (nt : List Int → Nat) : ∀ k, al3 (restZ nt k) = true
  | 0 => rfl
  | k + 1 => al3_app (by rw [al3, List.all_eq_true]; intro x hx; rw [(List.mem_replicate.1 hx).2]; rfl) (restZ_al3 nt k)
theorem open_ne {both : Bool} {nt : List Int → Nat} {R k : Nat} (N : NT both nt R) (hk : k < R) : 0 < (openL nt k).length := by
  have h := N.non k hk
  rcases hl : lev nt (k + 1) with _ | ⟨t, r⟩
  · exact absurd hl h
  · have : t ∈ lev nt (k + 1) := by rw [hl]; simp
    simp only [lev, List.mem_filter, beq_iff_eq] at this
    exact List.length_pos_of_mem (List.mem_filter.2 ⟨this.1, by simp; omega⟩)
theorem open_end {both : Bool} {nt : List Int → Nat} {R : Nat} (N : NT both nt R) : openL nt R = [] := by
  rw [openL, List.filter_eq_nil_iff]
  intro t ht
  have := N.top t ht
  simp; omega
theorem open_told {both : Bool} {nt : List Int → Nat} {R k : Nat} (N : NT both nt R) {t : List Int} (h : t ∈ openL nt k) : told t = false := by
  simp only [openL, List.mem_filter, decide_eq_true_eq] at h
  have := N.zero t h.1
  cases ht : told t with
  | false => rfl
  | true => have := this.2 ht; omega
theorem told_eq {both : Bool} {nt : List Int → Nat} {R : Nat} (N : NT both nt R) : allT.filter told = lev nt 0 := by
  simp only [lev]
  apply List.filter_congr
  intro t ht
  have := N.zero t ht
  rw [Bool.eq_iff_iff]
  simp [this]
theorem untold_eq {both : Bool} {nt : List Int → Nat} {R : Nat} (N : NT both nt R) : allT.filter (fun t => !told t) = openL nt 0 := by
  simp only [openL]
  apply List.filter_congr
  intro t ht
  have := N.zero t ht
  rw [Bool.eq_iff_iff]
  simp only [Bool.not_eq_true', decide_eq_true_eq]
  rw [Bool.eq_false_iff, ne_eq, ← this]; omega
end Go.Proofs.Ytmncbkkpchmjhaa.Pam
