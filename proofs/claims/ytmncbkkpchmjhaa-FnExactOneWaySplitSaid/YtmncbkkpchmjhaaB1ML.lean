/- A part of the proof that stands in this folder: a small machine whose steps are shown to be the steps of the model, or walks of functions by it. No condition of its own. -/
import Derived.Test.YtmncbkkpchmjhaaB1MK
set_option linter.unusedVariables false
set_option linter.unusedSimpArgs false
namespace Go.Proofs.Ytmncbkkpchmjhaa.Pam
open Go
theorem dg_key {c : List Int} {p : Nat} (hl : c.length = p) (hp : p ≤ 3) (h8 : in8 c = true) : dg (keyN c) p = c := by
  have q := in8_get h8
  match c, hl, hp with
  | [], hl, _ => subst hl; rfl
  | [a], hl, _ =>
    subst hl
    have h0 := q 0
    simp only [List.getD_cons_zero] at h0
    simp only [keyN, keyL, keyI, List.length_cons, List.length_nil, dg, List.getD_cons_zero]
    congr 1; omega
  | [a, b], hl, _ =>
    subst hl
    have h0 := q 0
    have h1 := q 1
    simp only [List.getD_cons_zero, List.getD_cons_succ] at h0 h1
    simp only [keyN, keyL, keyI, List.length_cons, List.length_nil, dg, List.getD_cons_zero, List.getD_cons_succ]
    congr 1
    · omega
    · congr 1; omega
  | [a, b, d], hl, _ =>
    subst hl
    have h0 := q 0
    have h1 := q 1
    have h2 := q 2
    simp only [List.getD_cons_zero, List.getD_cons_succ] at h0 h1 h2
    simp only [keyN, keyL, keyI, List.length_cons, List.length_nil, dg, List.getD_cons_zero, List.getD_cons_succ]
    congr 1
    · omega
    · congr 1
      · omega
      · congr 1; omega
def valK (nt : List Int → Nat) (p k key : Nat) : Int := if (dg key p).sum ≤ 8 ∧ nt (pad3 (dg key p)) ≤ k then (nt (pad3 (dg key p)) : Int) else -1
def tabK (nt : List Int → Nat) (p k : Nat) : List Int := (List.range (9 ^ p)).map (valK nt p k)
theorem tabK_len (nt : List Int → Nat) (p k : Nat) : (tabK nt p k).length = 9 ^ p := by simp [tabK]
theorem tabK_get {nt : List Int → Nat} {p k key : Nat} (h : key < 9 ^ p) : (tabK nt p k).getD key 0 = valK nt p k key := by
  rw [getD_lt (by rw [tabK_len]; exact h)]; simp [tabK]
def lfK (nt : List Int → Nat) (p k : Nat) : List Nat := (List.range (9 ^ p)).filter fun key => decide ((dg key p).sum ≤ 8) && decide (k < nt (pad3 (dg key p)))
theorem tabK_at {nt : List Int → Nat} {p k : Nat} {c : List Int} (hl : c.length = p) (hp : p ≤ 3) (h8 : in8 c = true) (hs : c.sum ≤ 8) : (tabK nt p k).getD (keyN c) 0 = if nt (pad3 c) ≤ k then (nt (pad3 c) : Int) else -1 := by
  rw [tabK_get (keyN_bd hl h8).2, valK, dg_key hl hp h8]
  by_cases h : nt (pad3 c) ≤ k
  · simp [hs, h]
  · simp [h]
/-- The check, for all counts of so many places. -/
def okPl (both : Bool) (nt : List Int → Nat) (p : Nat) : Prop := ∀ key, key < 9 ^ p → (dg key p).sum ≤ 8 → chkT both nt (dg key p) = true
theorem pad_sum {c : List Int} (hl : c.length ≤ 3) (h : inT (pad3 c) = true) : in8 c = true ∧ c.sum ≤ 8 := by
  match c, hl with
  | [], _ => exact ⟨rfl, by simp⟩
  | [a], _ =>
    simp [pad3, inT] at h
    refine ⟨by simp [in8]; omega, by simp; omega⟩
  | [a, b], _ =>
    simp [pad3, inT] at h
    refine ⟨by simp [in8]; omega, by simp; omega⟩
  | [a, b, d], _ =>
    simp [pad3, inT] at h
    refine ⟨by simp [in8]; omega, by simp; omega⟩
theorem okP_3 {both : Bool} {nt : List Int → Nat} (h : (allT.all fun t => chkT both nt t) = true) : okPl both nt 3 := by
  intro key hk hs
  have h8 := dg_in8 key 3
  refine List.all_eq_true.1 h _ (mem_allT.2 ?_)
  have q := in8_get h8
  simp only [dg, in8, List.all_cons, List.all_nil, Bool.and_true, Bool.and_eq_true, decide_eq_true_eq] at h8
  simp only [dg, List.sum_cons, List.sum_nil] at hs
  simp only [dg, inT, Bool.and_eq_true, decide_eq_true_eq]
  omega
theorem okP_of {both : Bool} {nt : List Int → Nat} {p : Nat} (h : ((List.range (9 ^ p)).all fun key => decide (8 < (dg key p).sum) || chkT both nt (dg key p)) = true) : okPl both nt p := by
  intro key hk hs
  have := List.all_eq_true.1 h key (List.mem_range.2 hk)
  simp only [Bool.or_eq_true, decide_eq_true_eq] at this
  rcases this with g | g
  · omega
  · exact g
theorem okP_B {p : Nat} (h1 : 1 ≤ p) (h3 : p ≤ 3) : okPl true (ntT tabB) p := by
  match p, h1, h3 with
  | 1, _, _ => exact okP_of (by decide +kernel)
  | 2, _, _ => exact okP_of (by decide +kernel)
  | 3, _, _ => exact okP_3 chkB3
theorem okP_O {p : Nat} (h1 : 1 ≤ p) (h3 : p ≤ 3) : okPl false (ntT tabO) p := by
  match p, h1, h3 with
  | 1, _, _ => exact okP_of (by decide +kernel)
  | 2, _, _ => exact okP_of (by decide +kernel)
  | 3, _, _ => exact okP_3 chkO3
/-- Counts that stand open. -/
theorem open_okw {p : Nat} (h1 : 1 ≤ p) (h3 : p ≤ 3) {key : Nat} (hk : key < 9 ^ p) (hs : (dg key p).sum ≤ 8) (hu : told (dg key p) = false) : isOKw (dg key p) = true := by
  have h := okP_B h1 h3 key hk hs
  simp only [chkT, hu, Bool.false_eq_true, if_false, Bool.and_eq_true] at h
  have hlen := dg_len key p
  simp only [isOKw, hlen, dec_t h1, dec_t h3, dg_in8, Bool.true_and, List.all_eq_true, Bool.and_eq_true]
  intro s hsm
  have h2 := chk_inn h.2 hsm
  have hsl := spl_len hsm
  rw [hlen] at hsl
  have e1 := pad_sum (c := yb true (dg key p) s) (by simp only [yb, if_true]; rw [yesL_len]; omega) (mem_allT.1 h2.1)
  have e2 := pad_sum (c := noL (dg key p) s) (by rw [noL_len]; omega) (mem_allT.1 h2.2)
  exact ⟨e1.1, e2.1⟩
theorem zero_told {both : Bool} {nt : List Int → Nat} {p : Nat} (h : okPl both nt p) {key : Nat} (hk : key < 9 ^ p) (hs : (dg key p).sum ≤ 8) : nt (pad3 (dg key p)) = 0 ↔ told (dg key p) = true := by
  have := h key hk hs
  simp only [chkT] at this
  by_cases ht : told (dg key p) = true
  · simp only [ht, if_true, beq_iff_eq] at this
    exact ⟨fun _ => ht, fun _ => this⟩
  · simp only [ht, Bool.false_eq_true, if_false, Bool.and_eq_true, decide_eq_true_eq] at this
    exact ⟨fun e => by omega, fun e => absurd e ht⟩
theorem chk_of {both : Bool} {nt : List Int → Nat} {p : Nat} (h : okPl both nt p) {key : Nat} (hk : key < 9 ^ p) (hs : (dg key p).sum ≤ 8) (hu : told (dg key p) = false) : chkN both nt (dg key p) = true := by
  have := h key hk hs
  simp only [chkT, hu, Bool.false_eq_true, if_false, Bool.and_eq_true] at this
  exact this.2
/-- What the reference finds of counts that stand open: by both rules. -/
theorem wi_any {p k : Nat} {nt : List Int → Nat} (hok : okPl true nt p) (h3 : p ≤ 3) {key : Nat} (hk : key < 9 ^ p) (hs : (dg key p).sum ≤ 8) (hu : told (dg key p) = false) : ((splL (dg key p)).any (wiQ (tabK nt p k) (dg key p))) = decide (nt (pad3 (dg key p)) ≤ k + 1) := by
  have hch := chk_of hok hk hs hu
  have hlen := dg_len key p
  rw [← chk_wit hch k, Bool.eq_iff_iff, List.any_eq_true, List.any_eq_true]
  have key2 : ∀ s ∈ splL (dg key p), wiQ (tabK nt p k) (dg key p) s = (decide (nt (pad3 (yb true (dg key p) s)) ≤ k) && decide (nt (pad3 (noL (dg key p) s)) ≤ k)) := fun s hsm => by
    have h2 := chk_inn hch hsm
    have hsl := spl_len hsm
    rw [hlen] at hsl
    have hy : (yesL (dg key p) s).length = p := by rw [yesL_len, hsl]
    have hn : (noL (dg key p) s).length = p := by rw [noL_len, hsl]
    have e1 := pad_sum (c := yesL (dg key p) s) (by omega) (mem_allT.1 h2.1)
    have e2 := pad_sum (c := noL (dg key p) s) (by omega) (mem_allT.1 h2.2)
    simp only [wiQ, tabK_at hy h3 e1.1 e1.2, tabK_at hn h3 e2.1 e2.2, yb, if_true]
    congr 1
    · by_cases g : nt (pad3 (yesL (dg key p) s)) ≤ k
      · rw [if_pos g, dec_t g, dec_t (by omega)]
      · rw [if_neg g, dec_f g, dec_f (by omega)]
    · by_cases g : nt (pad3 (noL (dg key p) s)) ≤ k
      · rw [if_pos g, dec_t g, dec_t (by omega)]
      · rw [if_neg g, dec_f g, dec_f (by omega)]
  constructor
  · rintro ⟨s, hsm, hb⟩; exact ⟨s, hsm, by rw [← key2 s hsm]; exact hb⟩
  · rintro ⟨s, hsm, hb⟩; exact ⟨s, hsm, by rw [key2 s hsm]; exact hb⟩
theorem bo_any {p k : Nat} {nt : List Int → Nat} (hok : okPl false nt p) (h3 : p ≤ 3) {key : Nat} (hk : key < 9 ^ p) (hs : (dg key p).sum ≤ 8) (hu : told (dg key p) = false) : (bsF (tabK nt p k) ((k + 1 : Nat) : Int) (dg key p)).isSome = decide (nt (pad3 (dg key p)) ≤ k + 1) := by
  have hch := chk_of hok hk hs hu
  have hlen := dg_len key p
  rw [bsF, ← chk_wit hch k, Bool.eq_iff_iff, List.find?_isSome, List.any_eq_true]
  have key2 : ∀ s ∈ splL (dg key p), boQ (tabK nt p k) ((k + 1 : Nat) : Int) (dg key p) s = (decide (nt (pad3 (yb false (dg key p) s)) ≤ k) && decide (nt (pad3 (noL (dg key p) s)) ≤ k)) := fun s hsm => by
    have h2 := chk_inn hch hsm
    have hsl := spl_len hsm
    rw [hlen] at hsl
    have hs8 := spl_in8 (dg_in8 key p) hsm
    have hn : (noL (dg key p) s).length = p := by rw [noL_len, hsl]
    have e1 := pad_sum (c := s) (by omega) (mem_allT.1 h2.1)
    have e2 := pad_sum (c := noL (dg key p) s) (by omega) (mem_allT.1 h2.2)
    have hyb : yb false (dg key p) s = s := rfl
    simp only [boQ, tabK_at hsl h3 e1.1 e1.2, tabK_at hn h3 e2.1 e2.2, hyb]
    by_cases g : nt (pad3 s) ≤ k
    · by_cases g2 : nt (pad3 (noL (dg key p) s)) ≤ k
      · simp only [if_pos g, if_pos g2, dec_t g, dec_t g2]
        rw [dec_t (by omega), dec_t (by omega), dec_t (by omega), dec_t (by omega)]; rfl
      · simp only [if_pos g, if_neg g2, dec_t g, dec_f g2]
        rw [dec_f (show ¬ (0 : Int) ≤ -1 by omega)]; simp
    · simp only [if_neg g, dec_f g]
      rw [dec_f (show ¬ (0 : Int) ≤ -1 by omega)]; simp
  constructor
  · rintro ⟨s, hsm, hb⟩; exact ⟨s, hsm, by rw [← key2 s hsm]; exact hb⟩
  · rintro ⟨s, hsm, hb⟩; exact ⟨s, hsm, by rw [key2 s hsm]; exact hb⟩
def nz (L : List Nat) : List Int := L.map fun n : Nat => (n : Int)
theorem nz_len (L : List Nat) : (nz L).length = L.length := by simp [nz]
theorem nz_get {L : List Nat} {i : Nat} (h : i < L.length) : (ints (nz L))[i]? = some (.int .i64 ((L.getD i 0 : Nat) : Int)) := by
  rw [ints_get (by rw [nz_len]; exact h)]
  rw [getD_lt (by rw [nz_len]; exact h), getD_lt h]; simp [nz]
theorem nz_app (L : List Nat) (n : Nat) : nz L ++ [(n : Int)] = nz (L ++ [n]) := by simp [nz]
theorem lf_next {nt : List Int → Nat} {p k : Nat} : (lfK nt p k).filter (fun key => !decide (nt (pad3 (dg key p)) ≤ k + 1)) = lfK nt p (k + 1) := by
  simp only [lfK, List.filter_filter]
  apply List.filter_congr
  intro key _
  rw [Bool.eq_iff_iff]
  simp only [Bool.and_eq_true, Bool.not_eq_true', decide_eq_true_eq, decide_eq_false_iff_not]
  omega
theorem lf_len (nt : List Int → Nat) (p k : Nat) : (lfK nt p k).length ≤ 9 ^ p := by
  have := List.length_filter_le (fun key => decide ((dg key p).sum ≤ 8) && decide (k < nt (pad3 (dg key p)))) (List.range (9 ^ p))
  rw [List.length_range] at this
  exact this
theorem lf_mem {nt : List Int → Nat} {p k key : Nat} (h : key ∈ lfK nt p k) : key < 9 ^ p ∧ (dg key p).sum ≤ 8 ∧ k < nt (pad3 (dg key p)) := by
  simp only [lfK, List.mem_filter, List.mem_range, Bool.and_eq_true, decide_eq_true_eq] at h
  exact ⟨h.1, h.2.1, h.2.2⟩
theorem range_set {n q : Nat} {f : Nat → Int} {v : Int} : ((List.range n).map f).set q v = (List.range n).map fun x => if x = q then v else f x := by
  apply List.ext_getElem
  · simp
  · intro i h1 h2
    simp only [List.getElem_set, List.getElem_map, List.getElem_range]
    by_cases h : q = i
    · simp [h]
    · rw [if_neg h, if_neg fun e => h e.symm]
/-- The table while a round's finds are set. -/
def stB (nt : List Int → Nat) (p k : Nat) (L : List Nat) : List Int := (List.range (9 ^ p)).map fun key => if key ∈ L then ((k + 1 : Nat) : Int) else valK nt p k key
theorem stB_0 (nt : List Int → Nat) (p k : Nat) : stB nt p k [] = tabK nt p k := by simp [stB, tabK]
theorem stB_len (nt : List Int → Nat) (p k : Nat) (L : List Nat) : (stB nt p k L).length = 9 ^ p := by simp [stB]
theorem stB_one (nt : List Int → Nat) (p k : Nat) (L : List Nat) (q : Nat) : (stB nt p k L).set q ((k + 1 : Nat) : Int) = stB nt p k (L ++ [q]) := by
  rw [stB, range_set, stB]
  apply List.map_congr_left
  intro x _
  by_cases h : x = q
  · simp [h]
  · simp [h]
theorem stB_end {nt : List Int → Nat} {p k : Nat} : stB nt p k ((lfK nt p k).filter fun key => decide (nt (pad3 (dg key p)) ≤ k + 1)) = tabK nt p (k + 1) := by
  rw [stB, tabK]
  apply List.map_congr_left
  intro key hk
  have hk2 := List.mem_range.1 hk
  by_cases hs : (dg key p).sum ≤ 8
  · by_cases h1 : nt (pad3 (dg key p)) ≤ k
    · have hn : key ∉ (lfK nt p k).filter fun key => decide (nt (pad3 (dg key p)) ≤ k + 1) := fun h => by
        have := lf_mem (List.mem_filter.1 h).1; omega
      rw [if_neg hn, valK, valK, if_pos ⟨hs, h1⟩, if_pos ⟨hs, by omega⟩]
    · by_cases h2 : nt (pad3 (dg key p)) ≤ k + 1
      · have hy : key ∈ (lfK nt p k).filter fun key => decide (nt (pad3 (dg key p)) ≤ k + 1) := by
          refine List.mem_filter.2 ⟨List.mem_filter.2 ⟨hk, ?_⟩, dec_t h2⟩
          rw [dec_t hs, dec_t (show k < nt (pad3 (dg key p)) by omega)]; rfl
        rw [if_pos hy, valK, if_pos ⟨hs, h2⟩]; omega
      · have hn : key ∉ (lfK nt p k).filter fun key => decide (nt (pad3 (dg key p)) ≤ k + 1) := fun h => by
          have := (List.mem_filter.1 h).2; simp at this; omega
        rw [if_neg hn, valK, valK, if_neg fun e => h1 e.2, if_neg fun e => h2 e.2]
  · have hn : key ∉ (lfK nt p k).filter fun key => decide (nt (pad3 (dg key p)) ≤ k + 1) := fun h => by
      have := lf_mem (List.mem_filter.1 h).1; omega
    rw [if_neg hn, valK, valK, if_neg fun e => hs e.1, if_neg fun e => hs e.1]
/-- The table while the first pass goes over the numbers. -/
def stA (nt : List Int → Nat) (p i : Nat) : List Int := (List.range (9 ^ p)).map fun key => if key < i then valK nt p 0 key else 0
theorem stA_len (nt : List Int → Nat) (p i : Nat) : (stA nt p i).length = 9 ^ p := by simp [stA]
theorem stA_0 (nt : List Int → Nat) (p : Nat) : List.replicate (9 ^ p) (0 : Int) = stA nt p 0 := by
  apply List.ext_getElem
  · simp [stA]
  · intro i h1 h2; simp [stA]
theorem stA_end (nt : List Int → Nat) (p : Nat) : stA nt p (9 ^ p) = tabK nt p 0 := by
  rw [stA, tabK]
  apply List.map_congr_left
  intro key hk
  rw [if_pos (List.mem_range.1 hk)]
theorem stA_one {nt : List Int → Nat} {p i : Nat} : (stA nt p i).set i (valK nt p 0 i) = stA nt p (i + 1) := by
  rw [stA, range_set, stA]
  apply List.map_congr_left
  intro x _
  by_cases h : x = i
  · rw [if_pos h, if_pos (by omega), h]
  · rw [if_neg h]
    by_cases h2 : x < i
    · rw [if_pos h2, if_pos (by omega)]
    · rw [if_neg h2, if_neg (by omega)]
theorem val0_told {both : Bool} {nt : List Int → Nat} {p key : Nat} (h : okPl both nt p) (hk : key < 9 ^ p) (ht : told (dg key p) = true) : valK nt p 0 key = 0 := by
  have hs : (dg key p).sum ≤ 8 := by have := ht; simp only [told, decide_eq_true_eq] at this; omega
  have h0 := (zero_told h hk hs).2 ht
  rw [valK, if_pos ⟨hs, by omega⟩, h0]; rfl
theorem val0_not {both : Bool} {nt : List Int → Nat} {p key : Nat} (h : okPl both nt p) (hk : key < 9 ^ p) (ht : told (dg key p) = false) : valK nt p 0 key = -1 := by
  rw [valK, if_neg]
  rintro ⟨hs, h0⟩
  have := (zero_told h hk hs).1 (by omega)
  rw [ht] at this; cases this
def lfA (nt : List Int → Nat) (p i : Nat) : List Nat := (List.range i).filter fun key => decide ((dg key p).sum ≤ 8) && decide (0 < nt (pad3 (dg key p)))
theorem lfA_end (nt : List Int → Nat) (p : Nat) : lfA nt p (9 ^ p) = lfK nt p 0 := rfl
theorem lfA_yes {nt : List Int → Nat} {p i : Nat} (h1 : (dg i p).sum ≤ 8) (h2 : 0 < nt (pad3 (dg i p))) : lfA nt p i ++ [i] = lfA nt p (i + 1) := by
  simp only [lfA, List.range_succ, List.filter_append, List.filter_cons, dec_t h1, dec_t h2, Bool.and_self, List.filter_nil, if_true]
theorem lfA_no {nt : List Int → Nat} {p i : Nat} (h : ¬ ((dg i p).sum ≤ 8 ∧ 0 < nt (pad3 (dg i p)))) : lfA nt p (i + 1) = lfA nt p i := by
  have : (decide ((dg i p).sum ≤ 8) && decide (0 < nt (pad3 (dg i p)))) = false := by
    rw [Bool.eq_false_iff]; intro e; simp only [Bool.and_eq_true, decide_eq_true_eq] at e; exact h e
  simp only [lfA, List.range_succ, List.filter_append, List.filter_cons, this, List.filter_nil, Bool.false_eq_true, if_false, List.append_nil]
theorem lfA_len (nt : List Int → Nat) (p i : Nat) : (lfA nt p i).length ≤ i := by
  have := List.length_filter_le (fun key => decide ((dg key p).sum ≤ 8) && decide (0 < nt (pad3 (dg key p)))) (List.range i)
  rw [List.length_range] at this
  exact this
theorem tab_done {nt : List Int → Nat} {p k R : Nat} (h : lfK nt p k = []) (hk : k ≤ R) : tabK nt p k = tabK nt p R := by
  rw [tabK, tabK]
  apply List.map_congr_left
  intro key hkm
  have hn : key ∉ lfK nt p k := by rw [h]; simp
  by_cases hs : (dg key p).sum ≤ 8
  · have h1 : nt (pad3 (dg key p)) ≤ k := by
      rcases Nat.lt_or_ge k (nt (pad3 (dg key p))) with g | g
      · exact absurd (List.mem_filter.2 ⟨hkm, by rw [dec_t hs, dec_t g]; rfl⟩) hn
      · exact g
    rw [valK, valK, if_pos ⟨hs, h1⟩, if_pos ⟨hs, by omega⟩]
  · rw [valK, valK, if_neg fun e => hs e.1, if_neg fun e => hs e.1]
end Go.Proofs.Ytmncbkkpchmjhaa.Pam
