/- A part of the proof that stands in this folder: a small machine whose steps are shown to be the steps of the model, or walks of functions by it. No condition of its own. -/
import Derived.Test.YtihpfhdkjlphhaaGbNC
set_option linter.unusedVariables false
set_option linter.unusedSimpArgs false
namespace Go.Proofs.Ytihpfhdkjlphhaa.Pam
open Go
theorem tbl_all : ([0, 1].all fun m : Nat => [1, 2, 3, 4, 5].all fun n => decide (tblL m n = (List.range ((m + 2) ^ n)).map fun key => lnT m (dgB (m + 2) n key))) = true := by decide +kernel
theorem tbl_rng {m : Int} {n : Nat} (hm : m = 0 ∨ m = 1) (h1 : 1 ≤ n) (h5 : n ≤ 5) : tblL m n = (List.range ((m + 2).toNat ^ n)).map fun key => lnT m (dgB (m + 2).toNat n key) := by
  have hn : n ∈ [1, 2, 3, 4, 5] := by simp; omega
  rcases hm with rfl | rfl
  · have := List.all_eq_true.1 (List.all_eq_true.1 tbl_all 0 (by simp)) n hn
    exact of_decide_eq_true this
  · have := List.all_eq_true.1 (List.all_eq_true.1 tbl_all 1 (by simp)) n hn
    exact of_decide_eq_true this
theorem tbl_len {m : Int} {n : Nat} (hm : m = 0 ∨ m = 1) (h1 : 1 ≤ n) (h5 : n ≤ 5) : (tblL m n).length = (m + 2).toNat ^ n := by rw [tbl_rng hm h1 h5]; simp
theorem tbl_at {m : Int} {x : List Int} (h : isSh x m = true) : 0 ≤ kyL (m + 2) x ∧ (kyL (m + 2) x).toNat < (tblL m x.length).length ∧ (ints (tblL m x.length))[(kyL (m + 2) x).toNat]? = some (.int .i64 (lnT m x)) := by
  obtain ⟨h1, h5, hm, _⟩ := sh_out h
  have hb := kyL_bd (b := (m + 2).toNat) (by omega) (sh_in h).1
  have e : ((m + 2).toNat : Int) = m + 2 := by omega
  rw [e] at hb
  have hl := tbl_len hm h1 h5
  have hlt : (kyL (m + 2) x).toNat < (tblL m x.length).length := by rw [hl]; omega
  exact ⟨hb.1, hlt, by rw [ints_get hlt]; rfl⟩
def valG (nk : Nat → Nat) (k key : Nat) : Int := if nk key ≤ k then (nk key : Int) else -1
def tabG (nk : Nat → Nat) (T k : Nat) : List Int := (List.range T).map (valG nk k)
def lfG (nk : Nat → Nat) (T k : Nat) : List Nat := (List.range T).filter fun key => decide (k < nk key)
theorem tabG_len (nk : Nat → Nat) (T k : Nat) : (tabG nk T k).length = T := by simp [tabG]
theorem tabG_get {nk : Nat → Nat} {T k key : Nat} (h : key < T) : (ints (tabG nk T k))[key]? = some (.int .i64 (valG nk k key)) := by
  rw [ints_get (by rw [tabG_len]; exact h), getD_lt (by rw [tabG_len]; exact h)]; simp [tabG]
theorem lfG_next {nk : Nat → Nat} {T k : Nat} : (lfG nk T k).filter (fun key => !decide (nk key ≤ k + 1)) = lfG nk T (k + 1) := by
  simp only [lfG, List.filter_filter]
  apply List.filter_congr
  intro key _
  rw [Bool.eq_iff_iff]
  simp only [Bool.and_eq_true, Bool.not_eq_true', decide_eq_true_eq, decide_eq_false_iff_not]
  omega
theorem lfG_len (nk : Nat → Nat) (T k : Nat) : (lfG nk T k).length ≤ T := by
  have := List.length_filter_le (fun key => decide (k < nk key)) (List.range T)
  rw [List.length_range] at this
  exact this
theorem lfG_mem {nk : Nat → Nat} {T k key : Nat} (h : key ∈ lfG nk T k) : key < T ∧ k < nk key := by
  simpa only [lfG, List.mem_filter, List.mem_range, decide_eq_true_eq] using h
def stG (nk : Nat → Nat) (T k : Nat) (L : List Nat) : List Int := (List.range T).map fun key => if key ∈ L then ((k + 1 : Nat) : Int) else valG nk k key
theorem stG_0 (nk : Nat → Nat) (T k : Nat) : stG nk T k [] = tabG nk T k := by simp [stG, tabG]
theorem stG_len (nk : Nat → Nat) (T k : Nat) (L : List Nat) : (stG nk T k L).length = T := by simp [stG]
theorem stG_one (nk : Nat → Nat) (T k : Nat) (L : List Nat) (q : Nat) : (stG nk T k L).set q ((k + 1 : Nat) : Int) = stG nk T k (L ++ [q]) := by
  rw [stG, range_set, stG]
  apply List.map_congr_left
  intro x _
  by_cases h : x = q
  · simp [h]
  · simp [h]
theorem stG_end {nk : Nat → Nat} {T k : Nat} : stG nk T k ((lfG nk T k).filter fun key => decide (nk key ≤ k + 1)) = tabG nk T (k + 1) := by
  rw [stG, tabG]
  apply List.map_congr_left
  intro key hk
  have hk2 := List.mem_range.1 hk
  by_cases h1 : nk key ≤ k
  · have hn : key ∉ (lfG nk T k).filter fun key => decide (nk key ≤ k + 1) := fun h => by
      have := lfG_mem (List.mem_filter.1 h).1; omega
    rw [if_neg hn, valG, valG, if_pos h1, if_pos (by omega)]
  · by_cases h2 : nk key ≤ k + 1
    · have hy : key ∈ (lfG nk T k).filter fun key => decide (nk key ≤ k + 1) := by
        refine List.mem_filter.2 ⟨List.mem_filter.2 ⟨hk, ?_⟩, dec_t h2⟩
        rw [dec_t (show k < nk key by omega)]
      rw [if_pos hy, valG, if_pos h2]; omega
    · have hn : key ∉ (lfG nk T k).filter fun key => decide (nk key ≤ k + 1) := fun h => by
        have := (List.mem_filter.1 h).2; simp at this; omega
      rw [if_neg hn, valG, valG, if_neg h1, if_neg h2]
def stH (nk : Nat → Nat) (T i : Nat) : List Int := (List.range T).map fun key => if key < i then valG nk 0 key else 0
theorem stH_len (nk : Nat → Nat) (T i : Nat) : (stH nk T i).length = T := by simp [stH]
theorem stH_0 (nk : Nat → Nat) (T : Nat) : List.replicate T (0 : Int) = stH nk T 0 := by
  apply List.ext_getElem
  · simp [stH]
  · intro i h1 h2; simp [stH]
theorem stH_end (nk : Nat → Nat) (T : Nat) : stH nk T T = tabG nk T 0 := by
  rw [stH, tabG]
  apply List.map_congr_left
  intro key hk
  rw [if_pos (List.mem_range.1 hk)]
theorem stH_one {nk : Nat → Nat} {T i : Nat} : (stH nk T i).set i (valG nk 0 i) = stH nk T (i + 1) := by
  rw [stH, range_set, stH]
  apply List.map_congr_left
  intro x _
  by_cases h : x = i
  · rw [if_pos h, if_pos (by omega), h]
  · rw [if_neg h]
    by_cases h2 : x < i
    · rw [if_pos h2, if_pos (by omega)]
    · rw [if_neg h2, if_neg (by omega)]
def lfH (nk : Nat → Nat) (i : Nat) : List Nat := (List.range i).filter fun key => decide (0 < nk key)
theorem lfH_end (nk : Nat → Nat) (T : Nat) : lfH nk T = lfG nk T 0 := rfl
theorem lfH_yes {nk : Nat → Nat} {i : Nat} (h : 0 < nk i) : lfH nk i ++ [i] = lfH nk (i + 1) := by
  simp only [lfH, List.range_succ, List.filter_append, List.filter_cons, dec_t h, List.filter_nil, if_true]
theorem lfH_no {nk : Nat → Nat} {i : Nat} (h : ¬ 0 < nk i) : lfH nk (i + 1) = lfH nk i := by
  simp only [lfH, List.range_succ, List.filter_append, List.filter_cons, dec_f h, List.filter_nil, Bool.false_eq_true, if_false, List.append_nil]
theorem lfH_len (nk : Nat → Nat) (i : Nat) : (lfH nk i).length ≤ i := by
  have := List.length_filter_le (fun key => decide (0 < nk key)) (List.range i)
  rw [List.length_range] at this
  exact this
theorem tabG_done {nk : Nat → Nat} {T k : Nat} (h : lfG nk T k = []) : tabG nk T k = (List.range T).map fun key => (nk key : Int) := by
  rw [tabG]
  apply List.map_congr_left
  intro key hk
  have : ¬ k < nk key := fun g => by
    have : key ∈ lfG nk T k := List.mem_filter.2 ⟨hk, dec_t g⟩
    rw [h] at this; cases this
  rw [valG, if_pos (by omega)]
/-- The needs by keys. -/
def nkS (m : Int) (n key : Nat) : Nat := (lnT m (dgB (m + 2).toNat n key)).toNat
theorem nk_ky {m : Int} {x : List Int} (h : isSh x m = true) : (nkS m x.length (kyL (m + 2) x).toNat : Int) = lnT m x ∧ (kyL (m + 2) x).toNat < (m + 2).toNat ^ x.length := by
  obtain ⟨h1, h5, hm, _⟩ := sh_out h
  have hb := kyL_bd (b := (m + 2).toNat) (by omega) (sh_in h).1
  have hd := dg_ky (b := (m + 2).toNat) (by omega) (sh_in h).1
  have e : ((m + 2).toNat : Int) = m + 2 := by omega
  rw [e] at hb hd
  refine ⟨?_, by omega⟩
  rw [nkS, hd]
  have := (CS.of h).lt
  omega
theorem dg_sh {m : Int} {n key : Nat} (hm : m = 0 ∨ m = 1) (h1 : 1 ≤ n) (h5 : n ≤ 5) : isSh (dgB (m + 2).toNat n key) m = true := by
  refine sh_mk (by rw [dgB_len]; exact h1) (by rw [dgB_len]; exact h5) hm ?_
  have : ∀ b : Nat, 0 < b → ∀ n key, ∀ v ∈ dgB b n key, -1 ≤ v ∧ v + 1 < b := by
    intro b hb n
    induction n with
    | zero => intro key v hv; simp [dgB] at hv
    | succ n ih =>
      intro key v hv
      simp only [dgB, List.mem_append, List.mem_singleton] at hv
      rcases hv with hv | rfl
      · exact ih _ v hv
      · have := Nat.mod_lt key hb
        omega
  intro v hv
  have := this (m + 2).toNat (by omega) n key v hv
  omega
theorem nk_dg {m : Int} {n key : Nat} (hm : m = 0 ∨ m = 1) (h1 : 1 ≤ n) (h5 : n ≤ 5) : (nkS m n key : Int) = lnT m (dgB (m + 2).toNat n key) := by
  have := (CS.of (dg_sh (key := key) hm h1 h5)).lt
  rw [nkS]; omega
theorem nk_top : ([0, 1].all fun m : Nat => [1, 2, 3, 4, 5].all fun n => (tblL m n).all fun v => decide (v ≤ 6)) = true := by decide +kernel
theorem nk_6 {m : Int} {n key : Nat} (hm : m = 0 ∨ m = 1) (h1 : 1 ≤ n) (h5 : n ≤ 5) (hk : key < (m + 2).toNat ^ n) : nkS m n key ≤ 6 := by
  have hn : n ∈ [1, 2, 3, 4, 5] := by simp; omega
  have hl := tbl_rng hm h1 h5
  have hall : ∀ v ∈ tblL m n, v ≤ 6 := by
    rcases hm with rfl | rfl
    · have := List.all_eq_true.1 (List.all_eq_true.1 nk_top 0 (by simp)) n hn
      intro v hv; simpa using List.all_eq_true.1 this v hv
    · have := List.all_eq_true.1 (List.all_eq_true.1 nk_top 1 (by simp)) n hn
      intro v hv; simpa using List.all_eq_true.1 this v hv
  have := hall (lnT m (dgB (m + 2).toNat n key)) (by rw [hl]; exact List.mem_map.2 ⟨key, List.mem_range.2 hk, rfl⟩)
  rw [nkS]; omega
theorem tab_end {m : Int} {n k : Nat} (hm : m = 0 ∨ m = 1) (h1 : 1 ≤ n) (h5 : n ≤ 5) (h : lfG (nkS m n) ((m + 2).toNat ^ n) k = []) : tabG (nkS m n) ((m + 2).toNat ^ n) k = tblL m n := by
  rw [tabG_done h, tbl_rng hm h1 h5]
  apply List.map_congr_left
  intro key _
  exact nk_dg hm h1 h5
/-- What one comparison tells in a round. -/
def hitR (m : Int) (x : List Int) (r j : Nat) : Bool := decide (lnT m (aftL m (j + 1) true x) ≤ r) && decide (lnT m (aftL m (j + 1) false x) ≤ r)
structure Q6 where
  i : Nat
  b : Bool
  s7 : SV
  s8 : SV
  s9 : SV
  s11 : SV
  s12 : SV
  s13 : SV
  s14 : SV
  s15 : SV
  s16 : SV
  s17 : SV
  s20 : SV
  s32 : SV
  s42 : SV
  s52 : SV
  s60 : SV
  s76 : SV
  s97 : SV
  s115 : SV
  o14 : Option Ob
  o48 : Option Ob
  o55 : Option Ob
  o56 : Option Ob
  o103 : Option Ob
  o110 : Option Ob
def a_l6Needs (f_l6Of : FuncId) (f_l6Done : FuncId) (f_l6After : FuncId) (f_l6Key : FuncId) : AFn := ⟨2, 
  .seq (.reg [⟨some 4, none, .d (.mv (.c (.nilsl)))⟩])
  (.seq (.reg [⟨some 5, none, .d (.mv (.c (.int .i64 1)))⟩])
  (.seq (.seq (.reg [⟨some 6, none, .d (.mv (.c (.int .i64 0)))⟩])
  (.block 0 (.loop (.seq (.seq (.reg [⟨some 18, none, .d (.mv (.t 6))⟩,
      ⟨some 19, none, .d (.mv (.t 0))⟩,
      ⟨some 20, none, .d (.bin .arith .lss (.t 18) (.t 19))⟩])
    (.cond (.t 20) (.skip) (.exit 0)))
    (.seq (.block 1 (.reg [⟨some 23, none, .d (.mv (.t 5))⟩,
       ⟨some 24, none, .d (.mv (.t 1))⟩,
       ⟨some 25, none, .d (.bin .arith .add (.t 24) (.c (.int .i64 2)))⟩,
       ⟨some 26, none, .d (.bin .arith .mul (.t 23) (.t 25))⟩,
       ⟨some 5, none, .d (.mv (.t 26))⟩]))
    (.reg [⟨some 21, none, .d (.mv (.t 6))⟩,
      ⟨some 22, none, .d (.bin .arith .add (.t 21) (.c (.int .i64 1)))⟩,
      ⟨some 6, none, .d (.mv (.t 22))⟩]))))))
  (.seq (.reg [⟨some 27, none, .d (.mv (.t 5))⟩,
    ⟨some 28, none, .w (.mkslice 1 (.int .i64 0) (.t 27))⟩,
    ⟨some 29, none, .w (.bslice 1 [] [])⟩,
    ⟨some 7, none, .d (.mv (.t 28))⟩,
    ⟨some 8, none, .d (.mv (.t 29))⟩])
  (.seq (.seq (.reg [⟨some 9, none, .d (.mv (.c (.int .i64 0)))⟩])
  (.block 2 (.loop (.seq (.seq (.reg [⟨some 30, none, .d (.mv (.t 9))⟩,
      ⟨some 31, none, .d (.mv (.t 5))⟩,
      ⟨some 32, none, .d (.bin .arith .lss (.t 30) (.t 31))⟩])
    (.cond (.t 32) (.skip) (.exit 2)))
    (.seq (.block 3 (.seq (.reg [⟨some 35, none, .d (.mv (.t 7))⟩,
       ⟨some 36, none, .d (.mv (.t 9))⟩,
       ⟨some 37, none, .d (.ia 1 (.t 35) (.t 36))⟩,
       ⟨none, none, .w (.store 1 (.t 37) (.c (.int .i64 (-1))))⟩])
     (.seq (.reg [⟨some 38, none, .d (.mv (.t 9))⟩,
       ⟨some 39, none, .d (.mv (.t 0))⟩,
       ⟨some 40, none, .d (.mv (.t 1))⟩,
       ⟨some 41, none, .d (.call (.f f_l6Of) [(.t 38), (.t 39), (.t 40)])⟩,
       ⟨some 42, none, .d (.call (.f f_l6Done) [(.t 41)])⟩])
     (.cond (.t 42) (.reg [⟨some 43, none, .d (.mv (.t 7))⟩,
        ⟨some 44, none, .d (.mv (.t 9))⟩,
        ⟨some 45, none, .d (.ia 1 (.t 43) (.t 44))⟩,
        ⟨none, none, .w (.store 1 (.t 45) (.c (.int .i64 0)))⟩]) (.reg [⟨some 46, none, .d (.mv (.t 8))⟩,
        ⟨some 47, none, .d (.mv (.t 9))⟩,
        ⟨some 48, none, .w (.bslice 1 [.int .i64 0] [(0, (.t 47))])⟩,
        ⟨some 49, none, .w (.append 1 (.t 46) (.t 48))⟩,
        ⟨some 8, none, .d (.mv (.t 49))⟩])))))
    (.reg [⟨some 33, none, .d (.mv (.t 9))⟩,
      ⟨some 34, none, .d (.bin .arith .add (.t 33) (.c (.int .i64 1)))⟩,
      ⟨some 9, none, .d (.mv (.t 34))⟩]))))))
  (.seq (.seq (.reg [⟨some 10, none, .d (.mv (.c (.int .i64 1)))⟩])
  (.block 4 (.loop (.seq (.seq (.reg [⟨some 50, none, .d (.mv (.t 8))⟩,
      ⟨some 51, none, .d (.len (.t 50))⟩,
      ⟨some 52, none, .d (.bin .arith .gtr (.t 51) (.c (.int .i64 0)))⟩])
    (.cond (.t 52) (.skip) (.exit 4)))
    (.seq (.block 5 (.seq (.reg [⟨some 55, none, .w (.bslice 1 [] [])⟩,
       ⟨some 56, none, .w (.bslice 1 [] [])⟩,
       ⟨some 11, none, .d (.mv (.t 55))⟩,
       ⟨some 12, none, .d (.mv (.t 56))⟩])
     (.seq (.seq (.reg [⟨some 13, none, .d (.mv (.c (.int .i64 0)))⟩])
     (.block 6 (.loop (.seq (.seq (.reg [⟨some 57, none, .d (.mv (.t 13))⟩,
         ⟨some 58, none, .d (.mv (.t 8))⟩,
         ⟨some 59, none, .d (.len (.t 58))⟩,
         ⟨some 60, none, .d (.bin .arith .lss (.t 57) (.t 59))⟩])
       (.cond (.t 60) (.skip) (.exit 6)))
       (.seq (.block 7 (.seq (.reg [⟨some 63, none, .d (.mv (.t 8))⟩,
          ⟨some 64, none, .d (.mv (.t 13))⟩,
          ⟨some 65, none, .d (.ia 1 (.t 63) (.t 64))⟩,
          ⟨some 66, none, .d (.load false 1 (.t 65))⟩,
          ⟨some 67, none, .d (.mv (.t 0))⟩,
          ⟨some 68, none, .d (.mv (.t 1))⟩,
          ⟨some 69, none, .d (.call (.f f_l6Of) [(.t 66), (.t 67), (.t 68)])⟩,
          ⟨some 14, none, .w (.alloc [.nilsl, .int .i64 0])⟩,
          ⟨none, none, .w (.store 2 (.t 14) (.t 69))⟩,
          ⟨some 15, none, .d (.mv (.c (.bool false)))⟩])
        (.seq (.seq (.reg [⟨some 16, none, .d (.mv (.c (.int .i64 1)))⟩])
        (.block 8 (.loop (.seq (.seq (.reg [⟨some 70, none, .d (.mv (.t 16))⟩,
            ⟨some 71, none, .d (.mv (.t 0))⟩,
            ⟨some 72, none, .d (.bin .arith .lss (.t 70) (.t 71))⟩,
            ⟨some 73, none, .d (.mv (.t 72))⟩,
            ⟨some 74, some (73, true), .d (.mv (.t 15))⟩,
            ⟨some 75, some (73, true), .d (.not (.t 74))⟩,
            ⟨some 76, none, .d (.pick (.t 73) (.t 75) (.c (.bool false)))⟩])
          (.cond (.t 76) (.skip) (.exit 8)))
          (.seq (.block 9 (.reg [⟨some 79, none, .d (.mv (.t 7))⟩,
             ⟨some 80, none, .d (.load true 2 (.t 14))⟩,
             ⟨some 81, none, .d (.mv (.t 16))⟩,
             ⟨some 82, none, .d (.call (.f f_l6After) [(.t 80), (.t 81), (.c (.bool true))])⟩,
             ⟨some 83, none, .d (.call (.f f_l6Key) [(.t 82)])⟩,
             ⟨some 84, none, .d (.ia 1 (.t 79) (.t 83))⟩,
             ⟨some 85, none, .d (.load false 1 (.t 84))⟩,
             ⟨some 86, none, .d (.bin .arith .geq (.t 85) (.c (.int .i64 0)))⟩,
             ⟨some 87, none, .d (.mv (.t 86))⟩,
             ⟨some 88, some (87, true), .d (.mv (.t 7))⟩,
             ⟨some 89, some (87, true), .d (.load true 2 (.t 14))⟩,
             ⟨some 90, some (87, true), .d (.mv (.t 16))⟩,
             ⟨some 91, some (87, true), .d (.call (.f f_l6After) [(.t 89), (.t 90), (.c (.bool false))])⟩,
             ⟨some 92, some (87, true), .d (.call (.f f_l6Key) [(.t 91)])⟩,
             ⟨some 93, some (87, true), .d (.ia 1 (.t 88) (.t 92))⟩,
             ⟨some 94, some (87, true), .d (.load false 1 (.t 93))⟩,
             ⟨some 95, some (87, true), .d (.bin .arith .geq (.t 94) (.c (.int .i64 0)))⟩,
             ⟨some 96, none, .d (.pick (.t 87) (.t 95) (.c (.bool false)))⟩,
             ⟨some 15, none, .d (.mv (.t 96))⟩]))
          (.reg [⟨some 77, none, .d (.mv (.t 16))⟩,
            ⟨some 78, none, .d (.bin .arith .add (.t 77) (.c (.int .i64 1)))⟩,
            ⟨some 16, none, .d (.mv (.t 78))⟩]))))))
        (.seq (.reg [⟨some 97, none, .d (.mv (.t 15))⟩])
        (.cond (.t 97) (.reg [⟨some 98, none, .d (.mv (.t 11))⟩,
           ⟨some 99, none, .d (.mv (.t 8))⟩,
           ⟨some 100, none, .d (.mv (.t 13))⟩,
           ⟨some 101, none, .d (.ia 1 (.t 99) (.t 100))⟩,
           ⟨some 102, none, .d (.load false 1 (.t 101))⟩,
           ⟨some 103, none, .w (.bslice 1 [.int .i64 0] [(0, (.t 102))])⟩,
           ⟨some 104, none, .w (.append 1 (.t 98) (.t 103))⟩,
           ⟨some 11, none, .d (.mv (.t 104))⟩]) (.reg [⟨some 105, none, .d (.mv (.t 12))⟩,
           ⟨some 106, none, .d (.mv (.t 8))⟩,
           ⟨some 107, none, .d (.mv (.t 13))⟩,
           ⟨some 108, none, .d (.ia 1 (.t 106) (.t 107))⟩,
           ⟨some 109, none, .d (.load false 1 (.t 108))⟩,
           ⟨some 110, none, .w (.bslice 1 [.int .i64 0] [(0, (.t 109))])⟩,
           ⟨some 111, none, .w (.append 1 (.t 105) (.t 110))⟩,
           ⟨some 12, none, .d (.mv (.t 111))⟩]))))))
       (.reg [⟨some 61, none, .d (.mv (.t 13))⟩,
         ⟨some 62, none, .d (.bin .arith .add (.t 61) (.c (.int .i64 1)))⟩,
         ⟨some 13, none, .d (.mv (.t 62))⟩]))))))
     (.seq (.seq (.reg [⟨some 17, none, .d (.mv (.c (.int .i64 0)))⟩])
     (.block 10 (.loop (.seq (.seq (.reg [⟨some 112, none, .d (.mv (.t 17))⟩,
         ⟨some 113, none, .d (.mv (.t 11))⟩,
         ⟨some 114, none, .d (.len (.t 113))⟩,
         ⟨some 115, none, .d (.bin .arith .lss (.t 112) (.t 114))⟩])
       (.cond (.t 115) (.skip) (.exit 10)))
       (.seq (.block 11 (.reg [⟨some 118, none, .d (.mv (.t 7))⟩,
          ⟨some 119, none, .d (.mv (.t 11))⟩,
          ⟨some 120, none, .d (.mv (.t 17))⟩,
          ⟨some 121, none, .d (.ia 1 (.t 119) (.t 120))⟩,
          ⟨some 122, none, .d (.load false 1 (.t 121))⟩,
          ⟨some 123, none, .d (.mv (.t 10))⟩,
          ⟨some 124, none, .d (.ia 1 (.t 118) (.t 122))⟩,
          ⟨none, none, .w (.store 1 (.t 124) (.t 123))⟩]))
       (.reg [⟨some 116, none, .d (.mv (.t 17))⟩,
         ⟨some 117, none, .d (.bin .arith .add (.t 116) (.c (.int .i64 1)))⟩,
         ⟨some 17, none, .d (.mv (.t 117))⟩]))))))
     (.reg [⟨some 125, none, .d (.mv (.t 12))⟩,
       ⟨some 8, none, .d (.mv (.t 125))⟩])))))
    (.reg [⟨some 53, none, .d (.mv (.t 10))⟩,
      ⟨some 54, none, .d (.bin .arith .add (.t 53) (.c (.int .i64 1)))⟩,
      ⟨some 10, none, .d (.mv (.t 54))⟩]))))))
  (.seq (.reg [⟨some 126, none, .d (.mv (.t 7))⟩,
    ⟨some 4, none, .d (.mv (.t 126))⟩])
  (.ret))))))), [.tmp 4]⟩
def n_l6Needs : Nat → Option Ann := fun _ => none
abbrev k_l6Needs : List Nat := [0, 1, 4, 5, 6, 7, 8, 9, 10, 11, 12, 13, 14, 15, 16, 17, 20, 32, 42, 52, 60, 76, 97, 115]
abbrev o_l6Needs : List Nat := [14, 28, 29, 48, 49, 55, 56, 103, 104, 110, 111]
def c_l6Needs : Con := pure' fun
  | [.p (.int .i64 n), .p (.int .i64 m)] => if (1 ≤ n ∧ n ≤ 5 ∧ 0 ≤ m ∧ m ≤ 1) then some (.ar 2000000, [.arr 1 (ints (tblL m n.toNat))]) else none
  | _ => none
set_option maxHeartbeats 4000000 in
theorem s_l6Needs {P : Program} (hm : P.follows .mixedOrders = true) {Γ : Gam} (hΓ : GS P Γ) {n : FuncId} {f_l6Of : FuncId} {f_l6Done : FuncId} {f_l6After : FuncId} {f_l6Key : FuncId} (is : Is P n (a_l6Needs f_l6Of f_l6Done f_l6After f_l6Key)) (h_l6Of : Γ f_l6Of = c_l6Of) (h_l6Done : Γ f_l6Done = c_l6Done) (h_l6After : Γ f_l6After = c_l6After) (h_l6Key : Γ f_l6Key = c_l6Key)  : Says P n c_l6Needs := by
  refine Says.pure fun args r fs h => ?_
  split at h
  case h_2 => cases h
  rename_i n m
  split at h
  case isFalse => cases h
  rename_i hc
  simp only [ofI_ints, ofBo_bools, ofAs_asks, Option.some.injEq, Prod.mk.injEq] at h hc
  obtain ⟨rfl, rfl⟩ := h
  obtain ⟨hn1', hn5', hm0, hm1⟩ := hc
  obtain ⟨n, rfl⟩ : ∃ j : Nat, n = j := ⟨n.toNat, by omega⟩
  simp only [Int.toNat_natCast]
  have hn1 : 1 ≤ n := by omega
  have hn5 : n ≤ 5 := by omega
  have hm01 : m = 0 ∨ m = 1 := by omega
  obtain ⟨b, hb⟩ : ∃ b : Nat, (m + 2).toNat = b := ⟨_, rfl⟩
  have hbm : (b : Int) = m + 2 := by omega
  have hb23 : b = 2 ∨ b = 3 := by omega
  have hwb : IntKind.i64.wrap (m + 2) = (b : Int) := by rw [hbm]; exact wrap64 (by omega) (by omega)
  have hpw : ∀ i, i ≤ 5 → b ^ i ≤ 243 := fun i hi => Nat.le_trans (Nat.pow_le_pow_left (show b ≤ 3 by omega) i) (Nat.le_trans (Nat.pow_le_pow_right (by omega) hi) (by decide))
  have htop : ∀ key, key < b ^ n → nkS m n key ≤ 6 := fun key hk => nk_6 hm01 hn1 hn5 (by rw [hb]; exact hk)
  have hsh : ∀ key, isSh (dgB b n key) m = true := fun key => by have := dg_sh (key := key) hm01 hn1 hn5; rwa [hb] at this
  have hnk : ∀ key, (nkS m n key : Int) = lnT m (dgB b n key) := fun key => by have := nk_dg (key := key) hm01 hn1 hn5; rwa [hb] at this
  have hdone : ∀ k, lfG (nkS m n) (b ^ n) k = [] → tabG (nkS m n) (b ^ n) k = tblL m n := fun k h => by
    have := tab_end (k := k) hm01 hn1 hn5 (by rw [hb]; exact h); rwa [hb] at this
  have hky : ∀ x, isSh x m = true → x.length = n → (nkS m n (kyL (m + 2) x).toNat : Int) = lnT m x ∧ (kyL (m + 2) x).toNat < b ^ n ∧ 0 ≤ kyL (m + 2) x := fun x hx hl => by
    have g := nk_ky hx
    rw [hl, hb] at g
    exact ⟨g.1, g.2, (tbl_at hx).1⟩
  generalize hnkd : nkS m n = nk at *
  refine is.go hm hΓ k_l6Needs o_l6Needs (by simp [a_l6Needs]) ?_
  simp only [a_l6Needs, List.zipIdx_cons, List.zipIdx_nil, ↓SP, SQ, Gam.add, stepM, callC, argC, lendO, nmBy, nmC, likeL, likeB, plainOb, offs, exL, X, F, trP, trO, stepD, stepW, newA, SV.tr, SV.trL, fz, allP, Ob.tr, loadA, cellsA, SV.cells, binA, binI, eqOut, isSl, isPt, natOf, callee, snap, SV.refsL, SV.refs, thaw, fzAll, loA, hiA, elemOf, partsA, buildA, putCells, ↓reduceIte, reduceCtorEq, okCell, Nat.reduceAdd, Nat.reduceEqDiff, Nat.reduceSub, Nat.reduceMul, Nat.reduceLeDiff, Nat.reduceLT, Nat.reduceBEq, PV.scal, PV.scalL, SV.scal, SV.scalL, Ob.scal, PV.isCell, pure', resO]
  refine loop_at (fun s : Q6 => mkEnv [(0, si n), (1, si m), (4, .p .nilsl), (5, si ((b ^ s.i : Nat) : Int)), (6, si s.i), (7, .junk), (8, .junk), (9, .junk), (10, .junk), (11, .junk), (12, .junk), (13, .junk), (14, .junk), (15, .junk), (16, .junk), (17, .junk), (20, s.s20), (32, .junk), (42, .junk), (52, .junk), (60, .junk), (76, .junk), (97, .junk), (115, .junk)]) (fun s => mkO [(14, none), (28, none), (29, none), (48, none), (49, none), (55, none), (56, none), (103, none), (104, none), (110, none), (111, none)]) (fun s => s.i ≤ n) (fun s => n - s.i) ⟨0, false, .junk, .junk, .junk, .junk, .junk, .junk, .junk, .junk, .junk, .junk, .junk, .junk, .junk, .junk, .junk, .junk, .junk, .junk, none, none, none, none, none, none⟩ (by simp) rfl rfl ?_
  rintro ⟨i, _, as7, as8, as9, as11, as12, as13, as14, as15, as16, as17, as20, as32, as42, as52, as60, as76, as97, as115, ao14, ao48, ao55, ao56, ao103, ao110⟩ hi R1 hR1 hN1
  simp only at hi
  by_cases h : i < n
  · have h1 : (i : Int) < (n : Int) := by omega
    have hw := wrap_one (i := i) (by omega)
    have hpi := hpw i (by omega)
    have hmb : IntKind.i64.wrap (((b ^ i : Nat) : Int) * b) = ((b ^ (i + 1) : Nat) : Int) := by
      rw [Nat.pow_succ]
      generalize b ^ i = z at hpi
      rcases hb23 with rfl | rfl
      · rw [wrap64 (by omega) (by omega)]; omega
      · rw [wrap64 (by omega) (by omega)]; omega
    simp only [h1, hw, hwb, hmb, ↓SP, SQ, Gam.add, stepM, callC, argC, lendO, nmBy, nmC, likeL, likeB, plainOb, offs, exL, X, F, trP, trO, stepD, stepW, newA, SV.tr, SV.trL, fz, allP, Ob.tr, loadA, cellsA, SV.cells, binA, binI, eqOut, isSl, isPt, natOf, callee, snap, SV.refsL, SV.refs, thaw, fzAll, loA, hiA, elemOf, partsA, buildA, putCells, ↓reduceIte, reduceCtorEq, okCell, Nat.reduceAdd, Nat.reduceEqDiff, Nat.reduceSub, Nat.reduceMul, Nat.reduceLeDiff, Nat.reduceLT, Nat.reduceBEq, PV.scal, PV.scalL, SV.scal, SV.scalL, Ob.scal, PV.isCell, pure', resO]
    exact hN1 ⟨i + 1, false, .junk, .junk, .junk, .junk, .junk, .junk, .junk, .junk, .junk, .junk, _, .junk, .junk, .junk, .junk, .junk, .junk, .junk, none, none, none, none, none, none⟩ _ _ (by simp only; omega) (by simp only; omega) rfl rfl
  have hie : i = n := by omega
  subst hie
  have h1 : ¬ ((i : Nat) : Int) < (i : Int) := by omega
  have hT := hpw i hn5
  obtain ⟨T, hTe⟩ : ∃ T, b ^ i = T := ⟨_, rfl⟩
  simp only [hTe] at *
  have hroom : T ≤ roomA := by unfold roomA; omega
  have hn0 : (0 : Int) ≤ ((T : Nat) : Int) := Int.natCast_nonneg _
  have hA0 := stH_0 nk T
  simp only [h1, ↓SP, SQ, Gam.add, stepM, callC, argC, lendO, nmBy, nmC, likeL, likeB, plainOb, offs, exL, X, F, trP, trO, stepD, stepW, newA, SV.tr, SV.trL, fz, allP, Ob.tr, loadA, cellsA, SV.cells, binA, binI, eqOut, isSl, isPt, natOf, callee, snap, SV.refsL, SV.refs, thaw, fzAll, loA, hiA, elemOf, partsA, buildA, putCells, ↓reduceIte, reduceCtorEq, okCell, Nat.reduceAdd, Nat.reduceEqDiff, Nat.reduceSub, Nat.reduceMul, Nat.reduceLeDiff, Nat.reduceLT, Nat.reduceBEq, PV.scal, PV.scalL, SV.scal, SV.scalL, Ob.scal, PV.isCell, pure', resO]
  refine hR1 _ _ _ (by intro h; cases h) ?_
  simp only [hroom, hn0, Int.toNat_natCast, ints_rep, hA0, ↓SP, SQ, Gam.add, stepM, callC, argC, lendO, nmBy, nmC, likeL, likeB, plainOb, offs, exL, X, F, trP, trO, stepD, stepW, newA, SV.tr, SV.trL, fz, allP, Ob.tr, loadA, cellsA, SV.cells, binA, binI, eqOut, isSl, isPt, natOf, callee, snap, SV.refsL, SV.refs, thaw, fzAll, loA, hiA, elemOf, partsA, buildA, putCells, ↓reduceIte, reduceCtorEq, okCell, Nat.reduceAdd, Nat.reduceEqDiff, Nat.reduceSub, Nat.reduceMul, Nat.reduceLeDiff, Nat.reduceLT, Nat.reduceBEq, PV.scal, PV.scalL, SV.scal, SV.scalL, Ob.scal, PV.isCell, pure', resO]
  refine loop_at (fun s : Q6 => mkEnv [(0, si i), (1, si m), (4, .p .nilsl), (5, si (T : Int)), (6, si i), (7, .ar 28), (8, .ar 29), (9, si s.i), (10, .junk), (11, .junk), (12, .junk), (13, .junk), (14, .junk), (15, .junk), (16, .junk), (17, .junk), (20, sb false), (32, s.s32), (42, s.s42), (52, .junk), (60, .junk), (76, .junk), (97, .junk), (115, .junk)]) (fun s => mkO [(14, none), (28, some (.arr 1 (ints (stH nk T s.i)))), (29, some (.arr 1 (ints (nz (lfH nk s.i))))), (48, s.o48), (49, none), (55, none), (56, none), (103, none), (104, none), (110, none), (111, none)]) (fun s => s.i ≤ T) (fun s => T - s.i) ⟨0, false, .junk, .junk, .junk, .junk, .junk, .junk, .junk, .junk, .junk, .junk, .junk, .junk, .junk, .junk, .junk, .junk, .junk, .junk, none, none, none, none, none, none⟩ (by simp) rfl rfl ?_
  rintro ⟨j, _, bs7, bs8, bs9, bs11, bs12, bs13, bs14, bs15, bs16, bs17, bs20, bs32, bs42, bs52, bs60, bs76, bs97, bs115, bo14, bo48, bo55, bo56, bo103, bo110⟩ hj R2 hR2 hN2
  simp only at hj
  by_cases h : j < T
  · have h2 : (j : Int) < ((T : Nat) : Int) := Int.ofNat_lt.2 h
    have hw := wrap_one (i := j) (by omega)
    have hj0 : (0 : Int) ≤ (j : Int) := Int.natCast_nonneg _
    have hj1 : (j : Int) ≤ 1000000 := by omega
    have hlen := stH_len nk T j
    have hdl := dgB_len b i j
    have hdlb : (dgB b i j).length ≤ 1100000 := by omega
    have hone := stH_one (nk := nk) (T := T) (i := j)
    obtain ⟨e0, he0⟩ : ∃ e, (ints (stH nk T j))[j]? = some e := ⟨_, List.getElem?_eq_getElem (by rw [ints_len, hlen]; exact h)⟩
    have hlen1 : ((stH nk T j).set j (-1)).length = T := by rw [List.length_set, hlen]
    obtain ⟨e1, he1⟩ : ∃ e, (ints ((stH nk T j).set j (-1)))[j]? = some e := ⟨_, List.getElem?_eq_getElem (by rw [ints_len, hlen1]; exact h)⟩
    have C := CS.of (hsh j)
    have hnj := hnk j
    by_cases ho : (opens (dgB b i j)).length < 2
    · have ho2 : ((opens (dgB b i j)).length : Int) < 2 := by omega
      have hz := C.zero ho
      have hno := lfH_no (nk := nk) (i := j) (by omega)
      have hv : valG nk 0 j = 0 := by rw [valG, if_pos (by omega)]; omega
      rw [hv] at hone
      have hset : ((stH nk T j).set j (-1)).set j 0 = stH nk T (j + 1) := by rw [List.set_set, hone]
      simp only [h, h2, hw, hj0, hj1, hn1', hn5', hm0, hm1, hb, hlen, hlen1, hdlb, he0, he1, ho2, hset, Int.toNat_natCast, ints_len, ints_set, isI_ints, ofI_ints, h_l6Of, c_l6Of, h_l6Done, c_l6Done, ↓SP, SQ, Gam.add, stepM, callC, argC, lendO, nmBy, nmC, likeL, likeB, plainOb, offs, exL, X, F, trP, trO, stepD, stepW, newA, SV.tr, SV.trL, fz, allP, Ob.tr, loadA, cellsA, SV.cells, binA, binI, eqOut, isSl, isPt, natOf, callee, snap, SV.refsL, SV.refs, thaw, fzAll, loA, hiA, elemOf, partsA, buildA, putCells, ↓reduceIte, reduceCtorEq, okCell, Nat.reduceAdd, Nat.reduceEqDiff, Nat.reduceSub, Nat.reduceMul, Nat.reduceLeDiff, Nat.reduceLT, Nat.reduceBEq, PV.scal, PV.scalL, SV.scal, SV.scalL, Ob.scal, PV.isCell, pure', resO]
      exact hN2 ⟨j + 1, false, .junk, .junk, .junk, .junk, .junk, .junk, .junk, .junk, .junk, .junk, .junk, _, _, .junk, .junk, .junk, .junk, .junk, none, _, none, none, none, none⟩ _ _ (by simp only; omega) (by simp only; omega) rfl (by rw [hno])
    · have ho2 : ¬ ((opens (dgB b i j)).length : Int) < 2 := by omega
      have hz := C.pos ho
      have hyes := lfH_yes (nk := nk) (i := j) (by omega)
      have hv : valG nk 0 j = -1 := by rw [valG, if_neg (by omega)]
      rw [hv] at hone
      have hll := lfH_len nk j
      have hr : (lfH nk j).length + 1 ≤ roomA := by unfold roomA; omega
      simp only [h, h2, hw, hj0, hj1, hn1', hn5', hm0, hm1, hb, hlen, hlen1, hdlb, he0, he1, ho2, hone, hyes, hr, nz_len, nz_app, Int.toNat_natCast, ints_len, ints_set, ints_app1, ints_cell, isI_ints, ofI_ints, h_l6Of, c_l6Of, h_l6Done, c_l6Done, ↓SP, SQ, Gam.add, stepM, callC, argC, lendO, nmBy, nmC, likeL, likeB, plainOb, offs, exL, X, F, trP, trO, stepD, stepW, newA, SV.tr, SV.trL, fz, allP, Ob.tr, loadA, cellsA, SV.cells, binA, binI, eqOut, isSl, isPt, natOf, callee, snap, SV.refsL, SV.refs, thaw, fzAll, loA, hiA, elemOf, partsA, buildA, putCells, ↓reduceIte, reduceCtorEq, okCell, Nat.reduceAdd, Nat.reduceEqDiff, Nat.reduceSub, Nat.reduceMul, Nat.reduceLeDiff, Nat.reduceLT, Nat.reduceBEq, PV.scal, PV.scalL, SV.scal, SV.scalL, Ob.scal, PV.isCell, pure', resO]
      exact hN2 ⟨j + 1, false, .junk, .junk, .junk, .junk, .junk, .junk, .junk, .junk, .junk, .junk, .junk, _, _, .junk, .junk, .junk, .junk, .junk, none, _, none, none, none, none⟩ _ _ (by simp only; omega) (by simp only; omega) rfl rfl
  have hje : j = T := by omega
  have h2 : ¬ ((T : Nat) : Int) < ((T : Nat) : Int) := Int.lt_irrefl _
  subst hje
  have hA9 := stH_end nk j
  have hL9 := lfH_end nk j
  simp only [h2, ↓SP, SQ, Gam.add, stepM, callC, argC, lendO, nmBy, nmC, likeL, likeB, plainOb, offs, exL, X, F, trP, trO, stepD, stepW, newA, SV.tr, SV.trL, fz, allP, Ob.tr, loadA, cellsA, SV.cells, binA, binI, eqOut, isSl, isPt, natOf, callee, snap, SV.refsL, SV.refs, thaw, fzAll, loA, hiA, elemOf, partsA, buildA, putCells, ↓reduceIte, reduceCtorEq, okCell, Nat.reduceAdd, Nat.reduceEqDiff, Nat.reduceSub, Nat.reduceMul, Nat.reduceLeDiff, Nat.reduceLT, Nat.reduceBEq, PV.scal, PV.scalL, SV.scal, SV.scalL, Ob.scal, PV.isCell, pure', resO]
  refine hR2 _ _ _ (by intro h; cases h) ?_
  simp only [hA9, hL9, ↓SP, SQ, Gam.add, stepM, callC, argC, lendO, nmBy, nmC, likeL, likeB, plainOb, offs, exL, X, F, trP, trO, stepD, stepW, newA, SV.tr, SV.trL, fz, allP, Ob.tr, loadA, cellsA, SV.cells, binA, binI, eqOut, isSl, isPt, natOf, callee, snap, SV.refsL, SV.refs, thaw, fzAll, loA, hiA, elemOf, partsA, buildA, putCells, ↓reduceIte, reduceCtorEq, okCell, Nat.reduceAdd, Nat.reduceEqDiff, Nat.reduceSub, Nat.reduceMul, Nat.reduceLeDiff, Nat.reduceLT, Nat.reduceBEq, PV.scal, PV.scalL, SV.scal, SV.scalL, Ob.scal, PV.isCell, pure', resO]
  refine loop_at (fun s : Q6 => mkEnv [(0, si i), (1, si m), (4, .p .nilsl), (5, si (j : Int)), (6, si i), (7, .ar 28), (8, match s.i with | 0 => .ar 29 | _ + 1 => .ar 56), (9, si (j : Int)), (10, si ((s.i + 1 : Nat) : Int)), (11, s.s11), (12, s.s12), (13, s.s13), (14, s.s14), (15, s.s15), (16, s.s16), (17, s.s17), (20, sb false), (32, sb false), (42, s.s42), (52, s.s52), (60, s.s60), (76, s.s76), (97, s.s97), (115, s.s115)]) (fun s => mkO [(14, s.o14), (28, some (.arr 1 (ints (tabG nk j s.i)))), (29, some (.arr 1 (ints (nz (lfG nk j 0))))), (48, s.o48), (49, none), (55, s.o55), (56, match s.i with | 0 => none | k + 1 => some (.arr 1 (ints (nz (lfG nk j (k + 1)))))), (103, s.o103), (104, none), (110, s.o110), (111, none)]) (fun s => s.i ≤ 6) (fun s => 6 - s.i) ⟨0, false, .junk, .junk, .junk, .junk, .junk, .junk, .junk, .junk, .junk, .junk, .junk, .junk, _, .junk, .junk, .junk, .junk, .junk, none, _, none, none, none, none⟩ (by simp) rfl rfl ?_
  rintro ⟨k, _, cs7, cs8, cs9, cs11, cs12, cs13, cs14, cs15, cs16, cs17, cs20, cs32, cs42, cs52, cs60, cs76, cs97, cs115, co14, co48, co55, co56, co103, co110⟩ hk R3 hR3 hN3
  simp only at hk
  by_cases h : 0 < (lfG nk j k).length
  · have hkR : k < 6 := by
      obtain ⟨key, hkey⟩ := List.exists_mem_of_length_pos h
      have := lfG_mem hkey
      have := htop key this.1
      omega
    have hw := wrap_one (i := k + 1) (by omega)
    have hll := lfG_len nk j k
    have hz0 := lfG_len nk j 0
    have h3' : ((lfG nk j k).length : Int) > 0 := by omega
    cases k with
    | zero =>
      simp only [h3', nz_len, ints_len, ↓SP, SQ, Gam.add, stepM, callC, argC, lendO, nmBy, nmC, likeL, likeB, plainOb, offs, exL, X, F, trP, trO, stepD, stepW, newA, SV.tr, SV.trL, fz, allP, Ob.tr, loadA, cellsA, SV.cells, binA, binI, eqOut, isSl, isPt, natOf, callee, snap, SV.refsL, SV.refs, thaw, fzAll, loA, hiA, elemOf, partsA, buildA, putCells, ↓reduceIte, reduceCtorEq, okCell, Nat.reduceAdd, Nat.reduceEqDiff, Nat.reduceSub, Nat.reduceMul, Nat.reduceLeDiff, Nat.reduceLT, Nat.reduceBEq, PV.scal, PV.scalL, SV.scal, SV.scalL, Ob.scal, PV.isCell, pure', resO]
      refine loop_at (fun s : Q6 => mkEnv [(0, si i), (1, si m), (4, .p .nilsl), (5, si (j : Int)), (6, si i), (7, .ar 28), (8, .ar 29), (9, si (j : Int)), (10, si ((1 : Nat) : Int)), (11, .ar 55), (12, .ar 56), (13, si s.i), (14, s.s14), (15, s.s15), (16, s.s16), (17, s.s17), (20, sb false), (32, sb false), (42, s.s42), (52, sb true), (60, s.s60), (76, s.s76), (97, s.s97), (115, s.s115)]) (fun s => mkO [(14, s.o14), (28, some (.arr 1 (ints (tabG nk j (0))))), (29, some (.arr 1 (ints (nz (lfG nk j 0))))), (48, s.o48), (49, none), (55, some (.arr 1 (ints (nz (((lfG nk j (0)).take s.i).filter fun key => decide (nk key ≤ 1)))))), (56, some (.arr 1 (ints (nz (((lfG nk j (0)).take s.i).filter fun key => !decide (nk key ≤ 1)))))), (103, s.o103), (104, none), (110, s.o110), (111, none)]) (fun s => s.i ≤ (lfG nk j (0)).length) (fun s => (lfG nk j (0)).length - s.i) ⟨0, false, .junk, .junk, .junk, .junk, .junk, .junk, _, _, _, _, .junk, .junk, _, .junk, _, _, _, _, _, _, none, none, _, _⟩ (by simp) rfl rfl ?_
      rintro ⟨i2, _, ds7, ds8, ds9, ds11, ds12, ds13, ds14, ds15, ds16, ds17, ds20, ds32, ds42, ds52, ds60, ds76, ds97, ds115, do14, do48, do55, do56, do103, do110⟩ hi2 R4 hR4 hN4
      simp only at hi2
      by_cases hlt : i2 < (lfG nk j (0)).length
      · have h4 : (i2 : Int) < (lfG nk j (0)).length := by omega
        have hi3 : i2 < (lfG nk j (0)).length := hlt
        have hwi := wrap_one (i := i2) (by omega)
        obtain ⟨key, hkey⟩ : ∃ key, (lfG nk j (0)).getD i2 0 = key := ⟨_, rfl⟩
        have hmem := lfG_mem (nk := nk) (T := j) (k := 0) (key := key) (by rw [← hkey, getD_lt hlt]; exact List.getElem_mem hlt)
        have hgk := nz_get hlt
        rw [hkey] at hgk
        have hk0 : (0 : Int) ≤ (key : Int) := by omega
        have hk1 : (key : Int) ≤ 1000000 := by omega
        have hq0 := take_one (lfG nk j (0)) i2 0 hlt
        rw [hkey] at hq0
        have hs := hsh key
        have hdl := dgB_len b i key
        have hnkk := hnk key
        have hopen : ¬ (opens (dgB b i key)).length < 2 := fun g => by
          have := (CS.of hs).zero g
          omega
        have hany := rnd_any hs hopen (0 : Nat) (by omega)
        generalize hxe : dgB b i key = x at *
        have C := CS.of hs
        have htl := tabG_len nk j (0)
        simp only [h4, hi3, hgk, hk0, hk1, hn1', hn5', hm0, hm1, hb, hxe, nz_len, ints_len, Int.toNat_natCast, isI_ints, ofI_ints, h_l6Of, c_l6Of, ↓SP, SQ, Gam.add, stepM, callC, argC, lendO, nmBy, nmC, likeL, likeB, plainOb, offs, exL, X, F, trP, trO, stepD, stepW, newA, SV.tr, SV.trL, fz, allP, Ob.tr, loadA, cellsA, SV.cells, binA, binI, eqOut, isSl, isPt, natOf, callee, snap, SV.refsL, SV.refs, thaw, fzAll, loA, hiA, elemOf, partsA, buildA, putCells, ↓reduceIte, reduceCtorEq, okCell, Nat.reduceAdd, Nat.reduceEqDiff, Nat.reduceSub, Nat.reduceMul, Nat.reduceLeDiff, Nat.reduceLT, Nat.reduceBEq, PV.scal, PV.scalL, SV.scal, SV.scalL, Ob.scal, PV.isCell, pure', resO]
        refine loop_at (fun s : Q6 => mkEnv [(0, si i), (1, si m), (4, .p .nilsl), (5, si (j : Int)), (6, si i), (7, .ar 28), (8, .ar 29), (9, si (j : Int)), (10, si ((1 : Nat) : Int)), (11, .ar 55), (12, .ar 56), (13, si i2), (14, .bx 14 0), (15, sb s.b), (16, si ((s.i + 1 : Nat) : Int)), (17, s.s17), (20, sb false), (32, sb false), (42, s.s42), (52, sb true), (60, sb true), (76, s.s76), (97, s.s97), (115, s.s115)]) (fun s => mkO [(14, some (.box [.p (.sl 1 (ints x)), si m])), (28, some (.arr 1 (ints (tabG nk j (0))))), (29, some (.arr 1 (ints (nz (lfG nk j 0))))), (48, s.o48), (49, none), (55, some (.arr 1 (ints (nz (((lfG nk j (0)).take i2).filter fun key => decide (nk key ≤ 1)))))), (56, some (.arr 1 (ints (nz (((lfG nk j (0)).take i2).filter fun key => !decide (nk key ≤ 1)))))), (103, s.o103), (104, none), (110, s.o110), (111, none)]) (fun s => s.i < i ∧ if s.b = true then 1 ≤ s.i ∧ hitR m x (0) (s.i - 1) = true else ∀ q, q < s.i → hitR m x (0) q = false) (fun s => if s.b = true then 0 else i - s.i) ⟨0, false, .junk, .junk, .junk, .junk, .junk, .junk, .junk, .junk, .junk, _, .junk, .junk, _, .junk, .junk, _, _, _, none, _, none, none, _, _⟩ (by simp; omega) rfl rfl ?_
        rintro ⟨q, bb, fs7, fs8, fs9, fs11, fs12, fs13, fs14, fs15, fs16, fs17, fs20, fs32, fs42, fs52, fs60, fs76, fs97, fs115, fo14, fo48, fo55, fo56, fo103, fo110⟩ ⟨hqi, hqb⟩ R6 hR6 hN6
        simp only at hqi hqb
        have hfin : ∀ v : Bool, v = decide (nk key ≤ 1) → bb = v → True := fun _ _ _ => trivial
        by_cases hgo : q + 1 < i ∧ bb = false
        · obtain ⟨hg1, rfl⟩ := hgo
          simp only [Bool.false_eq_true, if_false] at hqb
          have h6 : ((q + 1 : Nat) : Int) < (i : Int) := by omega
          have hwq := wrap_one (i := q + 1) (by omega)
          have h05 : (0 : Int) ≤ ((q + 1 : Nat) : Int) ∧ ((q + 1 : Nat) : Int) ≤ 5 := by omega
          have hsT := C.sh (q + 1) (by omega) (by omega) true
          have hsF := C.sh (q + 1) (by omega) (by omega) false
          obtain ⟨a1, a2, a3⟩ := hky _ hsT (by rw [aftL_len]; exact hdl)
          obtain ⟨b1, b2, b3⟩ := hky _ hsF (by rw [aftL_len]; exact hdl)
          have ga := tabG_get (nk := nk) (k := 0) a2
          have gb := tabG_get (nk := nk) (k := 0) b2
          have la := (CS.of hsT).lt
          have lb := (CS.of hsF).lt
          by_cases q1 : lnT m (aftL m (q + 1) true x) ≤ ((0 : Nat) : Int)
          · have v1 : valG nk (0) (kyL (m + 2) (aftL m (q + 1) true x)).toNat = lnT m (aftL m (q + 1) true x) := by rw [valG, if_pos (by omega), a1]
            rw [v1] at ga
            have p1 : lnT m (aftL m (q + 1) true x) ≥ 0 := la.1
            by_cases q2 : lnT m (aftL m (q + 1) false x) ≤ ((0 : Nat) : Int)
            · have v2 : valG nk (0) (kyL (m + 2) (aftL m (q + 1) false x)).toNat = lnT m (aftL m (q + 1) false x) := by rw [valG, if_pos (by omega), b1]
              rw [v2] at gb
              have p2 : lnT m (aftL m (q + 1) false x) ≥ 0 := lb.1
              have hh : hitR m x (0) q = true := by simp only [hitR, dec_t q1, dec_t q2]; rfl
              simp only [h6, hwq, h05, hs, hsT, hsF, a2, a3, b2, b3, ga, gb, p1, p2, htl, Int.toNat_natCast, ints_len, isI_ints, ofI_ints, h_l6After, c_l6After, h_l6Key, c_l6Key, ↓SP, SQ, Gam.add, stepM, callC, argC, lendO, nmBy, nmC, likeL, likeB, plainOb, offs, exL, X, F, trP, trO, stepD, stepW, newA, SV.tr, SV.trL, fz, allP, Ob.tr, loadA, cellsA, SV.cells, binA, binI, eqOut, isSl, isPt, natOf, callee, snap, SV.refsL, SV.refs, thaw, fzAll, loA, hiA, elemOf, partsA, buildA, putCells, ↓reduceIte, reduceCtorEq, okCell, Nat.reduceAdd, Nat.reduceEqDiff, Nat.reduceSub, Nat.reduceMul, Nat.reduceLeDiff, Nat.reduceLT, Nat.reduceBEq, PV.scal, PV.scalL, SV.scal, SV.scalL, Ob.scal, PV.isCell, pure', resO]
              exact hN6 ⟨q + 1, true, .junk, .junk, .junk, .junk, .junk, .junk, .junk, .junk, .junk, _, .junk, .junk, _, .junk, .junk, _, _, _, none, _, none, none, _, _⟩ _ _ (by simp only [if_true]; exact ⟨by omega, by omega, hh⟩) (by simp only [if_true, Bool.false_eq_true, if_false]; omega) rfl rfl
            · have v2 : valG nk (0) (kyL (m + 2) (aftL m (q + 1) false x)).toNat = -1 := by rw [valG, if_neg (by omega)]
              rw [v2] at gb
              have p2 : ¬ (-1 : Int) ≥ 0 := by omega
              have hh : hitR m x (0) q = false := by simp only [hitR, dec_f q2, Bool.and_false]
              simp only [h6, hwq, h05, hs, hsT, hsF, a2, a3, b2, b3, ga, gb, p1, p2, htl, Int.toNat_natCast, ints_len, isI_ints, ofI_ints, h_l6After, c_l6After, h_l6Key, c_l6Key, ↓SP, SQ, Gam.add, stepM, callC, argC, lendO, nmBy, nmC, likeL, likeB, plainOb, offs, exL, X, F, trP, trO, stepD, stepW, newA, SV.tr, SV.trL, fz, allP, Ob.tr, loadA, cellsA, SV.cells, binA, binI, eqOut, isSl, isPt, natOf, callee, snap, SV.refsL, SV.refs, thaw, fzAll, loA, hiA, elemOf, partsA, buildA, putCells, ↓reduceIte, reduceCtorEq, okCell, Nat.reduceAdd, Nat.reduceEqDiff, Nat.reduceSub, Nat.reduceMul, Nat.reduceLeDiff, Nat.reduceLT, Nat.reduceBEq, PV.scal, PV.scalL, SV.scal, SV.scalL, Ob.scal, PV.isCell, pure', resO]
              exact hN6 ⟨q + 1, false, .junk, .junk, .junk, .junk, .junk, .junk, .junk, .junk, .junk, _, .junk, .junk, _, .junk, .junk, _, _, _, none, _, none, none, _, _⟩ _ _ (by simp only [Bool.false_eq_true, if_false]; refine ⟨by omega, fun q' hq' => ?_⟩; by_cases e : q' = q; { subst e; exact hh }; exact hqb q' (by omega)) (by simp only [Bool.false_eq_true, if_false]; omega) rfl rfl
          · have v1 : valG nk (0) (kyL (m + 2) (aftL m (q + 1) true x)).toNat = -1 := by rw [valG, if_neg (by omega)]
            rw [v1] at ga
            have p1 : ¬ (-1 : Int) ≥ 0 := by omega
            have hh : hitR m x (0) q = false := by simp only [hitR, dec_f q1, Bool.false_and]
            simp only [h6, hwq, h05, hs, hsT, hsF, a2, a3, ga, p1, htl, Int.toNat_natCast, ints_len, isI_ints, ofI_ints, h_l6After, c_l6After, h_l6Key, c_l6Key, ↓SP, SQ, Gam.add, stepM, callC, argC, lendO, nmBy, nmC, likeL, likeB, plainOb, offs, exL, X, F, trP, trO, stepD, stepW, newA, SV.tr, SV.trL, fz, allP, Ob.tr, loadA, cellsA, SV.cells, binA, binI, eqOut, isSl, isPt, natOf, callee, snap, SV.refsL, SV.refs, thaw, fzAll, loA, hiA, elemOf, partsA, buildA, putCells, ↓reduceIte, reduceCtorEq, okCell, Nat.reduceAdd, Nat.reduceEqDiff, Nat.reduceSub, Nat.reduceMul, Nat.reduceLeDiff, Nat.reduceLT, Nat.reduceBEq, PV.scal, PV.scalL, SV.scal, SV.scalL, Ob.scal, PV.isCell, pure', resO]
            exact hN6 ⟨q + 1, false, .junk, .junk, .junk, .junk, .junk, .junk, .junk, .junk, .junk, _, .junk, .junk, _, .junk, .junk, _, _, _, none, _, none, none, _, _⟩ _ _ (by simp only [Bool.false_eq_true, if_false]; refine ⟨by omega, fun q' hq' => ?_⟩; by_cases e : q' = q; { subst e; exact hh }; exact hqb q' (by omega)) (by simp only [Bool.false_eq_true, if_false]; omega) rfl rfl
        have hbb : bb = decide (nk key ≤ 1) := by
          have hd : decide (nk key ≤ 1) = decide (lnT m x ≤ ((0 : Nat) : Int) + 1) := by
            rw [Bool.eq_iff_iff, decide_eq_true_eq, decide_eq_true_eq]; omega
          rw [hd, ← hany]
          cases bb with
          | true =>
            simp only [if_true] at hqb
            symm
            rw [List.any_eq_true]
            exact ⟨q - 1, List.mem_range.2 (by omega), hqb.2⟩
          | false =>
            simp only [Bool.false_eq_true, if_false] at hqb
            symm
            rw [List.any_eq_false]
            intro q' hq'
            have := List.mem_range.1 hq'
            have hqe : ¬ q + 1 < i := fun g => hgo ⟨g, rfl⟩
            have h0 := hqb q' (by omega)
            simp only [hitR] at h0
            rw [h0]; simp
        have hstop : ((if ((q + 1 : Nat) : Int) < (i : Int) then !bb else false) : Bool) = false := by
          split
          · have : bb ≠ false := fun e => hgo ⟨by omega, e⟩
            cases bb with
            | true => rfl
            | false => exact absurd rfl this
          · rfl
        by_cases hnt : nk key ≤ 1
        · rw [dec_t hnt] at hbb
          subst hbb
          have hapx : (((lfG nk j (0)).take i2).filter fun key => decide (nk key ≤ 1)) ++ [key] = ((lfG nk j (0)).take (i2 + 1)).filter fun key => decide (nk key ≤ 1) := by
            rw [hq0, List.filter_append]; simp only [List.filter_cons, dec_t hnt, List.filter_nil, if_true]
          have hsm : ((lfG nk j (0)).take (i2 + 1)).filter (fun key => !decide (nk key ≤ 1)) = ((lfG nk j (0)).take i2).filter fun key => !decide (nk key ≤ 1) := by
            rw [hq0, List.filter_append]; simp only [List.filter_cons, dec_t hnt, Bool.not_true, List.filter_nil, Bool.false_eq_true, if_false, List.append_nil]
          have hfl : (((lfG nk j (0)).take i2).filter fun key => decide (nk key ≤ 1)).length + 1 ≤ roomA := by
            have := List.length_filter_le (fun key => decide (nk key ≤ 1)) ((lfG nk j (0)).take i2)
            rw [List.length_take] at this
            unfold roomA; omega
          by_cases hqn : q + 1 < i
          · have hq2 : ((q + 1 : Nat) : Int) < (i : Int) := by omega
            simp only [hq2, ↓SP, SQ, Gam.add, stepM, callC, argC, lendO, nmBy, nmC, likeL, likeB, plainOb, offs, exL, X, F, trP, trO, stepD, stepW, newA, SV.tr, SV.trL, fz, allP, Ob.tr, loadA, cellsA, SV.cells, binA, binI, eqOut, isSl, isPt, natOf, callee, snap, SV.refsL, SV.refs, thaw, fzAll, loA, hiA, elemOf, partsA, buildA, putCells, ↓reduceIte, reduceCtorEq, okCell, Nat.reduceAdd, Nat.reduceEqDiff, Nat.reduceSub, Nat.reduceMul, Nat.reduceLeDiff, Nat.reduceLT, Nat.reduceBEq, PV.scal, PV.scalL, SV.scal, SV.scalL, Ob.scal, PV.isCell, pure', resO]
            refine hR6 _ _ _ (by intro h; cases h) ?_
            simp only [h4, hi3, hgk, hwi, hapx, hfl, nz_len, nz_app, ints_len, ints_app1, ints_cell, Int.toNat_natCast, ↓SP, SQ, Gam.add, stepM, callC, argC, lendO, nmBy, nmC, likeL, likeB, plainOb, offs, exL, X, F, trP, trO, stepD, stepW, newA, SV.tr, SV.trL, fz, allP, Ob.tr, loadA, cellsA, SV.cells, binA, binI, eqOut, isSl, isPt, natOf, callee, snap, SV.refsL, SV.refs, thaw, fzAll, loA, hiA, elemOf, partsA, buildA, putCells, ↓reduceIte, reduceCtorEq, okCell, Nat.reduceAdd, Nat.reduceEqDiff, Nat.reduceSub, Nat.reduceMul, Nat.reduceLeDiff, Nat.reduceLT, Nat.reduceBEq, PV.scal, PV.scalL, SV.scal, SV.scalL, Ob.scal, PV.isCell, pure', resO]
            exact hN4 ⟨i2 + 1, false, .junk, .junk, .junk, .junk, .junk, .junk, _, _, _, _, .junk, .junk, _, .junk, _, _, _, _, _, _, none, none, _, _⟩ _ _ (by simp only; omega) (by simp only; omega) rfl (by rw [hsm])
          · have hq2 : ¬ ((q + 1 : Nat) : Int) < (i : Int) := by omega
            simp only [hq2, ↓SP, SQ, Gam.add, stepM, callC, argC, lendO, nmBy, nmC, likeL, likeB, plainOb, offs, exL, X, F, trP, trO, stepD, stepW, newA, SV.tr, SV.trL, fz, allP, Ob.tr, loadA, cellsA, SV.cells, binA, binI, eqOut, isSl, isPt, natOf, callee, snap, SV.refsL, SV.refs, thaw, fzAll, loA, hiA, elemOf, partsA, buildA, putCells, ↓reduceIte, reduceCtorEq, okCell, Nat.reduceAdd, Nat.reduceEqDiff, Nat.reduceSub, Nat.reduceMul, Nat.reduceLeDiff, Nat.reduceLT, Nat.reduceBEq, PV.scal, PV.scalL, SV.scal, SV.scalL, Ob.scal, PV.isCell, pure', resO]
            refine hR6 _ _ _ (by intro h; cases h) ?_
            simp only [h4, hi3, hgk, hwi, hapx, hfl, nz_len, nz_app, ints_len, ints_app1, ints_cell, Int.toNat_natCast, ↓SP, SQ, Gam.add, stepM, callC, argC, lendO, nmBy, nmC, likeL, likeB, plainOb, offs, exL, X, F, trP, trO, stepD, stepW, newA, SV.tr, SV.trL, fz, allP, Ob.tr, loadA, cellsA, SV.cells, binA, binI, eqOut, isSl, isPt, natOf, callee, snap, SV.refsL, SV.refs, thaw, fzAll, loA, hiA, elemOf, partsA, buildA, putCells, ↓reduceIte, reduceCtorEq, okCell, Nat.reduceAdd, Nat.reduceEqDiff, Nat.reduceSub, Nat.reduceMul, Nat.reduceLeDiff, Nat.reduceLT, Nat.reduceBEq, PV.scal, PV.scalL, SV.scal, SV.scalL, Ob.scal, PV.isCell, pure', resO]
            exact hN4 ⟨i2 + 1, false, .junk, .junk, .junk, .junk, .junk, .junk, _, _, _, _, .junk, .junk, _, .junk, _, _, _, _, _, _, none, none, _, _⟩ _ _ (by simp only; omega) (by simp only; omega) rfl (by rw [hsm])
        · rw [dec_f hnt] at hbb
          subst hbb
          have hapx : (((lfG nk j (0)).take i2).filter fun key => !decide (nk key ≤ 1)) ++ [key] = ((lfG nk j (0)).take (i2 + 1)).filter fun key => !decide (nk key ≤ 1) := by
            rw [hq0, List.filter_append]; simp only [List.filter_cons, dec_f hnt, Bool.not_false, List.filter_nil, if_true]
          have hsm : ((lfG nk j (0)).take (i2 + 1)).filter (fun key => decide (nk key ≤ 1)) = ((lfG nk j (0)).take i2).filter fun key => decide (nk key ≤ 1) := by
            rw [hq0, List.filter_append]; simp only [List.filter_cons, dec_f hnt, List.filter_nil, Bool.false_eq_true, if_false, List.append_nil]
          have hfl : (((lfG nk j (0)).take i2).filter fun key => !decide (nk key ≤ 1)).length + 1 ≤ roomA := by
            have := List.length_filter_le (fun key => !decide (nk key ≤ 1)) ((lfG nk j (0)).take i2)
            rw [List.length_take] at this
            unfold roomA; omega
          by_cases hqn : q + 1 < i
          · have hq2 : ((q + 1 : Nat) : Int) < (i : Int) := by omega
            exact absurd ⟨hqn, rfl⟩ hgo
          · have hq2 : ¬ ((q + 1 : Nat) : Int) < (i : Int) := by omega
            simp only [hq2, ↓SP, SQ, Gam.add, stepM, callC, argC, lendO, nmBy, nmC, likeL, likeB, plainOb, offs, exL, X, F, trP, trO, stepD, stepW, newA, SV.tr, SV.trL, fz, allP, Ob.tr, loadA, cellsA, SV.cells, binA, binI, eqOut, isSl, isPt, natOf, callee, snap, SV.refsL, SV.refs, thaw, fzAll, loA, hiA, elemOf, partsA, buildA, putCells, ↓reduceIte, reduceCtorEq, okCell, Nat.reduceAdd, Nat.reduceEqDiff, Nat.reduceSub, Nat.reduceMul, Nat.reduceLeDiff, Nat.reduceLT, Nat.reduceBEq, PV.scal, PV.scalL, SV.scal, SV.scalL, Ob.scal, PV.isCell, pure', resO]
            refine hR6 _ _ _ (by intro h; cases h) ?_
            simp only [h4, hi3, hgk, hwi, hapx, hfl, nz_len, nz_app, ints_len, ints_app1, ints_cell, Int.toNat_natCast, ↓SP, SQ, Gam.add, stepM, callC, argC, lendO, nmBy, nmC, likeL, likeB, plainOb, offs, exL, X, F, trP, trO, stepD, stepW, newA, SV.tr, SV.trL, fz, allP, Ob.tr, loadA, cellsA, SV.cells, binA, binI, eqOut, isSl, isPt, natOf, callee, snap, SV.refsL, SV.refs, thaw, fzAll, loA, hiA, elemOf, partsA, buildA, putCells, ↓reduceIte, reduceCtorEq, okCell, Nat.reduceAdd, Nat.reduceEqDiff, Nat.reduceSub, Nat.reduceMul, Nat.reduceLeDiff, Nat.reduceLT, Nat.reduceBEq, PV.scal, PV.scalL, SV.scal, SV.scalL, Ob.scal, PV.isCell, pure', resO]
            exact hN4 ⟨i2 + 1, false, .junk, .junk, .junk, .junk, .junk, .junk, _, _, _, _, .junk, .junk, _, .junk, _, _, _, _, _, _, none, none, _, _⟩ _ _ (by simp only; omega) (by simp only; omega) rfl (by rw [hsm])
      have hi2e : i2 = (lfG nk j (0)).length := by omega
      have h4 : ¬ ((lfG nk j (0)).length : Int) < (lfG nk j (0)).length := by omega
      subst hi2e
      have hmore : ((lfG nk j (0)).take (lfG nk j (0)).length).filter (fun key => !decide (nk key ≤ 1)) = lfG nk j (1) := by rw [List.take_length, lfG_next]
      obtain ⟨fnd, hfnd⟩ : ∃ fnd, ((lfG nk j (0)).take (lfG nk j (0)).length).filter (fun key => decide (nk key ≤ 1)) = fnd := ⟨_, rfl⟩
      have hfl1 : fnd.length ≤ j := by
        rw [← hfnd]
        have := List.length_filter_le (fun key => decide (nk key ≤ 1)) ((lfG nk j (0)).take (lfG nk j (0)).length)
        rw [List.take_length] at this
        rw [List.take_length]; omega
      have hfm : ∀ x ∈ fnd, x < j := fun x hx => by
        rw [← hfnd] at hx
        exact (lfG_mem (List.mem_of_mem_take (List.mem_filter.1 hx).1)).1
      have hB0 := stG_0 nk j (0)
      simp only [h4, nz_len, ints_len, ↓SP, SQ, Gam.add, stepM, callC, argC, lendO, nmBy, nmC, likeL, likeB, plainOb, offs, exL, X, F, trP, trO, stepD, stepW, newA, SV.tr, SV.trL, fz, allP, Ob.tr, loadA, cellsA, SV.cells, binA, binI, eqOut, isSl, isPt, natOf, callee, snap, SV.refsL, SV.refs, thaw, fzAll, loA, hiA, elemOf, partsA, buildA, putCells, ↓reduceIte, reduceCtorEq, okCell, Nat.reduceAdd, Nat.reduceEqDiff, Nat.reduceSub, Nat.reduceMul, Nat.reduceLeDiff, Nat.reduceLT, Nat.reduceBEq, PV.scal, PV.scalL, SV.scal, SV.scalL, Ob.scal, PV.isCell, pure', resO]
      refine hR4 _ _ _ (by intro h; cases h) ?_
      simp only [hmore, hfnd, ↓SP, SQ, Gam.add, stepM, callC, argC, lendO, nmBy, nmC, likeL, likeB, plainOb, offs, exL, X, F, trP, trO, stepD, stepW, newA, SV.tr, SV.trL, fz, allP, Ob.tr, loadA, cellsA, SV.cells, binA, binI, eqOut, isSl, isPt, natOf, callee, snap, SV.refsL, SV.refs, thaw, fzAll, loA, hiA, elemOf, partsA, buildA, putCells, ↓reduceIte, reduceCtorEq, okCell, Nat.reduceAdd, Nat.reduceEqDiff, Nat.reduceSub, Nat.reduceMul, Nat.reduceLeDiff, Nat.reduceLT, Nat.reduceBEq, PV.scal, PV.scalL, SV.scal, SV.scalL, Ob.scal, PV.isCell, pure', resO]
      refine loop_at (fun s : Q6 => mkEnv [(0, si i), (1, si m), (4, .p .nilsl), (5, si (j : Int)), (6, si i), (7, .ar 28), (8, .ar 29), (9, si (j : Int)), (10, si ((1 : Nat) : Int)), (11, .ar 55), (12, .ar 56), (13, si (lfG nk j (0)).length), (14, s.s14), (15, s.s15), (16, s.s16), (17, si s.i), (20, sb false), (32, sb false), (42, s.s42), (52, sb true), (60, sb false), (76, s.s76), (97, s.s97), (115, s.s115)]) (fun s => mkO [(14, s.o14), (28, some (.arr 1 (ints (stG nk j (0) (fnd.take s.i))))), (29, some (.arr 1 (ints (nz (lfG nk j 0))))), (48, s.o48), (49, none), (55, some (.arr 1 (ints (nz fnd)))), (56, some (.arr 1 (ints (nz (lfG nk j (1)))))), (103, s.o103), (104, none), (110, s.o110), (111, none)]) (fun s => s.i ≤ fnd.length) (fun s => fnd.length - s.i) ⟨0, false, .junk, .junk, .junk, .junk, .junk, .junk, _, _, _, .junk, .junk, .junk, _, .junk, .junk, _, _, _, _, _, none, none, _, _⟩ (by simp) rfl (by simp only [List.take_zero, hB0]; try rfl) ?_
      rintro ⟨i3, _, gs7, gs8, gs9, gs11, gs12, gs13, gs14, gs15, gs16, gs17, gs20, gs32, gs42, gs52, gs60, gs76, gs97, gs115, go14, go48, go55, go56, go103, go110⟩ hi3 R5 hR5 hN5
      simp only at hi3
      by_cases hlt : i3 < fnd.length
      · have h5 : (i3 : Int) < fnd.length := by omega
        have hwi := wrap_one (i := i3) (by omega)
        obtain ⟨key, hkey⟩ : ∃ key, fnd.getD i3 0 = key := ⟨_, rfl⟩
        have hkm := hfm key (by rw [← hkey, getD_lt hlt]; exact List.getElem_mem hlt)
        have hgk := nz_get hlt
        rw [hkey] at hgk
        have hk0 : (0 : Int) ≤ (key : Int) := by omega
        have hbl := stG_len nk j (0) (fnd.take i3)
        have hset := stG_one nk j (0) (fnd.take i3) key
        have ht1 := take_one fnd i3 0 hlt
        rw [hkey] at ht1
        rw [← ht1] at hset
        obtain ⟨e6, he6⟩ : ∃ e, (ints (stG nk j (0) (fnd.take i3)))[key]? = some e := ⟨_, List.getElem?_eq_getElem (by rw [ints_len, hbl]; exact hkm)⟩
        simp only [h5, hlt, hgk, hk0, hkm, hbl, hset, he6, hwi, nz_len, ints_len, ints_set, Int.toNat_natCast, ↓SP, SQ, Gam.add, stepM, callC, argC, lendO, nmBy, nmC, likeL, likeB, plainOb, offs, exL, X, F, trP, trO, stepD, stepW, newA, SV.tr, SV.trL, fz, allP, Ob.tr, loadA, cellsA, SV.cells, binA, binI, eqOut, isSl, isPt, natOf, callee, snap, SV.refsL, SV.refs, thaw, fzAll, loA, hiA, elemOf, partsA, buildA, putCells, ↓reduceIte, reduceCtorEq, okCell, Nat.reduceAdd, Nat.reduceEqDiff, Nat.reduceSub, Nat.reduceMul, Nat.reduceLeDiff, Nat.reduceLT, Nat.reduceBEq, PV.scal, PV.scalL, SV.scal, SV.scalL, Ob.scal, PV.isCell, pure', resO]
        exact hN5 ⟨i3 + 1, false, .junk, .junk, .junk, .junk, .junk, .junk, _, _, _, .junk, .junk, .junk, _, .junk, .junk, _, _, _, _, _, none, none, _, _⟩ _ _ (by simp only; omega) (by simp only; omega) rfl rfl
      have hi3e : i3 = fnd.length := by omega
      have h5 : ¬ (fnd.length : Int) < fnd.length := by omega
      subst hi3e
      have hend : stG nk j (0) (fnd.take fnd.length) = tabG nk j (1) := by
        rw [List.take_length, ← hfnd, List.take_length, stG_end]
      simp only [h5, nz_len, ints_len, ↓SP, SQ, Gam.add, stepM, callC, argC, lendO, nmBy, nmC, likeL, likeB, plainOb, offs, exL, X, F, trP, trO, stepD, stepW, newA, SV.tr, SV.trL, fz, allP, Ob.tr, loadA, cellsA, SV.cells, binA, binI, eqOut, isSl, isPt, natOf, callee, snap, SV.refsL, SV.refs, thaw, fzAll, loA, hiA, elemOf, partsA, buildA, putCells, ↓reduceIte, reduceCtorEq, okCell, Nat.reduceAdd, Nat.reduceEqDiff, Nat.reduceSub, Nat.reduceMul, Nat.reduceLeDiff, Nat.reduceLT, Nat.reduceBEq, PV.scal, PV.scalL, SV.scal, SV.scalL, Ob.scal, PV.isCell, pure', resO]
      refine hR5 _ _ _ (by intro h; cases h) ?_
      simp only [hend, hw, ↓SP, SQ, Gam.add, stepM, callC, argC, lendO, nmBy, nmC, likeL, likeB, plainOb, offs, exL, X, F, trP, trO, stepD, stepW, newA, SV.tr, SV.trL, fz, allP, Ob.tr, loadA, cellsA, SV.cells, binA, binI, eqOut, isSl, isPt, natOf, callee, snap, SV.refsL, SV.refs, thaw, fzAll, loA, hiA, elemOf, partsA, buildA, putCells, ↓reduceIte, reduceCtorEq, okCell, Nat.reduceAdd, Nat.reduceEqDiff, Nat.reduceSub, Nat.reduceMul, Nat.reduceLeDiff, Nat.reduceLT, Nat.reduceBEq, PV.scal, PV.scalL, SV.scal, SV.scalL, Ob.scal, PV.isCell, pure', resO]
      exact hN3 ⟨1, false, .junk, .junk, .junk, _, _, _, _, _, _, _, .junk, .junk, _, _, _, _, _, _, _, _, _, none, _, _⟩ _ _ (by simp only; omega) (by simp only; omega) rfl rfl
    | succ k =>
      simp only [h3', nz_len, ints_len, ↓SP, SQ, Gam.add, stepM, callC, argC, lendO, nmBy, nmC, likeL, likeB, plainOb, offs, exL, X, F, trP, trO, stepD, stepW, newA, SV.tr, SV.trL, fz, allP, Ob.tr, loadA, cellsA, SV.cells, binA, binI, eqOut, isSl, isPt, natOf, callee, snap, SV.refsL, SV.refs, thaw, fzAll, loA, hiA, elemOf, partsA, buildA, putCells, ↓reduceIte, reduceCtorEq, okCell, Nat.reduceAdd, Nat.reduceEqDiff, Nat.reduceSub, Nat.reduceMul, Nat.reduceLeDiff, Nat.reduceLT, Nat.reduceBEq, PV.scal, PV.scalL, SV.scal, SV.scalL, Ob.scal, PV.isCell, pure', resO]
      refine loop_at (fun s : Q6 => mkEnv [(0, si i), (1, si m), (4, .p .nilsl), (5, si (j : Int)), (6, si i), (7, .ar 28), (8, .p (.sl 1 (ints (nz (lfG nk j (k + 1)))))), (9, si (j : Int)), (10, si ((k + 1 + 1 : Nat) : Int)), (11, .ar 55), (12, .ar 56), (13, si s.i), (14, s.s14), (15, s.s15), (16, s.s16), (17, s.s17), (20, sb false), (32, sb false), (42, s.s42), (52, sb true), (60, s.s60), (76, s.s76), (97, s.s97), (115, s.s115)]) (fun s => mkO [(14, s.o14), (28, some (.arr 1 (ints (tabG nk j (k + 1))))), (29, some (.arr 1 (ints (nz (lfG nk j 0))))), (48, s.o48), (49, none), (55, some (.arr 1 (ints (nz (((lfG nk j (k + 1)).take s.i).filter fun key => decide (nk key ≤ (k + 1) + 1)))))), (56, some (.arr 1 (ints (nz (((lfG nk j (k + 1)).take s.i).filter fun key => !decide (nk key ≤ (k + 1) + 1)))))), (103, s.o103), (104, none), (110, s.o110), (111, none)]) (fun s => s.i ≤ (lfG nk j (k + 1)).length) (fun s => (lfG nk j (k + 1)).length - s.i) ⟨0, false, .junk, .junk, .junk, .junk, .junk, .junk, _, _, _, _, .junk, .junk, _, .junk, _, _, _, _, _, _, none, none, _, _⟩ (by simp) rfl rfl ?_
      rintro ⟨i2, _, ds7, ds8, ds9, ds11, ds12, ds13, ds14, ds15, ds16, ds17, ds20, ds32, ds42, ds52, ds60, ds76, ds97, ds115, do14, do48, do55, do56, do103, do110⟩ hi2 R4 hR4 hN4
      simp only at hi2
      by_cases hlt : i2 < (lfG nk j (k + 1)).length
      · have h4 : (i2 : Int) < (lfG nk j (k + 1)).length := by omega
        have hi3 : i2 < (lfG nk j (k + 1)).length := hlt
        have hwi := wrap_one (i := i2) (by omega)
        obtain ⟨key, hkey⟩ : ∃ key, (lfG nk j (k + 1)).getD i2 0 = key := ⟨_, rfl⟩
        have hmem := lfG_mem (nk := nk) (T := j) (k := k + 1) (key := key) (by rw [← hkey, getD_lt hlt]; exact List.getElem_mem hlt)
        have hgk := nz_get hlt
        rw [hkey] at hgk
        have hk0 : (0 : Int) ≤ (key : Int) := by omega
        have hk1 : (key : Int) ≤ 1000000 := by omega
        have hq0 := take_one (lfG nk j (k + 1)) i2 0 hlt
        rw [hkey] at hq0
        have hs := hsh key
        have hdl := dgB_len b i key
        have hnkk := hnk key
        have hopen : ¬ (opens (dgB b i key)).length < 2 := fun g => by
          have := (CS.of hs).zero g
          omega
        have hany := rnd_any hs hopen (k + 1 : Nat) (by omega)
        generalize hxe : dgB b i key = x at *
        have C := CS.of hs
        have htl := tabG_len nk j (k + 1)
        simp only [h4, hi3, hgk, hk0, hk1, hn1', hn5', hm0, hm1, hb, hxe, nz_len, ints_len, Int.toNat_natCast, isI_ints, ofI_ints, h_l6Of, c_l6Of, ↓SP, SQ, Gam.add, stepM, callC, argC, lendO, nmBy, nmC, likeL, likeB, plainOb, offs, exL, X, F, trP, trO, stepD, stepW, newA, SV.tr, SV.trL, fz, allP, Ob.tr, loadA, cellsA, SV.cells, binA, binI, eqOut, isSl, isPt, natOf, callee, snap, SV.refsL, SV.refs, thaw, fzAll, loA, hiA, elemOf, partsA, buildA, putCells, ↓reduceIte, reduceCtorEq, okCell, Nat.reduceAdd, Nat.reduceEqDiff, Nat.reduceSub, Nat.reduceMul, Nat.reduceLeDiff, Nat.reduceLT, Nat.reduceBEq, PV.scal, PV.scalL, SV.scal, SV.scalL, Ob.scal, PV.isCell, pure', resO]
        refine loop_at (fun s : Q6 => mkEnv [(0, si i), (1, si m), (4, .p .nilsl), (5, si (j : Int)), (6, si i), (7, .ar 28), (8, .p (.sl 1 (ints (nz (lfG nk j (k + 1)))))), (9, si (j : Int)), (10, si ((k + 1 + 1 : Nat) : Int)), (11, .ar 55), (12, .ar 56), (13, si i2), (14, .bx 14 0), (15, sb s.b), (16, si ((s.i + 1 : Nat) : Int)), (17, s.s17), (20, sb false), (32, sb false), (42, s.s42), (52, sb true), (60, sb true), (76, s.s76), (97, s.s97), (115, s.s115)]) (fun s => mkO [(14, some (.box [.p (.sl 1 (ints x)), si m])), (28, some (.arr 1 (ints (tabG nk j (k + 1))))), (29, some (.arr 1 (ints (nz (lfG nk j 0))))), (48, s.o48), (49, none), (55, some (.arr 1 (ints (nz (((lfG nk j (k + 1)).take i2).filter fun key => decide (nk key ≤ (k + 1) + 1)))))), (56, some (.arr 1 (ints (nz (((lfG nk j (k + 1)).take i2).filter fun key => !decide (nk key ≤ (k + 1) + 1)))))), (103, s.o103), (104, none), (110, s.o110), (111, none)]) (fun s => s.i < i ∧ if s.b = true then 1 ≤ s.i ∧ hitR m x (k + 1) (s.i - 1) = true else ∀ q, q < s.i → hitR m x (k + 1) q = false) (fun s => if s.b = true then 0 else i - s.i) ⟨0, false, .junk, .junk, .junk, .junk, .junk, .junk, .junk, .junk, .junk, _, .junk, .junk, _, .junk, .junk, _, _, _, none, _, none, none, _, _⟩ (by simp; omega) rfl rfl ?_
        rintro ⟨q, bb, fs7, fs8, fs9, fs11, fs12, fs13, fs14, fs15, fs16, fs17, fs20, fs32, fs42, fs52, fs60, fs76, fs97, fs115, fo14, fo48, fo55, fo56, fo103, fo110⟩ ⟨hqi, hqb⟩ R6 hR6 hN6
        simp only at hqi hqb
        have hfin : ∀ v : Bool, v = decide (nk key ≤ (k + 1) + 1) → bb = v → True := fun _ _ _ => trivial
        by_cases hgo : q + 1 < i ∧ bb = false
        · obtain ⟨hg1, rfl⟩ := hgo
          simp only [Bool.false_eq_true, if_false] at hqb
          have h6 : ((q + 1 : Nat) : Int) < (i : Int) := by omega
          have hwq := wrap_one (i := q + 1) (by omega)
          have h05 : (0 : Int) ≤ ((q + 1 : Nat) : Int) ∧ ((q + 1 : Nat) : Int) ≤ 5 := by omega
          have hsT := C.sh (q + 1) (by omega) (by omega) true
          have hsF := C.sh (q + 1) (by omega) (by omega) false
          obtain ⟨a1, a2, a3⟩ := hky _ hsT (by rw [aftL_len]; exact hdl)
          obtain ⟨b1, b2, b3⟩ := hky _ hsF (by rw [aftL_len]; exact hdl)
          have ga := tabG_get (nk := nk) (k := k + 1) a2
          have gb := tabG_get (nk := nk) (k := k + 1) b2
          have la := (CS.of hsT).lt
          have lb := (CS.of hsF).lt
          by_cases q1 : lnT m (aftL m (q + 1) true x) ≤ ((k + 1 : Nat) : Int)
          · have v1 : valG nk (k + 1) (kyL (m + 2) (aftL m (q + 1) true x)).toNat = lnT m (aftL m (q + 1) true x) := by rw [valG, if_pos (by omega), a1]
            rw [v1] at ga
            have p1 : lnT m (aftL m (q + 1) true x) ≥ 0 := la.1
            by_cases q2 : lnT m (aftL m (q + 1) false x) ≤ ((k + 1 : Nat) : Int)
            · have v2 : valG nk (k + 1) (kyL (m + 2) (aftL m (q + 1) false x)).toNat = lnT m (aftL m (q + 1) false x) := by rw [valG, if_pos (by omega), b1]
              rw [v2] at gb
              have p2 : lnT m (aftL m (q + 1) false x) ≥ 0 := lb.1
              have hh : hitR m x (k + 1) q = true := by simp only [hitR, dec_t q1, dec_t q2]; rfl
              simp only [h6, hwq, h05, hs, hsT, hsF, a2, a3, b2, b3, ga, gb, p1, p2, htl, Int.toNat_natCast, ints_len, isI_ints, ofI_ints, h_l6After, c_l6After, h_l6Key, c_l6Key, ↓SP, SQ, Gam.add, stepM, callC, argC, lendO, nmBy, nmC, likeL, likeB, plainOb, offs, exL, X, F, trP, trO, stepD, stepW, newA, SV.tr, SV.trL, fz, allP, Ob.tr, loadA, cellsA, SV.cells, binA, binI, eqOut, isSl, isPt, natOf, callee, snap, SV.refsL, SV.refs, thaw, fzAll, loA, hiA, elemOf, partsA, buildA, putCells, ↓reduceIte, reduceCtorEq, okCell, Nat.reduceAdd, Nat.reduceEqDiff, Nat.reduceSub, Nat.reduceMul, Nat.reduceLeDiff, Nat.reduceLT, Nat.reduceBEq, PV.scal, PV.scalL, SV.scal, SV.scalL, Ob.scal, PV.isCell, pure', resO]
              exact hN6 ⟨q + 1, true, .junk, .junk, .junk, .junk, .junk, .junk, .junk, .junk, .junk, _, .junk, .junk, _, .junk, .junk, _, _, _, none, _, none, none, _, _⟩ _ _ (by simp only [if_true]; exact ⟨by omega, by omega, hh⟩) (by simp only [if_true, Bool.false_eq_true, if_false]; omega) rfl rfl
            · have v2 : valG nk (k + 1) (kyL (m + 2) (aftL m (q + 1) false x)).toNat = -1 := by rw [valG, if_neg (by omega)]
              rw [v2] at gb
              have p2 : ¬ (-1 : Int) ≥ 0 := by omega
              have hh : hitR m x (k + 1) q = false := by simp only [hitR, dec_f q2, Bool.and_false]
              simp only [h6, hwq, h05, hs, hsT, hsF, a2, a3, b2, b3, ga, gb, p1, p2, htl, Int.toNat_natCast, ints_len, isI_ints, ofI_ints, h_l6After, c_l6After, h_l6Key, c_l6Key, ↓SP, SQ, Gam.add, stepM, callC, argC, lendO, nmBy, nmC, likeL, likeB, plainOb, offs, exL, X, F, trP, trO, stepD, stepW, newA, SV.tr, SV.trL, fz, allP, Ob.tr, loadA, cellsA, SV.cells, binA, binI, eqOut, isSl, isPt, natOf, callee, snap, SV.refsL, SV.refs, thaw, fzAll, loA, hiA, elemOf, partsA, buildA, putCells, ↓reduceIte, reduceCtorEq, okCell, Nat.reduceAdd, Nat.reduceEqDiff, Nat.reduceSub, Nat.reduceMul, Nat.reduceLeDiff, Nat.reduceLT, Nat.reduceBEq, PV.scal, PV.scalL, SV.scal, SV.scalL, Ob.scal, PV.isCell, pure', resO]
              exact hN6 ⟨q + 1, false, .junk, .junk, .junk, .junk, .junk, .junk, .junk, .junk, .junk, _, .junk, .junk, _, .junk, .junk, _, _, _, none, _, none, none, _, _⟩ _ _ (by simp only [Bool.false_eq_true, if_false]; refine ⟨by omega, fun q' hq' => ?_⟩; by_cases e : q' = q; { subst e; exact hh }; exact hqb q' (by omega)) (by simp only [Bool.false_eq_true, if_false]; omega) rfl rfl
          · have v1 : valG nk (k + 1) (kyL (m + 2) (aftL m (q + 1) true x)).toNat = -1 := by rw [valG, if_neg (by omega)]
            rw [v1] at ga
            have p1 : ¬ (-1 : Int) ≥ 0 := by omega
            have hh : hitR m x (k + 1) q = false := by simp only [hitR, dec_f q1, Bool.false_and]
            simp only [h6, hwq, h05, hs, hsT, hsF, a2, a3, ga, p1, htl, Int.toNat_natCast, ints_len, isI_ints, ofI_ints, h_l6After, c_l6After, h_l6Key, c_l6Key, ↓SP, SQ, Gam.add, stepM, callC, argC, lendO, nmBy, nmC, likeL, likeB, plainOb, offs, exL, X, F, trP, trO, stepD, stepW, newA, SV.tr, SV.trL, fz, allP, Ob.tr, loadA, cellsA, SV.cells, binA, binI, eqOut, isSl, isPt, natOf, callee, snap, SV.refsL, SV.refs, thaw, fzAll, loA, hiA, elemOf, partsA, buildA, putCells, ↓reduceIte, reduceCtorEq, okCell, Nat.reduceAdd, Nat.reduceEqDiff, Nat.reduceSub, Nat.reduceMul, Nat.reduceLeDiff, Nat.reduceLT, Nat.reduceBEq, PV.scal, PV.scalL, SV.scal, SV.scalL, Ob.scal, PV.isCell, pure', resO]
            exact hN6 ⟨q + 1, false, .junk, .junk, .junk, .junk, .junk, .junk, .junk, .junk, .junk, _, .junk, .junk, _, .junk, .junk, _, _, _, none, _, none, none, _, _⟩ _ _ (by simp only [Bool.false_eq_true, if_false]; refine ⟨by omega, fun q' hq' => ?_⟩; by_cases e : q' = q; { subst e; exact hh }; exact hqb q' (by omega)) (by simp only [Bool.false_eq_true, if_false]; omega) rfl rfl
        have hbb : bb = decide (nk key ≤ (k + 1) + 1) := by
          have hd : decide (nk key ≤ (k + 1) + 1) = decide (lnT m x ≤ ((k + 1 : Nat) : Int) + 1) := by
            rw [Bool.eq_iff_iff, decide_eq_true_eq, decide_eq_true_eq]; omega
          rw [hd, ← hany]
          cases bb with
          | true =>
            simp only [if_true] at hqb
            symm
            rw [List.any_eq_true]
            exact ⟨q - 1, List.mem_range.2 (by omega), hqb.2⟩
          | false =>
            simp only [Bool.false_eq_true, if_false] at hqb
            symm
            rw [List.any_eq_false]
            intro q' hq'
            have := List.mem_range.1 hq'
            have hqe : ¬ q + 1 < i := fun g => hgo ⟨g, rfl⟩
            have h0 := hqb q' (by omega)
            simp only [hitR] at h0
            rw [h0]; simp
        have hstop : ((if ((q + 1 : Nat) : Int) < (i : Int) then !bb else false) : Bool) = false := by
          split
          · have : bb ≠ false := fun e => hgo ⟨by omega, e⟩
            cases bb with
            | true => rfl
            | false => exact absurd rfl this
          · rfl
        by_cases hnt : nk key ≤ (k + 1) + 1
        · rw [dec_t hnt] at hbb
          subst hbb
          have hapx : (((lfG nk j (k + 1)).take i2).filter fun key => decide (nk key ≤ (k + 1) + 1)) ++ [key] = ((lfG nk j (k + 1)).take (i2 + 1)).filter fun key => decide (nk key ≤ (k + 1) + 1) := by
            rw [hq0, List.filter_append]; simp only [List.filter_cons, dec_t hnt, List.filter_nil, if_true]
          have hsm : ((lfG nk j (k + 1)).take (i2 + 1)).filter (fun key => !decide (nk key ≤ (k + 1) + 1)) = ((lfG nk j (k + 1)).take i2).filter fun key => !decide (nk key ≤ (k + 1) + 1) := by
            rw [hq0, List.filter_append]; simp only [List.filter_cons, dec_t hnt, Bool.not_true, List.filter_nil, Bool.false_eq_true, if_false, List.append_nil]
          have hfl : (((lfG nk j (k + 1)).take i2).filter fun key => decide (nk key ≤ (k + 1) + 1)).length + 1 ≤ roomA := by
            have := List.length_filter_le (fun key => decide (nk key ≤ (k + 1) + 1)) ((lfG nk j (k + 1)).take i2)
            rw [List.length_take] at this
            unfold roomA; omega
          by_cases hqn : q + 1 < i
          · have hq2 : ((q + 1 : Nat) : Int) < (i : Int) := by omega
            simp only [hq2, ↓SP, SQ, Gam.add, stepM, callC, argC, lendO, nmBy, nmC, likeL, likeB, plainOb, offs, exL, X, F, trP, trO, stepD, stepW, newA, SV.tr, SV.trL, fz, allP, Ob.tr, loadA, cellsA, SV.cells, binA, binI, eqOut, isSl, isPt, natOf, callee, snap, SV.refsL, SV.refs, thaw, fzAll, loA, hiA, elemOf, partsA, buildA, putCells, ↓reduceIte, reduceCtorEq, okCell, Nat.reduceAdd, Nat.reduceEqDiff, Nat.reduceSub, Nat.reduceMul, Nat.reduceLeDiff, Nat.reduceLT, Nat.reduceBEq, PV.scal, PV.scalL, SV.scal, SV.scalL, Ob.scal, PV.isCell, pure', resO]
            refine hR6 _ _ _ (by intro h; cases h) ?_
            simp only [h4, hi3, hgk, hwi, hapx, hfl, nz_len, nz_app, ints_len, ints_app1, ints_cell, Int.toNat_natCast, ↓SP, SQ, Gam.add, stepM, callC, argC, lendO, nmBy, nmC, likeL, likeB, plainOb, offs, exL, X, F, trP, trO, stepD, stepW, newA, SV.tr, SV.trL, fz, allP, Ob.tr, loadA, cellsA, SV.cells, binA, binI, eqOut, isSl, isPt, natOf, callee, snap, SV.refsL, SV.refs, thaw, fzAll, loA, hiA, elemOf, partsA, buildA, putCells, ↓reduceIte, reduceCtorEq, okCell, Nat.reduceAdd, Nat.reduceEqDiff, Nat.reduceSub, Nat.reduceMul, Nat.reduceLeDiff, Nat.reduceLT, Nat.reduceBEq, PV.scal, PV.scalL, SV.scal, SV.scalL, Ob.scal, PV.isCell, pure', resO]
            exact hN4 ⟨i2 + 1, false, .junk, .junk, .junk, .junk, .junk, .junk, _, _, _, _, .junk, .junk, _, .junk, _, _, _, _, _, _, none, none, _, _⟩ _ _ (by simp only; omega) (by simp only; omega) rfl (by rw [hsm])
          · have hq2 : ¬ ((q + 1 : Nat) : Int) < (i : Int) := by omega
            simp only [hq2, ↓SP, SQ, Gam.add, stepM, callC, argC, lendO, nmBy, nmC, likeL, likeB, plainOb, offs, exL, X, F, trP, trO, stepD, stepW, newA, SV.tr, SV.trL, fz, allP, Ob.tr, loadA, cellsA, SV.cells, binA, binI, eqOut, isSl, isPt, natOf, callee, snap, SV.refsL, SV.refs, thaw, fzAll, loA, hiA, elemOf, partsA, buildA, putCells, ↓reduceIte, reduceCtorEq, okCell, Nat.reduceAdd, Nat.reduceEqDiff, Nat.reduceSub, Nat.reduceMul, Nat.reduceLeDiff, Nat.reduceLT, Nat.reduceBEq, PV.scal, PV.scalL, SV.scal, SV.scalL, Ob.scal, PV.isCell, pure', resO]
            refine hR6 _ _ _ (by intro h; cases h) ?_
            simp only [h4, hi3, hgk, hwi, hapx, hfl, nz_len, nz_app, ints_len, ints_app1, ints_cell, Int.toNat_natCast, ↓SP, SQ, Gam.add, stepM, callC, argC, lendO, nmBy, nmC, likeL, likeB, plainOb, offs, exL, X, F, trP, trO, stepD, stepW, newA, SV.tr, SV.trL, fz, allP, Ob.tr, loadA, cellsA, SV.cells, binA, binI, eqOut, isSl, isPt, natOf, callee, snap, SV.refsL, SV.refs, thaw, fzAll, loA, hiA, elemOf, partsA, buildA, putCells, ↓reduceIte, reduceCtorEq, okCell, Nat.reduceAdd, Nat.reduceEqDiff, Nat.reduceSub, Nat.reduceMul, Nat.reduceLeDiff, Nat.reduceLT, Nat.reduceBEq, PV.scal, PV.scalL, SV.scal, SV.scalL, Ob.scal, PV.isCell, pure', resO]
            exact hN4 ⟨i2 + 1, false, .junk, .junk, .junk, .junk, .junk, .junk, _, _, _, _, .junk, .junk, _, .junk, _, _, _, _, _, _, none, none, _, _⟩ _ _ (by simp only; omega) (by simp only; omega) rfl (by rw [hsm])
        · rw [dec_f hnt] at hbb
          subst hbb
          have hapx : (((lfG nk j (k + 1)).take i2).filter fun key => !decide (nk key ≤ (k + 1) + 1)) ++ [key] = ((lfG nk j (k + 1)).take (i2 + 1)).filter fun key => !decide (nk key ≤ (k + 1) + 1) := by
            rw [hq0, List.filter_append]; simp only [List.filter_cons, dec_f hnt, Bool.not_false, List.filter_nil, if_true]
          have hsm : ((lfG nk j (k + 1)).take (i2 + 1)).filter (fun key => decide (nk key ≤ (k + 1) + 1)) = ((lfG nk j (k + 1)).take i2).filter fun key => decide (nk key ≤ (k + 1) + 1) := by
            rw [hq0, List.filter_append]; simp only [List.filter_cons, dec_f hnt, List.filter_nil, Bool.false_eq_true, if_false, List.append_nil]
          have hfl : (((lfG nk j (k + 1)).take i2).filter fun key => !decide (nk key ≤ (k + 1) + 1)).length + 1 ≤ roomA := by
            have := List.length_filter_le (fun key => !decide (nk key ≤ (k + 1) + 1)) ((lfG nk j (k + 1)).take i2)
            rw [List.length_take] at this
            unfold roomA; omega
          by_cases hqn : q + 1 < i
          · have hq2 : ((q + 1 : Nat) : Int) < (i : Int) := by omega
            exact absurd ⟨hqn, rfl⟩ hgo
          · have hq2 : ¬ ((q + 1 : Nat) : Int) < (i : Int) := by omega
            simp only [hq2, ↓SP, SQ, Gam.add, stepM, callC, argC, lendO, nmBy, nmC, likeL, likeB, plainOb, offs, exL, X, F, trP, trO, stepD, stepW, newA, SV.tr, SV.trL, fz, allP, Ob.tr, loadA, cellsA, SV.cells, binA, binI, eqOut, isSl, isPt, natOf, callee, snap, SV.refsL, SV.refs, thaw, fzAll, loA, hiA, elemOf, partsA, buildA, putCells, ↓reduceIte, reduceCtorEq, okCell, Nat.reduceAdd, Nat.reduceEqDiff, Nat.reduceSub, Nat.reduceMul, Nat.reduceLeDiff, Nat.reduceLT, Nat.reduceBEq, PV.scal, PV.scalL, SV.scal, SV.scalL, Ob.scal, PV.isCell, pure', resO]
            refine hR6 _ _ _ (by intro h; cases h) ?_
            simp only [h4, hi3, hgk, hwi, hapx, hfl, nz_len, nz_app, ints_len, ints_app1, ints_cell, Int.toNat_natCast, ↓SP, SQ, Gam.add, stepM, callC, argC, lendO, nmBy, nmC, likeL, likeB, plainOb, offs, exL, X, F, trP, trO, stepD, stepW, newA, SV.tr, SV.trL, fz, allP, Ob.tr, loadA, cellsA, SV.cells, binA, binI, eqOut, isSl, isPt, natOf, callee, snap, SV.refsL, SV.refs, thaw, fzAll, loA, hiA, elemOf, partsA, buildA, putCells, ↓reduceIte, reduceCtorEq, okCell, Nat.reduceAdd, Nat.reduceEqDiff, Nat.reduceSub, Nat.reduceMul, Nat.reduceLeDiff, Nat.reduceLT, Nat.reduceBEq, PV.scal, PV.scalL, SV.scal, SV.scalL, Ob.scal, PV.isCell, pure', resO]
            exact hN4 ⟨i2 + 1, false, .junk, .junk, .junk, .junk, .junk, .junk, _, _, _, _, .junk, .junk, _, .junk, _, _, _, _, _, _, none, none, _, _⟩ _ _ (by simp only; omega) (by simp only; omega) rfl (by rw [hsm])
      have hi2e : i2 = (lfG nk j (k + 1)).length := by omega
      have h4 : ¬ ((lfG nk j (k + 1)).length : Int) < (lfG nk j (k + 1)).length := by omega
      subst hi2e
      have hmore : ((lfG nk j (k + 1)).take (lfG nk j (k + 1)).length).filter (fun key => !decide (nk key ≤ (k + 1) + 1)) = lfG nk j ((k + 1) + 1) := by rw [List.take_length, lfG_next]
      obtain ⟨fnd, hfnd⟩ : ∃ fnd, ((lfG nk j (k + 1)).take (lfG nk j (k + 1)).length).filter (fun key => decide (nk key ≤ (k + 1) + 1)) = fnd := ⟨_, rfl⟩
      have hfl1 : fnd.length ≤ j := by
        rw [← hfnd]
        have := List.length_filter_le (fun key => decide (nk key ≤ (k + 1) + 1)) ((lfG nk j (k + 1)).take (lfG nk j (k + 1)).length)
        rw [List.take_length] at this
        rw [List.take_length]; omega
      have hfm : ∀ x ∈ fnd, x < j := fun x hx => by
        rw [← hfnd] at hx
        exact (lfG_mem (List.mem_of_mem_take (List.mem_filter.1 hx).1)).1
      have hB0 := stG_0 nk j (k + 1)
      simp only [h4, nz_len, ints_len, ↓SP, SQ, Gam.add, stepM, callC, argC, lendO, nmBy, nmC, likeL, likeB, plainOb, offs, exL, X, F, trP, trO, stepD, stepW, newA, SV.tr, SV.trL, fz, allP, Ob.tr, loadA, cellsA, SV.cells, binA, binI, eqOut, isSl, isPt, natOf, callee, snap, SV.refsL, SV.refs, thaw, fzAll, loA, hiA, elemOf, partsA, buildA, putCells, ↓reduceIte, reduceCtorEq, okCell, Nat.reduceAdd, Nat.reduceEqDiff, Nat.reduceSub, Nat.reduceMul, Nat.reduceLeDiff, Nat.reduceLT, Nat.reduceBEq, PV.scal, PV.scalL, SV.scal, SV.scalL, Ob.scal, PV.isCell, pure', resO]
      refine hR4 _ _ _ (by intro h; cases h) ?_
      simp only [hmore, hfnd, ↓SP, SQ, Gam.add, stepM, callC, argC, lendO, nmBy, nmC, likeL, likeB, plainOb, offs, exL, X, F, trP, trO, stepD, stepW, newA, SV.tr, SV.trL, fz, allP, Ob.tr, loadA, cellsA, SV.cells, binA, binI, eqOut, isSl, isPt, natOf, callee, snap, SV.refsL, SV.refs, thaw, fzAll, loA, hiA, elemOf, partsA, buildA, putCells, ↓reduceIte, reduceCtorEq, okCell, Nat.reduceAdd, Nat.reduceEqDiff, Nat.reduceSub, Nat.reduceMul, Nat.reduceLeDiff, Nat.reduceLT, Nat.reduceBEq, PV.scal, PV.scalL, SV.scal, SV.scalL, Ob.scal, PV.isCell, pure', resO]
      refine loop_at (fun s : Q6 => mkEnv [(0, si i), (1, si m), (4, .p .nilsl), (5, si (j : Int)), (6, si i), (7, .ar 28), (8, .p (.sl 1 (ints (nz (lfG nk j (k + 1)))))), (9, si (j : Int)), (10, si ((k + 1 + 1 : Nat) : Int)), (11, .ar 55), (12, .ar 56), (13, si (lfG nk j (k + 1)).length), (14, s.s14), (15, s.s15), (16, s.s16), (17, si s.i), (20, sb false), (32, sb false), (42, s.s42), (52, sb true), (60, sb false), (76, s.s76), (97, s.s97), (115, s.s115)]) (fun s => mkO [(14, s.o14), (28, some (.arr 1 (ints (stG nk j (k + 1) (fnd.take s.i))))), (29, some (.arr 1 (ints (nz (lfG nk j 0))))), (48, s.o48), (49, none), (55, some (.arr 1 (ints (nz fnd)))), (56, some (.arr 1 (ints (nz (lfG nk j ((k + 1) + 1)))))), (103, s.o103), (104, none), (110, s.o110), (111, none)]) (fun s => s.i ≤ fnd.length) (fun s => fnd.length - s.i) ⟨0, false, .junk, .junk, .junk, .junk, .junk, .junk, _, _, _, .junk, .junk, .junk, _, .junk, .junk, _, _, _, _, _, none, none, _, _⟩ (by simp) rfl (by simp only [List.take_zero, hB0]; try rfl) ?_
      rintro ⟨i3, _, gs7, gs8, gs9, gs11, gs12, gs13, gs14, gs15, gs16, gs17, gs20, gs32, gs42, gs52, gs60, gs76, gs97, gs115, go14, go48, go55, go56, go103, go110⟩ hi3 R5 hR5 hN5
      simp only at hi3
      by_cases hlt : i3 < fnd.length
      · have h5 : (i3 : Int) < fnd.length := by omega
        have hwi := wrap_one (i := i3) (by omega)
        obtain ⟨key, hkey⟩ : ∃ key, fnd.getD i3 0 = key := ⟨_, rfl⟩
        have hkm := hfm key (by rw [← hkey, getD_lt hlt]; exact List.getElem_mem hlt)
        have hgk := nz_get hlt
        rw [hkey] at hgk
        have hk0 : (0 : Int) ≤ (key : Int) := by omega
        have hbl := stG_len nk j (k + 1) (fnd.take i3)
        have hset := stG_one nk j (k + 1) (fnd.take i3) key
        have ht1 := take_one fnd i3 0 hlt
        rw [hkey] at ht1
        rw [← ht1] at hset
        obtain ⟨e6, he6⟩ : ∃ e, (ints (stG nk j (k + 1) (fnd.take i3)))[key]? = some e := ⟨_, List.getElem?_eq_getElem (by rw [ints_len, hbl]; exact hkm)⟩
        simp only [h5, hlt, hgk, hk0, hkm, hbl, hset, he6, hwi, nz_len, ints_len, ints_set, Int.toNat_natCast, ↓SP, SQ, Gam.add, stepM, callC, argC, lendO, nmBy, nmC, likeL, likeB, plainOb, offs, exL, X, F, trP, trO, stepD, stepW, newA, SV.tr, SV.trL, fz, allP, Ob.tr, loadA, cellsA, SV.cells, binA, binI, eqOut, isSl, isPt, natOf, callee, snap, SV.refsL, SV.refs, thaw, fzAll, loA, hiA, elemOf, partsA, buildA, putCells, ↓reduceIte, reduceCtorEq, okCell, Nat.reduceAdd, Nat.reduceEqDiff, Nat.reduceSub, Nat.reduceMul, Nat.reduceLeDiff, Nat.reduceLT, Nat.reduceBEq, PV.scal, PV.scalL, SV.scal, SV.scalL, Ob.scal, PV.isCell, pure', resO]
        exact hN5 ⟨i3 + 1, false, .junk, .junk, .junk, .junk, .junk, .junk, _, _, _, .junk, .junk, .junk, _, .junk, .junk, _, _, _, _, _, none, none, _, _⟩ _ _ (by simp only; omega) (by simp only; omega) rfl rfl
      have hi3e : i3 = fnd.length := by omega
      have h5 : ¬ (fnd.length : Int) < fnd.length := by omega
      subst hi3e
      have hend : stG nk j (k + 1) (fnd.take fnd.length) = tabG nk j ((k + 1) + 1) := by
        rw [List.take_length, ← hfnd, List.take_length, stG_end]
      simp only [h5, nz_len, ints_len, ↓SP, SQ, Gam.add, stepM, callC, argC, lendO, nmBy, nmC, likeL, likeB, plainOb, offs, exL, X, F, trP, trO, stepD, stepW, newA, SV.tr, SV.trL, fz, allP, Ob.tr, loadA, cellsA, SV.cells, binA, binI, eqOut, isSl, isPt, natOf, callee, snap, SV.refsL, SV.refs, thaw, fzAll, loA, hiA, elemOf, partsA, buildA, putCells, ↓reduceIte, reduceCtorEq, okCell, Nat.reduceAdd, Nat.reduceEqDiff, Nat.reduceSub, Nat.reduceMul, Nat.reduceLeDiff, Nat.reduceLT, Nat.reduceBEq, PV.scal, PV.scalL, SV.scal, SV.scalL, Ob.scal, PV.isCell, pure', resO]
      refine hR5 _ _ _ (by intro h; cases h) ?_
      simp only [hend, hw, ↓SP, SQ, Gam.add, stepM, callC, argC, lendO, nmBy, nmC, likeL, likeB, plainOb, offs, exL, X, F, trP, trO, stepD, stepW, newA, SV.tr, SV.trL, fz, allP, Ob.tr, loadA, cellsA, SV.cells, binA, binI, eqOut, isSl, isPt, natOf, callee, snap, SV.refsL, SV.refs, thaw, fzAll, loA, hiA, elemOf, partsA, buildA, putCells, ↓reduceIte, reduceCtorEq, okCell, Nat.reduceAdd, Nat.reduceEqDiff, Nat.reduceSub, Nat.reduceMul, Nat.reduceLeDiff, Nat.reduceLT, Nat.reduceBEq, PV.scal, PV.scalL, SV.scal, SV.scalL, Ob.scal, PV.isCell, pure', resO]
      exact hN3 ⟨(k + 1) + 1, false, .junk, .junk, .junk, _, _, _, _, _, _, _, .junk, .junk, _, _, _, _, _, _, _, _, _, none, _, _⟩ _ _ (by simp only; omega) (by simp only; omega) rfl rfl
  have hnil : lfG nk j k = [] := List.length_eq_zero_iff.1 (by omega)
  have hl0 : (lfG nk j k).length = 0 := by omega
  have h00 : ¬ ((0 : Nat) : Int) > 0 := by omega
  have hdn := hdone k hnil
  cases k with
  | zero =>
    simp only [hl0, h00, nz_len, ints_len, ↓SP, SQ, Gam.add, stepM, callC, argC, lendO, nmBy, nmC, likeL, likeB, plainOb, offs, exL, X, F, trP, trO, stepD, stepW, newA, SV.tr, SV.trL, fz, allP, Ob.tr, loadA, cellsA, SV.cells, binA, binI, eqOut, isSl, isPt, natOf, callee, snap, SV.refsL, SV.refs, thaw, fzAll, loA, hiA, elemOf, partsA, buildA, putCells, ↓reduceIte, reduceCtorEq, okCell, Nat.reduceAdd, Nat.reduceEqDiff, Nat.reduceSub, Nat.reduceMul, Nat.reduceLeDiff, Nat.reduceLT, Nat.reduceBEq, PV.scal, PV.scalL, SV.scal, SV.scalL, Ob.scal, PV.isCell, pure', resO]
    refine hR3 _ _ _ (by intro h; cases h) ?_
    simp only [hdn, ↓SP, SQ, Gam.add, stepM, callC, argC, lendO, nmBy, nmC, likeL, likeB, plainOb, offs, exL, X, F, trP, trO, stepD, stepW, newA, SV.tr, SV.trL, fz, allP, Ob.tr, loadA, cellsA, SV.cells, binA, binI, eqOut, isSl, isPt, natOf, callee, snap, SV.refsL, SV.refs, thaw, fzAll, loA, hiA, elemOf, partsA, buildA, putCells, ↓reduceIte, reduceCtorEq, okCell, Nat.reduceAdd, Nat.reduceEqDiff, Nat.reduceSub, Nat.reduceMul, Nat.reduceLeDiff, Nat.reduceLT, Nat.reduceBEq, PV.scal, PV.scalL, SV.scal, SV.scalL, Ob.scal, PV.isCell, pure', resO]
    refine finA_gen [28] trivial (by simp [retA, rvA, List.mapM_cons, List.mapM_nil, Option.pure_def, Option.bind_eq_bind, Option.bind_some, Option.map_some, mkE_cons, mk_nil, mkO_cons, mkO_nil, loadA, ↓reduceIte, List.take_succ_cons, List.take_zero, List.drop_zero, List.drop_succ_cons, List.length_cons, List.length_nil, Nat.reduceAdd, Nat.reduceEqDiff, Nat.reduceLeDiff, Nat.zero_add, Nat.le_refl, reduceCtorEq, SV.tr, SV.trL, nmF, rn_nil, rn_cons1, rn_cons2, List.map_cons, List.map_nil, List.all_cons, List.all_nil, plainOb, SV.refsL, SV.refs, Ob.refs, X, F, List.range_succ, List.range_zero, List.nil_append, List.cons_append, List.isEmpty_nil, decide_true, Nat.reduceLT, Bool.and_self, Bool.and_true, and_self, and_true, List.getElem?_cons_zero, List.getElem?_cons_succ, List.nodup_cons, List.nodup_nil, List.mem_cons, List.not_mem_nil, not_false_eq_true, or_false, List.append_nil, mkO, setO_mk, List.mem_singleton]; rfl) ?_ ?_ ?_ ?_ ?_ ?_ ?_ <;> simp [retA, rvA, List.mapM_cons, List.mapM_nil, Option.pure_def, Option.bind_eq_bind, Option.bind_some, Option.map_some, mkE_cons, mk_nil, mkO_cons, mkO_nil, loadA, ↓reduceIte, List.take_succ_cons, List.take_zero, List.drop_zero, List.drop_succ_cons, List.length_cons, List.length_nil, Nat.reduceAdd, Nat.reduceEqDiff, Nat.reduceLeDiff, Nat.zero_add, Nat.le_refl, reduceCtorEq, SV.tr, SV.trL, nmF, rn_nil, rn_cons1, rn_cons2, List.map_cons, List.map_nil, List.all_cons, List.all_nil, plainOb, SV.refsL, SV.refs, Ob.refs, X, F, List.range_succ, List.range_zero, List.nil_append, List.cons_append, List.isEmpty_nil, decide_true, Nat.reduceLT, Bool.and_self, Bool.and_true, and_self, and_true, List.getElem?_cons_zero, List.getElem?_cons_succ, List.nodup_cons, List.nodup_nil, List.mem_cons, List.not_mem_nil, not_false_eq_true, or_false, List.append_nil, mkO, setO_mk, List.mem_singleton]
  | succ k =>
    simp only [hl0, h00, nz_len, ints_len, ↓SP, SQ, Gam.add, stepM, callC, argC, lendO, nmBy, nmC, likeL, likeB, plainOb, offs, exL, X, F, trP, trO, stepD, stepW, newA, SV.tr, SV.trL, fz, allP, Ob.tr, loadA, cellsA, SV.cells, binA, binI, eqOut, isSl, isPt, natOf, callee, snap, SV.refsL, SV.refs, thaw, fzAll, loA, hiA, elemOf, partsA, buildA, putCells, ↓reduceIte, reduceCtorEq, okCell, Nat.reduceAdd, Nat.reduceEqDiff, Nat.reduceSub, Nat.reduceMul, Nat.reduceLeDiff, Nat.reduceLT, Nat.reduceBEq, PV.scal, PV.scalL, SV.scal, SV.scalL, Ob.scal, PV.isCell, pure', resO]
    refine hR3 _ _ _ (by intro h; cases h) ?_
    simp only [hdn, ↓SP, SQ, Gam.add, stepM, callC, argC, lendO, nmBy, nmC, likeL, likeB, plainOb, offs, exL, X, F, trP, trO, stepD, stepW, newA, SV.tr, SV.trL, fz, allP, Ob.tr, loadA, cellsA, SV.cells, binA, binI, eqOut, isSl, isPt, natOf, callee, snap, SV.refsL, SV.refs, thaw, fzAll, loA, hiA, elemOf, partsA, buildA, putCells, ↓reduceIte, reduceCtorEq, okCell, Nat.reduceAdd, Nat.reduceEqDiff, Nat.reduceSub, Nat.reduceMul, Nat.reduceLeDiff, Nat.reduceLT, Nat.reduceBEq, PV.scal, PV.scalL, SV.scal, SV.scalL, Ob.scal, PV.isCell, pure', resO]
    refine finA_gen [28] trivial (by simp [retA, rvA, List.mapM_cons, List.mapM_nil, Option.pure_def, Option.bind_eq_bind, Option.bind_some, Option.map_some, mkE_cons, mk_nil, mkO_cons, mkO_nil, loadA, ↓reduceIte, List.take_succ_cons, List.take_zero, List.drop_zero, List.drop_succ_cons, List.length_cons, List.length_nil, Nat.reduceAdd, Nat.reduceEqDiff, Nat.reduceLeDiff, Nat.zero_add, Nat.le_refl, reduceCtorEq, SV.tr, SV.trL, nmF, rn_nil, rn_cons1, rn_cons2, List.map_cons, List.map_nil, List.all_cons, List.all_nil, plainOb, SV.refsL, SV.refs, Ob.refs, X, F, List.range_succ, List.range_zero, List.nil_append, List.cons_append, List.isEmpty_nil, decide_true, Nat.reduceLT, Bool.and_self, Bool.and_true, and_self, and_true, List.getElem?_cons_zero, List.getElem?_cons_succ, List.nodup_cons, List.nodup_nil, List.mem_cons, List.not_mem_nil, not_false_eq_true, or_false, List.append_nil, mkO, setO_mk, List.mem_singleton]; rfl) ?_ ?_ ?_ ?_ ?_ ?_ ?_ <;> simp [retA, rvA, List.mapM_cons, List.mapM_nil, Option.pure_def, Option.bind_eq_bind, Option.bind_some, Option.map_some, mkE_cons, mk_nil, mkO_cons, mkO_nil, loadA, ↓reduceIte, List.take_succ_cons, List.take_zero, List.drop_zero, List.drop_succ_cons, List.length_cons, List.length_nil, Nat.reduceAdd, Nat.reduceEqDiff, Nat.reduceLeDiff, Nat.zero_add, Nat.le_refl, reduceCtorEq, SV.tr, SV.trL, nmF, rn_nil, rn_cons1, rn_cons2, List.map_cons, List.map_nil, List.all_cons, List.all_nil, plainOb, SV.refsL, SV.refs, Ob.refs, X, F, List.range_succ, List.range_zero, List.nil_append, List.cons_append, List.isEmpty_nil, decide_true, Nat.reduceLT, Bool.and_self, Bool.and_true, and_self, and_true, List.getElem?_cons_zero, List.getElem?_cons_succ, List.nodup_cons, List.nodup_nil, List.mem_cons, List.not_mem_nil, not_false_eq_true, or_false, List.append_nil, mkO, setO_mk, List.mem_singleton]
/-- The less-need of so many numbers ahead of all. -/
def ltF (m : Int) (n : Nat) : Int := lnT m (List.replicate n 0)
theorem sh_rep {m : Int} {n : Nat} (hm : 0 ≤ m ∧ m ≤ 1) (h1 : 1 ≤ n) (h5 : n ≤ 5) : isSh (List.replicate n (0 : Int)) m = true :=
  sh_mk (by simpa using h1) (by simpa using h5) (by omega) fun v hv => by have := (List.mem_replicate.1 hv).2; omega
end Go.Proofs.Ytihpfhdkjlphhaa.Pam
