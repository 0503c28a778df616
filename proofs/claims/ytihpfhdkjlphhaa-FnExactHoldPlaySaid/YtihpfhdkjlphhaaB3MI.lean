/- A part of the proof that stands in this folder: a small machine whose steps are shown to be the steps of the model, or walks of functions by it. No condition of its own. -/
import Derived.Test.YtihpfhdkjlphhaaB3MH
set_option linter.unusedVariables false
set_option linter.unusedSimpArgs false
namespace Go.Proofs.Ytihpfhdkjlphhaa.Pam
open Go
structure K where
  i : Nat
  s5 : SV
  s6 : SV
  s7 : SV
  s8 : SV
  s10 : SV
  s12 : SV
  s14 : SV
  s17 : SV
  s18 : SV
  s21 : SV
  s22 : SV
  s23 : SV
  s28 : SV
  s29 : SV
  s30 : SV
  s41 : SV
  s53 : SV
  s57 : SV
  s58 : SV
  s59 : SV
  s60 : SV
  s66 : SV
  s72 : SV
  s73 : SV
  s74 : SV
  s75 : SV
  o8 : Option Ob
  o10 : Option Ob
  o14 : Option Ob
  o46 : Option Ob
  o56 : Option Ob
  o69 : Option Ob
/-- The entries of those told, and those that are not. -/
def tdE (P : List (List Int)) : List (List Int × Int) := (P.filter told).map fun t => (t, 0)
def opT (P : List (List Int)) : List (List Int) := P.filter fun t => !told t
theorem tdE_yes {P : List (List Int)} {t : List Int} (h : told t = true) : tdE (P ++ [t]) = tdE P ++ [(t, 0)] := by simp [tdE, List.filter_append, h]
theorem tdE_no {P : List (List Int)} {t : List Int} (h : told t = false) : tdE (P ++ [t]) = tdE P := by simp [tdE, List.filter_append, h]
theorem opT_yes {P : List (List Int)} {t : List Int} (h : told t = true) : opT (P ++ [t]) = opT P := by simp [opT, List.filter_append, h]
theorem opT_no {P : List (List Int)} {t : List Int} (h : told t = false) : opT (P ++ [t]) = opT P ++ [t] := by simp [opT, List.filter_append, h]
def pre (a b c : Nat) : List (List Int) := rwA a ++ rwB a b ++ rwC a b c
theorem pre_c (a b c : Nat) : pre a b (c + 1) = pre a b c ++ [[(a : Int), (b : Int), (c : Int)]] := by simp [pre, rwC, List.range_succ]
theorem pre_b (a b : Nat) : pre a b (9 - a - b) = pre a (b + 1) 0 := by simp [pre, rwB, rwC, List.range_succ]
theorem pre_a (a : Nat) : pre a (9 - a) 0 = pre (a + 1) 0 0 := by simp [pre, rwA, rwB, rwC, List.range_succ]
theorem pre_len {a b c : Nat} (ha : a ≤ 9) (hb : b ≤ 9) (hc : c ≤ 9) : (pre a b c).length ≤ 1000 := by
  have h1 : (rwA a).length ≤ a * 81 := by
    simp only [rwA, List.length_flatMap, rwB, rwC, List.length_map, List.length_range]
    have : ∀ l : List Nat, (l.map fun x => ((List.range (9 - x)).map fun y => 9 - x - y).sum).sum ≤ l.length * 81 := by
      intro l
      induction l with
      | nil => simp
      | cons x r ih =>
        have hx : ((List.range (9 - x)).map fun y => 9 - x - y).sum ≤ 81 := by
          have : ∀ m : List Nat, (m.map fun y => 9 - x - y).sum ≤ m.length * 9 := by
            intro m
            induction m with
            | nil => simp
            | cons y m ih2 => simp only [List.map_cons, List.sum_cons, List.length_cons]; omega
          have := this (List.range (9 - x))
          rw [List.length_range] at this
          have : (9 - x) * 9 ≤ 81 := by omega
          omega
        simp only [List.map_cons, List.sum_cons, List.length_cons]; omega
    have := this (List.range a)
    rw [List.length_range] at this
    exact this
  have h2 : (rwB a b).length ≤ b * 9 := by
    simp only [rwB, List.length_flatMap, rwC, List.length_map, List.length_range]
    have : ∀ m : List Nat, (m.map fun y => 9 - a - y).sum ≤ m.length * 9 := by
      intro m
      induction m with
      | nil => simp
      | cons y m ih2 => simp only [List.map_cons, List.sum_cons, List.length_cons]; omega
    have := this (List.range b)
    rw [List.length_range] at this
    exact this
  have h3 : (rwC a b c).length = c := by simp [rwC]
  simp only [pre, List.length_append]
  omega
theorem pre_fresh (a b c : Nat) : [(a : Int), (b : Int), (c : Int)] ∉ pre a b c := by
  simp only [pre, List.mem_append, mem_rwA, mem_rwB, mem_rwC]
  rintro ((⟨x, y, z, h1, _, _, e⟩ | ⟨y, z, h1, _, e⟩) | ⟨z, h1, e⟩)
  · simp at e; omega
  · simp at e; omega
  · simp at e; omega
theorem pre_3 {a b c : Nat} : ∀ t ∈ pre a b c, t.length = 3 := by
  intro t ht
  simp only [pre, List.mem_append, mem_rwA, mem_rwB, mem_rwC] at ht
  rcases ht with (⟨x, y, z, _, _, _, rfl⟩ | ⟨y, z, _, _, rfl⟩) | ⟨z, _, rfl⟩ <;> rfl
theorem opT_len (P : List (List Int)) : (opT P).length ≤ P.length := List.length_filter_le _ _
def a_needs (f_splits : FuncId) (f_needs1 : FuncId) (f_ContainsFuncS : FuncId) (f_needs2 : FuncId) (f_DelT : FuncId) : AFn := ⟨1, 
  .seq (.reg [⟨some 1, none, .w (.box 1 (.t 0))⟩,
    ⟨some 2, none, .d (.mv (.c (.nilmap)))⟩])
  (.seq (.reg [⟨some 15, none, .w (.mkmap)⟩,
    ⟨some 16, none, .w (.bslice 3 [] [])⟩,
    ⟨some 3, none, .w (.alloc [.nilmap])⟩,
    ⟨none, none, .w (.store 1 (.t 3) (.t 15))⟩,
    ⟨some 4, none, .d (.mv (.t 16))⟩])
  (.seq (.seq (.reg [⟨some 17, none, .d (.mv (.c (.int .i64 0)))⟩])
  (.block 0 (.loop (.seq (.reg [⟨some 18, none, .d (.bin .arith .lss (.t 17) (.c (.int .i64 9)))⟩])
    (.seq (.cond (.t 18) (.skip) (.exit 0))
    (.seq (.block 1 (.seq (.reg [⟨some 19, none, .d (.mv (.t 17))⟩,
       ⟨some 5, none, .d (.mv (.t 19))⟩])
     (.seq (.reg [⟨some 20, none, .d (.mv (.t 5))⟩,
       ⟨some 21, none, .d (.bin .arith .sub (.c (.int .i64 9)) (.t 20))⟩,
       ⟨some 22, none, .d (.mv (.c (.int .i64 0)))⟩])
     (.block 2 (.loop (.seq (.reg [⟨some 23, none, .d (.bin .arith .lss (.t 22) (.t 21))⟩])
       (.seq (.cond (.t 23) (.skip) (.exit 2))
       (.seq (.block 3 (.seq (.reg [⟨some 24, none, .d (.mv (.t 22))⟩,
          ⟨some 6, none, .d (.mv (.t 24))⟩])
        (.seq (.reg [⟨some 25, none, .d (.mv (.t 5))⟩,
          ⟨some 26, none, .d (.bin .arith .sub (.c (.int .i64 9)) (.t 25))⟩,
          ⟨some 27, none, .d (.mv (.t 6))⟩,
          ⟨some 28, none, .d (.bin .arith .sub (.t 26) (.t 27))⟩,
          ⟨some 29, none, .d (.mv (.c (.int .i64 0)))⟩])
        (.block 4 (.loop (.seq (.reg [⟨some 30, none, .d (.bin .arith .lss (.t 29) (.t 28))⟩])
          (.seq (.cond (.t 30) (.skip) (.exit 4))
          (.seq (.block 5 (.seq (.reg [⟨some 31, none, .d (.mv (.t 29))⟩,
             ⟨some 7, none, .d (.mv (.t 31))⟩])
           (.seq (.reg [⟨some 32, none, .d (.mv (.t 5))⟩,
             ⟨some 33, none, .d (.mv (.t 6))⟩,
             ⟨some 34, none, .d (.mv (.t 7))⟩,
             ⟨some 35, none, .d (.build [.int .i64 0, .int .i64 0, .int .i64 0] [(0, 1, (.t 32)), (1, 1, (.t 33)), (2, 1, (.t 34))])⟩,
             ⟨some 8, none, .w (.alloc [.int .i64 0, .int .i64 0, .int .i64 0])⟩,
             ⟨none, none, .w (.store 3 (.t 8) (.t 35))⟩])
           (.seq (.reg [⟨some 36, none, .d (.mv (.t 5))⟩,
             ⟨some 37, none, .d (.mv (.t 6))⟩,
             ⟨some 38, none, .d (.bin .arith .add (.t 36) (.t 37))⟩,
             ⟨some 39, none, .d (.mv (.t 7))⟩,
             ⟨some 40, none, .d (.bin .arith .add (.t 38) (.t 39))⟩,
             ⟨some 41, none, .d (.bin .arith .leq (.t 40) (.c (.int .i64 1)))⟩])
           (.cond (.t 41) (.reg [⟨some 42, none, .d (.load false 1 (.t 3))⟩,
              ⟨some 43, none, .d (.load true 3 (.t 8))⟩,
              ⟨none, none, .w (.mapup (some 3) (.t 42) (.t 43) (.c (.int .i64 0)))⟩]) (.reg [⟨some 44, none, .d (.mv (.t 4))⟩,
              ⟨some 45, none, .d (.load true 3 (.t 8))⟩,
              ⟨some 46, none, .w (.bslice 3 [.agg [.int .i64 0, .int .i64 0, .int .i64 0]] [(0, (.t 45))])⟩,
              ⟨some 47, none, .w (.append 3 (.t 44) (.t 46))⟩,
              ⟨some 4, none, .d (.mv (.t 47))⟩]))))))
          (.reg [⟨some 48, none, .d (.bin .arith .add (.t 29) (.c (.int .i64 1)))⟩,
            ⟨some 29, none, .d (.mv (.t 48))⟩])))))))))
       (.reg [⟨some 49, none, .d (.bin .arith .add (.t 22) (.c (.int .i64 1)))⟩,
         ⟨some 22, none, .d (.mv (.t 49))⟩])))))))))
    (.reg [⟨some 50, none, .d (.bin .arith .add (.t 17) (.c (.int .i64 1)))⟩,
      ⟨some 17, none, .d (.mv (.t 50))⟩])))))))
  (.seq (.seq (.reg [⟨some 9, none, .d (.mv (.c (.int .i64 1)))⟩])
  (.block 6 (.loop (.seq (.seq (.reg [⟨some 51, none, .d (.mv (.t 4))⟩,
      ⟨some 52, none, .d (.len (.t 51))⟩,
      ⟨some 53, none, .d (.bin .arith .gtr (.t 52) (.c (.int .i64 0)))⟩])
    (.cond (.t 53) (.skip) (.exit 6)))
    (.seq (.block 7 (.seq (.reg [⟨some 56, none, .w (.bslice 3 [] [])⟩,
       ⟨some 10, none, .w (.alloc [.nilsl])⟩,
       ⟨none, none, .w (.store 1 (.t 10) (.t 56))⟩])
     (.seq (.seq (.reg [⟨some 57, none, .d (.mv (.t 4))⟩,
       ⟨some 58, none, .d (.len (.t 57))⟩,
       ⟨some 59, none, .d (.mv (.c (.int .i64 0)))⟩])
     (.block 8 (.loop (.seq (.reg [⟨some 60, none, .d (.bin .arith .lss (.t 59) (.t 58))⟩])
       (.seq (.cond (.t 60) (.skip) (.exit 8))
       (.seq (.block 9 (.seq (.reg [⟨some 61, none, .d (.ia 3 (.t 57) (.t 59))⟩,
          ⟨some 62, none, .d (.load true 3 (.t 61))⟩,
          ⟨some 12, none, .w (.alloc [.int .i64 0, .int .i64 0, .int .i64 0])⟩,
          ⟨none, none, .w (.store 3 (.t 12) (.t 62))⟩])
        (.seq (.reg [⟨some 63, none, .w (.slcF 3 (.t 12))⟩,
          ⟨some 64, none, .d (.call (.f f_splits) [(.t 63)])⟩,
          ⟨some 65, none, .d (.mkfn f_needs1 [] [(.t 1), (.t 12), (.t 3)])⟩,
          ⟨some 66, none, .d (.call (.f f_ContainsFuncS) [(.t 64), (.t 65)])⟩])
        (.cond (.t 66) (.reg [⟨some 67, none, .d (.load false 1 (.t 10))⟩,
           ⟨some 68, none, .d (.load true 3 (.t 12))⟩,
           ⟨some 69, none, .w (.bslice 3 [.agg [.int .i64 0, .int .i64 0, .int .i64 0]] [(0, (.t 68))])⟩,
           ⟨some 70, none, .w (.append 3 (.t 67) (.t 69))⟩,
           ⟨none, none, .w (.store 1 (.t 10) (.t 70))⟩]) (.skip)))))
       (.reg [⟨some 71, none, .d (.bin .arith .add (.t 59) (.c (.int .i64 1)))⟩,
         ⟨some 59, none, .d (.mv (.t 71))⟩])))))))
     (.seq (.seq (.reg [⟨some 72, none, .d (.load false 1 (.t 10))⟩,
       ⟨some 73, none, .d (.len (.t 72))⟩,
       ⟨some 74, none, .d (.mv (.c (.int .i64 0)))⟩])
     (.block 10 (.loop (.seq (.reg [⟨some 75, none, .d (.bin .arith .lss (.t 74) (.t 73))⟩])
       (.seq (.cond (.t 75) (.skip) (.exit 10))
       (.seq (.block 11 (.seq (.reg [⟨some 76, none, .d (.ia 3 (.t 72) (.t 74))⟩,
          ⟨some 77, none, .d (.load true 3 (.t 76))⟩,
          ⟨some 14, none, .w (.alloc [.int .i64 0, .int .i64 0, .int .i64 0])⟩,
          ⟨none, none, .w (.store 3 (.t 14) (.t 77))⟩])
        (.reg [⟨some 78, none, .d (.load false 1 (.t 3))⟩,
          ⟨some 79, none, .d (.load true 3 (.t 14))⟩,
          ⟨some 80, none, .d (.mv (.t 9))⟩,
          ⟨none, none, .w (.mapup (some 3) (.t 78) (.t 79) (.t 80))⟩])))
       (.reg [⟨some 81, none, .d (.bin .arith .add (.t 74) (.c (.int .i64 1)))⟩,
         ⟨some 74, none, .d (.mv (.t 81))⟩])))))))
     (.reg [⟨some 82, none, .d (.mv (.t 4))⟩,
       ⟨some 83, none, .d (.mkfn f_needs2 [] [(.t 10)])⟩,
       ⟨some 84, none, .w (.callL (.f f_DelT) [(.t 82), (.t 83)] [16] 0 false)⟩,
       ⟨some 4, none, .d (.mv (.t 84))⟩])))))
    (.reg [⟨some 54, none, .d (.mv (.t 9))⟩,
      ⟨some 55, none, .d (.bin .arith .add (.t 54) (.c (.int .i64 1)))⟩,
      ⟨some 9, none, .d (.mv (.t 55))⟩]))))))
  (.seq (.reg [⟨some 85, none, .d (.load false 1 (.t 3))⟩,
    ⟨some 2, none, .d (.mv (.t 85))⟩])
  (.ret))))), [.tmp 2]⟩
def n_needs : Nat → Option Ann := fun d => if d = 63 then some ⟨[], 0, false⟩ else if d = 84 then some ⟨[16], 0, false⟩ else none
abbrev k_needs : List Nat := [0, 1, 2, 3, 4, 5, 6, 7, 8, 9, 10, 12, 14, 17, 18, 21, 22, 23, 28, 29, 30, 41, 53, 57, 58, 59, 60, 66, 72, 73, 74, 75]
abbrev o_needs : List Nat := [1, 3, 8, 10, 12, 14, 15, 16, 46, 47, 56, 69, 70]
open Classical in
noncomputable def c_needs (Γ1 : Gam) : Con := pure' fun
  | [.p (.fn g [] [])] => if Γ1 g = c_bothWays then some (.mp 2000000, [.map (ents (eL (ntT tabB) 9))]) else if Γ1 g = c_oneWay then some (.mp 2000000, [.map (ents (eL (ntT tabO) 6))]) else none
  | _ => none
theorem ags_scal (L : List (List Int)) : (ags L).all PV.scal = true := by
  simp only [ags, List.all_map, List.all_eq_true]
  intro l hl
  clear hl
  simp only [Function.comp, PV.scal]
  induction l with
  | nil => rfl
  | cons x r ih => simp only [ints, List.map_cons, PV.scalL, PV.scal, Bool.true_and]; exact ih
/-- What a rule is. -/
def isRule (Γ1 : Gam) (g : FuncId) (both : Bool) : Prop := Γ1 g = if both = true then c_bothWays else c_oneWay
theorem ruleY_is {Γ1 : Gam} {g : FuncId} {both : Bool} (h : isRule Γ1 g both) (c s : List Int) : ruleY Γ1 g c s = yb both c s := by
  cases both with
  | true => exact ruleY_both (by simpa [isRule] using h) c s
  | false => exact ruleY_one (by simpa [isRule] using h) c s
theorem isRule_or {Γ1 : Gam} {g : FuncId} {both : Bool} (h : isRule Γ1 g both) : Γ1 g = c_bothWays ∨ Γ1 g = c_oneWay := by
  cases both with
  | true => exact .inl (by simpa [isRule] using h)
  | false => exact .inr (by simpa [isRule] using h)
theorem spI_in8 {c : List Int} (h8 : in8 c = true) : ∀ {i : Nat} {s : List Int}, s ∈ spI c i → in8 s = true
  | 0, s, h => by simp [spI] at h; subst h; rfl
  | i + 1, s, h => by
    simp only [spI, List.mem_flatMap, rowK, List.mem_map, List.mem_range] at h
    obtain ⟨b, hb, j, hj, rfl⟩ := h
    have h1 := spI_in8 h8 hb
    have h2 := in8_get h8 i
    simp only [in8, List.all_append, List.all_cons, List.all_nil, Bool.and_true, Bool.and_eq_true, decide_eq_true_eq]
    exact ⟨h1, by omega⟩
theorem spl_in8 {c s : List Int} (h8 : in8 c = true) (hs : s ∈ splL c) : in8 s = true := spI_in8 h8 hs
/-- What is asked of each split of an open triple. -/
theorem ask_needs1 {Γ0 Γ1 : Gam} {f_needs1 g : FuncId} {both : Bool} {nt : List Int → Nat} {R k : Nat} (N : NT both nt R) (h1 : Γ0 f_needs1 = c_needs1 Γ1) (hg : isRule Γ1 g both) {a b c : Int} (ht : [a, b, c] ∈ allT) (hu : told [a, b, c] = false) :
    askF Γ0 f_needs1 [] [.cp [.fn g [] []], .cp [.int .i64 a, .int .i64 b, .int .i64 c], .cp [.mapv (ents (eL nt k))]] (sls (splL [a, b, c])) = some ((splL [a, b, c]).map fun s => decide (nt (yb both [a, b, c] s) ≤ k) && decide (nt (noL [a, b, c] s) ≤ k)) := by
  refine askF_eq fun s hs => ?_
  have hsl := spl_len hs
  have hsl3 : s.length = 3 := hsl
  obtain ⟨hy, hn⟩ := N.inn _ ht hu s hs
  have h8 := inT_in8 (mem_allT.1 ht)
  have hb1 : bd 1000 [a, b, c] = true := bd_in8 h8 (by omega)
  have hs8 : bd 1000 s = true := by
    refine bd_of fun j hj => ?_
    have hc2 := in8_get (spl_in8 h8 hs) j
    omega
  have e1 := look_ents (allT_len hy) (all3_eL nt k)
  have e2 := look_ents (allT_len hn) (all3_eL nt k)
  rw [lk_eL hy] at e1
  rw [lk_eL hn] at e2
  have hk3 := keysOk_ents (all3_eL nt k)
  have hor := isRule_or hg
  rw [h1]
  simp only [List.nil_append, List.cons_append, List.map_cons, List.map_nil, c_needs1, pure', isI_ints, ofI_ints, ints_len, hsl3, hb1, hs8, hk3, hor, ruleY_is hg, e1, e2, and_self, if_true, Option.map_some]
  by_cases q1 : nt (yb both [a, b, c] s) ≤ k
  · by_cases q2 : nt (noL [a, b, c] s) ≤ k
    · simp [q1, q2]
    · simp [q1, q2]
  · by_cases q2 : nt (noL [a, b, c] s) ≤ k
    · simp [q1, q2]
    · simp [q1, q2]
theorem lev_nodup (nt : List Int → Nat) (k : Nat) : (lev nt k).Nodup := allT_nodup.filter _
theorem nodup_take {α : Type} {d : α} {L : List α} (h : L.Nodup) {i : Nat} (hi : i < L.length) : L.getD i d ∉ L.take i := by
  intro hm
  obtain ⟨j, hj, e⟩ := List.getElem_of_mem hm
  have hj' : j < i := by simp at hj; omega
  rw [List.getElem_take, getD_lt hi] at e
  exact (List.pairwise_iff_getElem.1 h) j i (by omega) hi hj' e
theorem ask_needs2 {Γ0 : Gam} {f_needs2 : FuncId} (h : Γ0 f_needs2 = c_needs2) {D L : List (List Int)} (hD : al3 D = true) (hDl : D.length ≤ 1100000) (hL : al3 L = true) : askF Γ0 f_needs2 [] [.cp [.sl 3 (ags D)]] (ags L) = some (L.map fun t => decide (t ∈ D)) := by
  refine askF_eq fun t ht => ?_
  have h3 : t.length = 3 := by simpa using List.all_eq_true.1 hL t ht
  have hG := isG_ags hD
  match t, h3 with
  | [a, b, c], _ =>
    rw [h]
    have hany : ((D.map fun l => decide (l = [a, b, c])).any id) = decide ([a, b, c] ∈ D) := by
      rw [Bool.eq_iff_iff, List.any_eq_true, decide_eq_true_eq]
      simp
    simp only [List.nil_append, List.cons_append, List.map_cons, List.map_nil, ints, c_needs2, pure', hG, ags_len, hDl, and_self, if_true, firstT_map, hany, Option.map_some]
theorem del_lists {both : Bool} {nt : List Int → Nat} {R k : Nat} (N : NT both nt R) (hk : k < R) : ((openL nt k).map fun t => decide (t ∈ lev nt (k + 1))).any id = true ∧ kpI [] (openL nt k) ((openL nt k).map fun t => decide (t ∈ lev nt (k + 1))) (openL nt k).length = openL nt (k + 1) := by
  constructor
  · rcases hl : lev nt (k + 1) with _ | ⟨t, r⟩
    · exact absurd hl (N.non k hk)
    · have hm : t ∈ lev nt (k + 1) := by rw [hl]; simp
      have hm2 := hm
      simp only [lev, List.mem_filter, beq_iff_eq] at hm
      have ho : t ∈ openL nt k := List.mem_filter.2 ⟨hm.1, by simp; omega⟩
      rw [List.any_eq_true]
      exact ⟨true, List.mem_map.2 ⟨t, ho, by rw [← hl]; exact dec_t hm2⟩, rfl⟩
  · rw [kpI_filter _ _ (Nat.le_refl _), List.take_length, open_keep]
theorem del_needs0 {both : Bool} {nt : List Int → Nat} {R k : Nat} (N : NT both nt R) (hk : k < R) {Γ2 Γ3 : Gam} {f_needs2 : FuncId} (h2 : Γ2 f_needs2 = c_needs2) (h3 : Γ3 f_needs2 = c_needs2) (hk0 : k = 0 := by rfl) :
    c_DelT Γ2 Γ3 [.ar 1000000, .p (.fn f_needs2 [] [.cp [.sl 3 (ags (lev nt (k + 1)))]])] [.arr 3 (ags (openL nt k))] = some (.sub 1000000 0 (openL nt (k + 1)).length, [.arr 3 (ags (openL nt (k + 1) ++ restZ nt (k + 1)))], []) := by
  have hD : al3 (lev nt (k + 1)) = true := al3_of fun t ht => (List.mem_filter.1 ht).1
  have hL : al3 (openL nt k) = true := al3_of openL_sub
  have l1 := lev_len165 nt (k + 1)
  have l2 := openL_len nt k
  have a2 := ask_needs2 h2 hD (by omega) hL
  have a3 := ask_needs2 h3 hD (by omega) hL
  obtain ⟨d1, d2⟩ := del_lists N hk
  have hle : (openL nt k).length ≤ 1100000 := by omega
  have hG := isG_ags hL
  simp only [c_DelT, hG, ags_len, hle, a2, a3, d1, and_self, if_true, ofags, delL, d2, kpI_lenE (d := PV.np) (e := ([] : List Int)) (ags (openL nt k)) (openL nt k)]
  subst hk0
  simp [restZ]
theorem del_needs {both : Bool} {nt : List Int → Nat} {R k : Nat} (N : NT both nt R) (hk : k < R) {Γ2 Γ3 : Gam} {f_needs2 : FuncId} (h2 : Γ2 f_needs2 = c_needs2) (h3 : Γ3 f_needs2 = c_needs2) :
    c_DelT Γ2 Γ3 [.sub 1000000 0 (openL nt k).length, .p (.fn f_needs2 [] [.cp [.sl 3 (ags (lev nt (k + 1)))]])] [.arr 3 (ags (openL nt k ++ restZ nt k))] = some (.sub 1000000 0 (openL nt (k + 1)).length, [.arr 3 (ags (openL nt (k + 1) ++ restZ nt (k + 1)))], []) := by
  have hD : al3 (lev nt (k + 1)) = true := al3_of fun t ht => (List.mem_filter.1 ht).1
  have hL : al3 (openL nt k) = true := al3_of openL_sub
  have hZ := restZ_al3 nt k
  have l1 := lev_len165 nt (k + 1)
  have l2 := openL_len nt k
  have l3 := restZ_len nt k
  have l4 := openL_len nt 0
  have a2 := ask_needs2 h2 hD (by omega) hL
  have a3 := ask_needs2 h3 hD (by omega) hL
  obtain ⟨d1, d2⟩ := del_lists N hk
  have hle : (openL nt k ++ restZ nt k).length ≤ 1100000 := by rw [List.length_append]; omega
  have hle2 : (openL nt k).length ≤ (openL nt k ++ restZ nt k).length := by rw [List.length_append]; omega
  have hG := isG_ags (al3_app hL hZ)
  have ht : (ags (openL nt k ++ restZ nt k)).take (openL nt k).length = ags (openL nt k) := by rw [ags_take, List.take_left]
  have hd : (ags (openL nt k ++ restZ nt k)).drop (openL nt k).length = ags (restZ nt k) := by rw [ags_drop, List.drop_left]
  simp only [c_DelT, hG, ags_len, hle, hle2, ht, hd, a2, a3, d1, and_self, if_true, ofags, delL, d2, kpI_lenE (d := PV.np) (e := ([] : List Int)) (ags (openL nt k)) (openL nt k)]
  simp [restZ]
set_option maxHeartbeats 4000000 in
theorem needs_walk {P : Program} (hm : P.follows .mixedOrders = true) {Γ : Gam} (hΓ : GS P Γ) {n : FuncId} {f_splits f_needs1 f_ContainsFuncS f_needs2 f_DelT : FuncId} (is : Is P n (a_needs f_splits f_needs1 f_ContainsFuncS f_needs2 f_DelT)) (h_splits : Γ f_splits = c_splits) {Γ0 Γ1 Γ2 Γ3 : Gam} (h_ContainsFuncS : Γ f_ContainsFuncS = c_ContainsFuncS Γ0) (h_needs1 : Γ0 f_needs1 = c_needs1 Γ1) (h_DelT : Γ f_DelT = c_DelT Γ2 Γ3) (h_needs2a : Γ2 f_needs2 = c_needs2) (h_needs2b : Γ3 f_needs2 = c_needs2)
    {g : FuncId} {both : Bool} {nt : List Int → Nat} {R : Nat} (N : NT both nt R) (hRb : R ≤ 1000) (hg : isRule Γ1 g both) : PC P n [.p (.fn g [] [])] [] (.mp 2000000) [] [.map (ents (eL nt R))] := by
  refine is.go hm hΓ k_needs o_needs (by simp [a_needs]) ?_
  simp only [a_needs, List.zipIdx_cons, List.zipIdx_nil, ↓SP, SQ, Gam.add, stepM, callC, argC, lendO, nmBy, nmC, likeL, likeB, plainOb, offs, exL, X, F, trP, trO, stepD, stepW, newA, SV.tr, SV.trL, fz, allP, Ob.tr, loadA, cellsA, SV.cells, binA, binI, eqOut, isSl, isPt, natOf, callee, snap, SV.refsL, SV.refs, thaw, fzAll, loA, hiA, elemOf, partsA, buildA, putCells, ↓reduceIte, reduceCtorEq, okCell, Nat.reduceAdd, Nat.reduceEqDiff, Nat.reduceSub, Nat.reduceMul, Nat.reduceLeDiff, Nat.reduceLT, Nat.reduceBEq, PV.scal, PV.scalL, SV.scal, SV.scalL, Ob.scal, PV.isCell, pure', resO]
  refine loop_at (fun s : K => mkEnv [(0, .p (.fn g [] [])), (1, .bx 1 0), (2, .p .nilmap), (3, .bx 3 0), (4, .ar 16), (5, s.s5), (6, s.s6), (7, s.s7), (8, s.s8), (9, .junk), (10, .junk), (12, .junk), (14, .junk), (17, si s.i), (18, s.s18), (21, s.s21), (22, s.s22), (23, s.s23), (28, s.s28), (29, s.s29), (30, s.s30), (41, s.s41), (53, .junk), (57, .junk), (58, .junk), (59, .junk), (60, .junk), (66, .junk), (72, .junk), (73, .junk), (74, .junk), (75, .junk)]) (fun s => mkO [(1, some (.box [.p (.fn g [] [])])), (3, some (.box [.mp 15])), (8, s.o8), (10, none), (12, none), (14, none), (15, some (.map (ents (tdE (pre s.i 0 0))))), (16, some (.arr 3 (ags (opT (pre s.i 0 0))))), (46, s.o46), (47, none), (56, none), (69, none), (70, none)]) (fun s => s.i ≤ 9) (fun s => 9 - s.i) ⟨0, .junk, .junk, .junk, .junk, .junk, .junk, .junk, .junk, .junk, .junk, .junk, .junk, .junk, .junk, .junk, .junk, .junk, .junk, .junk, .junk, .junk, .junk, .junk, .junk, .junk, .junk, none, none, none, none, none, none⟩ (by simp) rfl (by simp [pre, rwA, rwB, rwC, tdE, opT, ents, ags]) ?_
  rintro ⟨a, us5, us6, us7, us8, us10, us12, us14, us17, us18, us21, us22, us23, us28, us29, us30, us41, us53, us57, us58, us59, us60, us66, us72, us73, us74, us75, uo8, uo10, uo14, uo46, uo56, uo69⟩ ha R1 hR1 hN1
  simp only at ha
  by_cases h : a < 9
  · have h1 : (a : Int) < 9 := by omega
    have hw := wrap_one (i := a) (by omega)
    have hw9 : IntKind.i64.wrap (9 - (a : Int)) = ((9 - a : Nat) : Int) := by rw [wrap64 (by omega) (by omega)]; omega
    simp only [h1, hw9, ↓SP, SQ, Gam.add, stepM, callC, argC, lendO, nmBy, nmC, likeL, likeB, plainOb, offs, exL, X, F, trP, trO, stepD, stepW, newA, SV.tr, SV.trL, fz, allP, Ob.tr, loadA, cellsA, SV.cells, binA, binI, eqOut, isSl, isPt, natOf, callee, snap, SV.refsL, SV.refs, thaw, fzAll, loA, hiA, elemOf, partsA, buildA, putCells, ↓reduceIte, reduceCtorEq, okCell, Nat.reduceAdd, Nat.reduceEqDiff, Nat.reduceSub, Nat.reduceMul, Nat.reduceLeDiff, Nat.reduceLT, Nat.reduceBEq, PV.scal, PV.scalL, SV.scal, SV.scalL, Ob.scal, PV.isCell, pure', resO]
    refine loop_at (fun s : K => mkEnv [(0, .p (.fn g [] [])), (1, .bx 1 0), (2, .p .nilmap), (3, .bx 3 0), (4, .ar 16), (5, si a), (6, s.s6), (7, s.s7), (8, s.s8), (9, .junk), (10, .junk), (12, .junk), (14, .junk), (17, si a), (18, sb true), (21, si ((9 - a : Nat) : Int)), (22, si s.i), (23, s.s23), (28, s.s28), (29, s.s29), (30, s.s30), (41, s.s41), (53, .junk), (57, .junk), (58, .junk), (59, .junk), (60, .junk), (66, .junk), (72, .junk), (73, .junk), (74, .junk), (75, .junk)]) (fun s => mkO [(1, some (.box [.p (.fn g [] [])])), (3, some (.box [.mp 15])), (8, s.o8), (10, none), (12, none), (14, none), (15, some (.map (ents (tdE (pre a s.i 0))))), (16, some (.arr 3 (ags (opT (pre a s.i 0))))), (46, s.o46), (47, none), (56, none), (69, none), (70, none)]) (fun s => s.i ≤ 9 - a) (fun s => 9 - a - s.i) ⟨0, .junk, _, _, _, .junk, .junk, .junk, .junk, .junk, .junk, .junk, _, _, _, _, _, .junk, .junk, .junk, .junk, .junk, .junk, .junk, .junk, .junk, .junk, _, none, none, _, none, none⟩ (by simp) rfl rfl ?_
    rintro ⟨b, vs5, vs6, vs7, vs8, vs10, vs12, vs14, vs17, vs18, vs21, vs22, vs23, vs28, vs29, vs30, vs41, vs53, vs57, vs58, vs59, vs60, vs66, vs72, vs73, vs74, vs75, vo8, vo10, vo14, vo46, vo56, vo69⟩ hb R2 hR2 hN2
    simp only at hb
    by_cases hbl : b < 9 - a
    · have h2 : (b : Int) < ((9 - a : Nat) : Int) := Int.ofNat_lt.2 hbl
      have hw2 := wrap_one (i := b) (by omega)
      have hw8 : IntKind.i64.wrap (((9 - a : Nat) : Int) - (b : Int)) = ((9 - a - b : Nat) : Int) := by rw [wrap64 (by omega) (by omega)]; omega
      simp only [h2, hw9, hw8, ↓SP, SQ, Gam.add, stepM, callC, argC, lendO, nmBy, nmC, likeL, likeB, plainOb, offs, exL, X, F, trP, trO, stepD, stepW, newA, SV.tr, SV.trL, fz, allP, Ob.tr, loadA, cellsA, SV.cells, binA, binI, eqOut, isSl, isPt, natOf, callee, snap, SV.refsL, SV.refs, thaw, fzAll, loA, hiA, elemOf, partsA, buildA, putCells, ↓reduceIte, reduceCtorEq, okCell, Nat.reduceAdd, Nat.reduceEqDiff, Nat.reduceSub, Nat.reduceMul, Nat.reduceLeDiff, Nat.reduceLT, Nat.reduceBEq, PV.scal, PV.scalL, SV.scal, SV.scalL, Ob.scal, PV.isCell, pure', resO]
      refine loop_at (fun s : K => mkEnv [(0, .p (.fn g [] [])), (1, .bx 1 0), (2, .p .nilmap), (3, .bx 3 0), (4, .ar 16), (5, si a), (6, si b), (7, s.s7), (8, s.s8), (9, .junk), (10, .junk), (12, .junk), (14, .junk), (17, si a), (18, sb true), (21, si ((9 - a : Nat) : Int)), (22, si b), (23, sb true), (28, si ((9 - a - b : Nat) : Int)), (29, si s.i), (30, s.s30), (41, s.s41), (53, .junk), (57, .junk), (58, .junk), (59, .junk), (60, .junk), (66, .junk), (72, .junk), (73, .junk), (74, .junk), (75, .junk)]) (fun s => mkO [(1, some (.box [.p (.fn g [] [])])), (3, some (.box [.mp 15])), (8, s.o8), (10, none), (12, none), (14, none), (15, some (.map (ents (tdE (pre a b s.i))))), (16, some (.arr 3 (ags (opT (pre a b s.i))))), (46, s.o46), (47, none), (56, none), (69, none), (70, none)]) (fun s => s.i ≤ 9 - a - b) (fun s => 9 - a - b - s.i) ⟨0, .junk, .junk, _, _, .junk, .junk, .junk, .junk, .junk, .junk, .junk, .junk, .junk, .junk, _, _, .junk, .junk, .junk, .junk, .junk, .junk, .junk, .junk, .junk, .junk, _, none, none, _, none, none⟩ (by simp) rfl rfl ?_
      rintro ⟨c, ws5, ws6, ws7, ws8, ws10, ws12, ws14, ws17, ws18, ws21, ws22, ws23, ws28, ws29, ws30, ws41, ws53, ws57, ws58, ws59, ws60, ws66, ws72, ws73, ws74, ws75, wo8, wo10, wo14, wo46, wo56, wo69⟩ hc R3 hR3 hN3
      simp only at hc
      by_cases hcl : c < 9 - a - b
      · have h3 : (c : Int) < ((9 - a - b : Nat) : Int) := Int.ofNat_lt.2 hcl
        have hw3 := wrap_one (i := c) (by omega)
        have hwab : IntKind.i64.wrap ((a : Int) + (b : Int)) = ((a + b : Nat) : Int) := by rw [wrap64 (by omega) (by omega)]; omega
        have hwabc : IntKind.i64.wrap (((a + b : Nat) : Int) + (c : Int)) = ((a + b + c : Nat) : Int) := by rw [wrap64 (by omega) (by omega)]; omega
        have hI : [PV.int .i64 (a : Int), .int .i64 (b : Int), .int .i64 (c : Int)] = ints [(a : Int), (b : Int), (c : Int)] := rfl
        have hl3 : [(a : Int), (b : Int), (c : Int)].length = 3 := rfl
        by_cases hsum : a + b + c ≤ 1
        · have hs1 : ((a + b + c : Nat) : Int) ≤ 1 := by omega
          have htd : told [(a : Int), (b : Int), (c : Int)] = true := by exact dec_t (by simp; omega)
          have hE := tdE_yes (P := pre a b c) htd
          have hO := opT_yes (P := pre a b c) htd
          rw [← pre_c] at hE hO
          have ha3 : all3 (tdE (pre a b c)) = true := all3_map fun t ht => pre_3 t (List.mem_filter.1 ht).1
          have hlk : lk [(a : Int), (b : Int), (c : Int)] (tdE (pre a b c)) = none := by
            rw [tdE, lk_map, if_neg]
            exact fun e => pre_fresh a b c (List.mem_filter.1 e).1
          have hms := mset_ents (v := 0) hl3 ha3 hlk
          have hko := keysOk_ents ha3
          rw [← hE] at hms
          simp only [h3, hw3, hwab, hwabc, hs1, hI, hl3, hms, hko, keyA, ints_isInt, ints_len, ↓SP, SQ, Gam.add, stepM, callC, argC, lendO, nmBy, nmC, likeL, likeB, plainOb, offs, exL, X, F, trP, trO, stepD, stepW, newA, SV.tr, SV.trL, fz, allP, Ob.tr, loadA, cellsA, SV.cells, binA, binI, eqOut, isSl, isPt, natOf, callee, snap, SV.refsL, SV.refs, thaw, fzAll, loA, hiA, elemOf, partsA, buildA, putCells, ↓reduceIte, reduceCtorEq, okCell, Nat.reduceAdd, Nat.reduceEqDiff, Nat.reduceSub, Nat.reduceMul, Nat.reduceLeDiff, Nat.reduceLT, Nat.reduceBEq, PV.scal, PV.scalL, SV.scal, SV.scalL, Ob.scal, PV.isCell, pure', resO]
          exact hN3 ⟨c + 1, .junk, .junk, _, _, .junk, .junk, .junk, .junk, .junk, .junk, .junk, .junk, .junk, .junk, _, _, .junk, .junk, .junk, .junk, .junk, .junk, .junk, .junk, .junk, .junk, _, none, none, _, none, none⟩ _ _ (by simp only; omega) (by simp only; omega) rfl (by rw [hO])
        · have hs1 : ¬ ((a + b + c : Nat) : Int) ≤ 1 := by omega
          have htd : told [(a : Int), (b : Int), (c : Int)] = false := by exact dec_f (by simp; omega)
          have hE := tdE_no (P := pre a b c) htd
          have hO := opT_no (P := pre a b c) htd
          rw [← pre_c] at hE hO
          have hpl := pre_len (a := a) (b := b) (c := c) (by omega) (by omega) (by omega)
          have hol := opT_len (pre a b c)
          have hr : (opT (pre a b c)).length + 1 ≤ roomA := by unfold roomA; omega
          simp only [h3, hw3, hwab, hwabc, hs1, hI, hl3, hr, ← hO, ags_len, ags_app1, ags_cell, ints_len, ints_isCell, ↓SP, SQ, Gam.add, stepM, callC, argC, lendO, nmBy, nmC, likeL, likeB, plainOb, offs, exL, X, F, trP, trO, stepD, stepW, newA, SV.tr, SV.trL, fz, allP, Ob.tr, loadA, cellsA, SV.cells, binA, binI, eqOut, isSl, isPt, natOf, callee, snap, SV.refsL, SV.refs, thaw, fzAll, loA, hiA, elemOf, partsA, buildA, putCells, ↓reduceIte, reduceCtorEq, okCell, Nat.reduceAdd, Nat.reduceEqDiff, Nat.reduceSub, Nat.reduceMul, Nat.reduceLeDiff, Nat.reduceLT, Nat.reduceBEq, PV.scal, PV.scalL, SV.scal, SV.scalL, Ob.scal, PV.isCell, pure', resO]
          exact hN3 ⟨c + 1, .junk, .junk, _, _, .junk, .junk, .junk, .junk, .junk, .junk, .junk, .junk, .junk, .junk, _, _, .junk, .junk, .junk, .junk, .junk, .junk, .junk, .junk, .junk, .junk, _, none, none, _, none, none⟩ _ _ (by simp only; omega) (by simp only; omega) rfl (by rw [hE])
      · have hce : c = 9 - a - b := by omega
        have h3 : ¬ ((9 - a - b : Nat) : Int) < ((9 - a - b : Nat) : Int) := by omega
        subst hce
        simp only [h3, ↓SP, SQ, Gam.add, stepM, callC, argC, lendO, nmBy, nmC, likeL, likeB, plainOb, offs, exL, X, F, trP, trO, stepD, stepW, newA, SV.tr, SV.trL, fz, allP, Ob.tr, loadA, cellsA, SV.cells, binA, binI, eqOut, isSl, isPt, natOf, callee, snap, SV.refsL, SV.refs, thaw, fzAll, loA, hiA, elemOf, partsA, buildA, putCells, ↓reduceIte, reduceCtorEq, okCell, Nat.reduceAdd, Nat.reduceEqDiff, Nat.reduceSub, Nat.reduceMul, Nat.reduceLeDiff, Nat.reduceLT, Nat.reduceBEq, PV.scal, PV.scalL, SV.scal, SV.scalL, Ob.scal, PV.isCell, pure', resO]
        refine hR3 _ _ _ (by intro h; cases h) ?_
        simp only [hw2, pre_b, ↓SP, SQ, Gam.add, stepM, callC, argC, lendO, nmBy, nmC, likeL, likeB, plainOb, offs, exL, X, F, trP, trO, stepD, stepW, newA, SV.tr, SV.trL, fz, allP, Ob.tr, loadA, cellsA, SV.cells, binA, binI, eqOut, isSl, isPt, natOf, callee, snap, SV.refsL, SV.refs, thaw, fzAll, loA, hiA, elemOf, partsA, buildA, putCells, ↓reduceIte, reduceCtorEq, okCell, Nat.reduceAdd, Nat.reduceEqDiff, Nat.reduceSub, Nat.reduceMul, Nat.reduceLeDiff, Nat.reduceLT, Nat.reduceBEq, PV.scal, PV.scalL, SV.scal, SV.scalL, Ob.scal, PV.isCell, pure', resO]
        exact hN2 ⟨b + 1, .junk, _, _, _, .junk, .junk, .junk, .junk, .junk, .junk, .junk, _, _, _, _, _, .junk, .junk, .junk, .junk, .junk, .junk, .junk, .junk, .junk, .junk, _, none, none, _, none, none⟩ _ _ (by simp only; omega) (by simp only; omega) rfl rfl
    · have hbe : b = 9 - a := by omega
      have h2 : ¬ ((9 - a : Nat) : Int) < ((9 - a : Nat) : Int) := by omega
      subst hbe
      simp only [h2, ↓SP, SQ, Gam.add, stepM, callC, argC, lendO, nmBy, nmC, likeL, likeB, plainOb, offs, exL, X, F, trP, trO, stepD, stepW, newA, SV.tr, SV.trL, fz, allP, Ob.tr, loadA, cellsA, SV.cells, binA, binI, eqOut, isSl, isPt, natOf, callee, snap, SV.refsL, SV.refs, thaw, fzAll, loA, hiA, elemOf, partsA, buildA, putCells, ↓reduceIte, reduceCtorEq, okCell, Nat.reduceAdd, Nat.reduceEqDiff, Nat.reduceSub, Nat.reduceMul, Nat.reduceLeDiff, Nat.reduceLT, Nat.reduceBEq, PV.scal, PV.scalL, SV.scal, SV.scalL, Ob.scal, PV.isCell, pure', resO]
      refine hR2 _ _ _ (by intro h; cases h) ?_
      simp only [hw, pre_a, ↓SP, SQ, Gam.add, stepM, callC, argC, lendO, nmBy, nmC, likeL, likeB, plainOb, offs, exL, X, F, trP, trO, stepD, stepW, newA, SV.tr, SV.trL, fz, allP, Ob.tr, loadA, cellsA, SV.cells, binA, binI, eqOut, isSl, isPt, natOf, callee, snap, SV.refsL, SV.refs, thaw, fzAll, loA, hiA, elemOf, partsA, buildA, putCells, ↓reduceIte, reduceCtorEq, okCell, Nat.reduceAdd, Nat.reduceEqDiff, Nat.reduceSub, Nat.reduceMul, Nat.reduceLeDiff, Nat.reduceLT, Nat.reduceBEq, PV.scal, PV.scalL, SV.scal, SV.scalL, Ob.scal, PV.isCell, pure', resO]
      exact hN1 ⟨a + 1, _, _, _, _, .junk, .junk, .junk, .junk, _, _, _, _, _, _, _, _, .junk, .junk, .junk, .junk, .junk, .junk, .junk, .junk, .junk, .junk, _, none, none, _, none, none⟩ _ _ (by simp only; omega) (by simp only; omega) rfl rfl
  · have hae : a = 9 := by omega
    have h1 : ¬ (((9 : Nat) : Int)) < 9 := by omega
    subst hae
    simp only [h1, ↓SP, SQ, Gam.add, stepM, callC, argC, lendO, nmBy, nmC, likeL, likeB, plainOb, offs, exL, X, F, trP, trO, stepD, stepW, newA, SV.tr, SV.trL, fz, allP, Ob.tr, loadA, cellsA, SV.cells, binA, binI, eqOut, isSl, isPt, natOf, callee, snap, SV.refsL, SV.refs, thaw, fzAll, loA, hiA, elemOf, partsA, buildA, putCells, ↓reduceIte, reduceCtorEq, okCell, Nat.reduceAdd, Nat.reduceEqDiff, Nat.reduceSub, Nat.reduceMul, Nat.reduceLeDiff, Nat.reduceLT, Nat.reduceBEq, PV.scal, PV.scalL, SV.scal, SV.scalL, Ob.scal, PV.isCell, pure', resO]
    refine hR1 _ _ _ (by intro h; cases h) ?_
    simp only [↓SP, SQ, Gam.add, stepM, callC, argC, lendO, nmBy, nmC, likeL, likeB, plainOb, offs, exL, X, F, trP, trO, stepD, stepW, newA, SV.tr, SV.trL, fz, allP, Ob.tr, loadA, cellsA, SV.cells, binA, binI, eqOut, isSl, isPt, natOf, callee, snap, SV.refsL, SV.refs, thaw, fzAll, loA, hiA, elemOf, partsA, buildA, putCells, ↓reduceIte, reduceCtorEq, okCell, Nat.reduceAdd, Nat.reduceEqDiff, Nat.reduceSub, Nat.reduceMul, Nat.reduceLeDiff, Nat.reduceLT, Nat.reduceBEq, PV.scal, PV.scalL, SV.scal, SV.scalL, Ob.scal, PV.isCell, pure', resO]
    have hP : pre 9 0 0 = allT := by simp [pre, rwB, rwC, allT]
    have hE0 : tdE (pre 9 0 0) = eL nt 0 := by rw [hP, tdE, told_eq N]; rfl
    have hO0 : opT (pre 9 0 0) = openL nt 0 ++ restZ nt 0 := by rw [hP, opT, untold_eq N]; simp [restZ]
    simp only [hE0, hO0]
    refine loop_at (fun s : K => mkEnv [(0, .p (.fn g [] [])), (1, .bx 1 0), (2, .p .nilmap), (3, .bx 3 0), (4, match s.i with | 0 => .ar 16 | _ + 1 => .sub 16 0 (openL nt s.i).length), (5, s.s5), (6, s.s6), (7, s.s7), (8, s.s8), (9, si ((s.i + 1 : Nat) : Int)), (10, s.s10), (12, s.s12), (14, s.s14), (17, s.s17), (18, s.s18), (21, s.s21), (22, s.s22), (23, s.s23), (28, s.s28), (29, s.s29), (30, s.s30), (41, s.s41), (53, s.s53), (57, s.s57), (58, s.s58), (59, s.s59), (60, s.s60), (66, s.s66), (72, s.s72), (73, s.s73), (74, s.s74), (75, s.s75)]) (fun s => mkO [(1, some (.box [.p (.fn g [] [])])), (3, some (.box [.mp 15])), (8, s.o8), (10, s.o10), (12, none), (14, s.o14), (15, some (.map (ents (eL nt s.i)))), (16, some (.arr 3 (ags (openL nt s.i ++ restZ nt s.i)))), (46, s.o46), (47, none), (56, s.o56), (69, s.o69), (70, none)]) (fun s => s.i ≤ R) (fun s => R - s.i) ⟨0, _, _, _, _, .junk, .junk, .junk, _, _, _, _, _, _, _, _, _, .junk, .junk, .junk, .junk, .junk, .junk, .junk, .junk, .junk, .junk, _, none, none, _, none, none⟩ (by simp) rfl rfl ?_
    rintro ⟨k, as5, as6, as7, as8, as10, as12, as14, as17, as18, as21, as22, as23, as28, as29, as30, as41, as53, as57, as58, as59, as60, as66, as72, as73, as74, as75, ao8, ao10, ao14, ao46, ao56, ao69⟩ hk R1 hR1 hN1
    simp only at hk
    have hR9 : R ≤ 1000 := hRb
    by_cases h : k < R
    · have hpos := open_ne N h
      have hw := wrap_one (i := k + 1) (by omega)
      have hM := openL_len nt k
      have hlv := lev_len165 nt (k + 1)
      have hrl := restZ_len nt k
      have hrl2 := restZ_len nt (k + 1)
      have hO165 := openL_len nt 0
      have hal : al3 (openL nt k) = true := al3_of openL_sub
      have hq0 : ∀ i, i < (openL nt k).length → (openL nt k).take (i + 1) = (openL nt k).take i ++ [(openL nt k).getD i []] := fun i hi => take_one _ i [] hi
      cases k with
      | zero =>
        have hz0 : openL nt 0 ++ restZ nt 0 = openL nt 0 := by simp [restZ]
        have hLT : (openL nt 0).length = (openL nt 0).length := rfl
        have hlv1 : (lev nt 1).length ≤ 165 := hlv
        have hrl21 : (openL nt 1).length + (restZ nt 1).length = (openL nt 0).length := hrl2
        simp only [hz0]
        have h1 : ((openL nt (0)).length : Int) > 0 := by omega
        simp only [h1, ags_len, Nat.sub_zero, ↓SP, SQ, Gam.add, stepM, callC, argC, lendO, nmBy, nmC, likeL, likeB, plainOb, offs, exL, X, F, trP, trO, stepD, stepW, newA, SV.tr, SV.trL, fz, allP, Ob.tr, loadA, cellsA, SV.cells, binA, binI, eqOut, isSl, isPt, natOf, callee, snap, SV.refsL, SV.refs, thaw, fzAll, loA, hiA, elemOf, partsA, buildA, putCells, ↓reduceIte, reduceCtorEq, okCell, Nat.reduceAdd, Nat.reduceEqDiff, Nat.reduceSub, Nat.reduceMul, Nat.reduceLeDiff, Nat.reduceLT, Nat.reduceBEq, PV.scal, PV.scalL, SV.scal, SV.scalL, Ob.scal, PV.isCell, pure', resO]
        refine loop_at (fun s : K => mkEnv [(0, .p (.fn g [] [])), (1, .bx 1 0), (2, .p .nilmap), (3, .bx 3 0), (4, .ar 16), (5, s.s5), (6, s.s6), (7, s.s7), (8, s.s8), (9, si ((1 : Nat) : Int)), (10, .bx 10 0), (12, s.s12), (14, s.s14), (17, s.s17), (18, s.s18), (21, s.s21), (22, s.s22), (23, s.s23), (28, s.s28), (29, s.s29), (30, s.s30), (41, s.s41), (53, sb true), (57, .ar 16), (58, si (openL nt (0)).length), (59, si s.i), (60, s.s60), (66, s.s66), (72, s.s72), (73, s.s73), (74, s.s74), (75, s.s75)]) (fun s => mkO [(1, some (.box [.p (.fn g [] [])])), (3, some (.box [.mp 15])), (8, s.o8), (10, some (.box [.ar 56])), (12, none), (14, s.o14), (15, some (.map (ents (eL nt (0))))), (16, some (.arr 3 (ags (openL nt (0))))), (46, s.o46), (47, none), (56, some (.arr 3 (ags (((openL nt (0)).take s.i).filter fun t => decide (nt t ≤ 1))))), (69, s.o69), (70, none)]) (fun s => s.i ≤ (openL nt (0)).length) (fun s => (openL nt (0)).length - s.i) ⟨0, _, _, _, _, .junk, _, _, _, _, _, _, _, _, _, _, _, .junk, .junk, .junk, .junk, _, _, _, _, _, _, _, none, _, _, none, _⟩ (by simp) rfl rfl ?_
        rintro ⟨i, bs5, bs6, bs7, bs8, bs10, bs12, bs14, bs17, bs18, bs21, bs22, bs23, bs28, bs29, bs30, bs41, bs53, bs57, bs58, bs59, bs60, bs66, bs72, bs73, bs74, bs75, bo8, bo10, bo14, bo46, bo56, bo69⟩ hi R2 hR2 hN2
        simp only at hi
        by_cases hlt : i < (openL nt (0)).length
        · have h2 : (i : Int) < (openL nt (0)).length := by omega
          have hwi := wrap_one (i := i) (by omega)
          obtain ⟨a, b, c, habc⟩ := al3_get3 hal hlt
          have hmem : [a, b, c] ∈ openL nt (0) := by rw [← habc, getD_lt hlt]; exact List.getElem_mem hlt
          have hallT := openL_sub _ hmem
          have hunt := open_told N hmem
          have h8 := inT_in8 (mem_allT.1 hallT)
          have hg2 : (ags (openL nt (0)))[i]? = some (.agg [.int .i64 a, .int .i64 b, .int .i64 c]) := ags_get3' (by rw [hLT]; omega) (by exact habc)
          have hI : [PV.int .i64 a, .int .i64 b, .int .i64 c] = ints [a, b, c] := rfl
          have hl3 : [a, b, c].length ≤ 3 := Nat.le_refl _
          have hsl : (splL [a, b, c]).length ≤ 1100000 := Nat.le_trans (spI_len3 h8 (Nat.le_refl 3)) (by omega)
          have hask := ask_needs1 (k := 0) N h_needs1 hg hallT hunt
          rw [hI] at hask
          have htk : (ints [a, b, c]).take 3 = ints [a, b, c] := rfl
          have hl3e : [a, b, c].length = 3 := rfl
          have hwit : (((splL [a, b, c]).map fun s => decide (nt (yb both [a, b, c] s) ≤ (0)) && decide (nt (noL [a, b, c] s) ≤ (0))).any id) = decide (nt [a, b, c] ≤ 1) := by
            rw [← N.wit _ hallT hunt (0), List.any_map]; rfl
          have hiL : i < (openL nt 0).length := by omega
          have hMle : (openL nt (0)).length ≤ (openL nt 0).length := by omega
          have hq := hq0 i hlt
          rw [habc] at hq
          by_cases hnt : nt [a, b, c] ≤ 1
          · have hfi : (((openL nt (0)).take i).filter fun t => decide (nt t ≤ 1)) ++ [[a, b, c]] = ((openL nt (0)).take (i + 1)).filter fun t => decide (nt t ≤ 1) := by
              rw [hq, List.filter_append]; simp only [List.filter_cons, dec_t hnt, List.filter_nil, if_true]
            have hfl : (((openL nt (0)).take i).filter fun t => decide (nt t ≤ 1)).length ≤ i := Nat.le_trans (List.length_filter_le _ _) (by simp; omega)
            have hrm : (((openL nt (0)).take i).filter fun t => decide (nt t ≤ 1)).length + 1 ≤ roomA := by unfold roomA; omega
            rw [dec_t hnt] at hwit
            simp only [h2, hlt, hiL, hMle, hLT, hwi, hg2, Nat.zero_add, ags_len, PV.isCell, List.all_cons, List.all_nil, Bool.and_self, allP, ↓SP, SQ, Gam.add, stepM, callC, argC, lendO, nmBy, nmC, likeL, likeB, plainOb, offs, exL, X, F, trP, trO, stepD, stepW, newA, SV.tr, SV.trL, fz, allP, Ob.tr, loadA, cellsA, SV.cells, binA, binI, eqOut, isSl, isPt, natOf, callee, snap, SV.refsL, SV.refs, thaw, fzAll, loA, hiA, elemOf, partsA, buildA, putCells, ↓reduceIte, reduceCtorEq, okCell, Nat.reduceAdd, Nat.reduceEqDiff, Nat.reduceSub, Nat.reduceMul, Nat.reduceLeDiff, Nat.reduceLT, Nat.reduceBEq, PV.scal, PV.scalL, SV.scal, SV.scalL, Ob.scal, PV.isCell, pure', resO]
            simp only [hI, hl3, h8, h_splits, c_splits, isI_ints, ofI_ints, ints_len, isS_sls, sls_len, hsl, hask, hwit, h_ContainsFuncS, c_ContainsFuncS, ↓SP, SQ, Gam.add, stepM, callC, argC, lendO, nmBy, nmC, likeL, likeB, plainOb, offs, exL, X, F, trP, trO, stepD, stepW, newA, SV.tr, SV.trL, fz, allP, Ob.tr, loadA, cellsA, SV.cells, binA, binI, eqOut, isSl, isPt, natOf, callee, snap, SV.refsL, SV.refs, thaw, fzAll, loA, hiA, elemOf, partsA, buildA, putCells, ↓reduceIte, reduceCtorEq, okCell, Nat.reduceAdd, Nat.reduceEqDiff, Nat.reduceSub, Nat.reduceMul, Nat.reduceLeDiff, Nat.reduceLT, Nat.reduceBEq, PV.scal, PV.scalL, SV.scal, SV.scalL, Ob.scal, PV.isCell, pure', resO]
            simp only [hfi, hrm, hwi, htk, hl3e, ags_len, ags_app1, ags_cell, ints_len, ints_isCell, PV.cells, ↓SP, SQ, Gam.add, stepM, callC, argC, lendO, nmBy, nmC, likeL, likeB, plainOb, offs, exL, X, F, trP, trO, stepD, stepW, newA, SV.tr, SV.trL, fz, allP, Ob.tr, loadA, cellsA, SV.cells, binA, binI, eqOut, isSl, isPt, natOf, callee, snap, SV.refsL, SV.refs, thaw, fzAll, loA, hiA, elemOf, partsA, buildA, putCells, ↓reduceIte, reduceCtorEq, okCell, Nat.reduceAdd, Nat.reduceEqDiff, Nat.reduceSub, Nat.reduceMul, Nat.reduceLeDiff, Nat.reduceLT, Nat.reduceBEq, PV.scal, PV.scalL, SV.scal, SV.scalL, Ob.scal, PV.isCell, pure', resO]
            exact hN2 ⟨i + 1, _, _, _, _, .junk, _, _, _, _, _, _, _, _, _, _, _, .junk, .junk, .junk, .junk, _, _, _, _, _, _, _, none, _, _, none, _⟩ _ _ (by simp only; omega) (by simp only; omega) rfl rfl
          · have hfi : (((openL nt (0)).take (i + 1)).filter fun t => decide (nt t ≤ 1)) = ((openL nt (0)).take i).filter fun t => decide (nt t ≤ 1) := by
              rw [hq, List.filter_append]; simp only [List.filter_cons, dec_f hnt, List.filter_nil, Bool.false_eq_true, if_false, List.append_nil]
            rw [dec_f hnt] at hwit
            simp only [h2, hlt, hiL, hMle, hLT, hwi, hg2, Nat.zero_add, ags_len, PV.isCell, List.all_cons, List.all_nil, Bool.and_self, allP, ↓SP, SQ, Gam.add, stepM, callC, argC, lendO, nmBy, nmC, likeL, likeB, plainOb, offs, exL, X, F, trP, trO, stepD, stepW, newA, SV.tr, SV.trL, fz, allP, Ob.tr, loadA, cellsA, SV.cells, binA, binI, eqOut, isSl, isPt, natOf, callee, snap, SV.refsL, SV.refs, thaw, fzAll, loA, hiA, elemOf, partsA, buildA, putCells, ↓reduceIte, reduceCtorEq, okCell, Nat.reduceAdd, Nat.reduceEqDiff, Nat.reduceSub, Nat.reduceMul, Nat.reduceLeDiff, Nat.reduceLT, Nat.reduceBEq, PV.scal, PV.scalL, SV.scal, SV.scalL, Ob.scal, PV.isCell, pure', resO]
            simp only [hI, hl3, h8, h_splits, c_splits, isI_ints, ofI_ints, ints_len, isS_sls, sls_len, hsl, hask, hwit, hwi, h_ContainsFuncS, c_ContainsFuncS, ↓SP, SQ, Gam.add, stepM, callC, argC, lendO, nmBy, nmC, likeL, likeB, plainOb, offs, exL, X, F, trP, trO, stepD, stepW, newA, SV.tr, SV.trL, fz, allP, Ob.tr, loadA, cellsA, SV.cells, binA, binI, eqOut, isSl, isPt, natOf, callee, snap, SV.refsL, SV.refs, thaw, fzAll, loA, hiA, elemOf, partsA, buildA, putCells, ↓reduceIte, reduceCtorEq, okCell, Nat.reduceAdd, Nat.reduceEqDiff, Nat.reduceSub, Nat.reduceMul, Nat.reduceLeDiff, Nat.reduceLT, Nat.reduceBEq, PV.scal, PV.scalL, SV.scal, SV.scalL, Ob.scal, PV.isCell, pure', resO]
            exact hN2 ⟨i + 1, _, _, _, _, .junk, _, _, _, _, _, _, _, _, _, _, _, .junk, .junk, .junk, .junk, _, _, _, _, _, _, _, none, _, _, none, _⟩ _ _ (by simp only; omega) (by simp only; omega) rfl (by rw [hfi])
        · have hie : i = (openL nt (0)).length := by omega
          have h2 : ¬ ((openL nt (0)).length : Int) < (openL nt (0)).length := by omega
          subst hie
          have hnext : (((openL nt (0)).take (openL nt (0)).length).filter fun t => decide (nt t ≤ 1)) = lev nt (1) := by rw [List.take_length, open_next]
          simp only [h2, ↓SP, SQ, Gam.add, stepM, callC, argC, lendO, nmBy, nmC, likeL, likeB, plainOb, offs, exL, X, F, trP, trO, stepD, stepW, newA, SV.tr, SV.trL, fz, allP, Ob.tr, loadA, cellsA, SV.cells, binA, binI, eqOut, isSl, isPt, natOf, callee, snap, SV.refsL, SV.refs, thaw, fzAll, loA, hiA, elemOf, partsA, buildA, putCells, ↓reduceIte, reduceCtorEq, okCell, Nat.reduceAdd, Nat.reduceEqDiff, Nat.reduceSub, Nat.reduceMul, Nat.reduceLeDiff, Nat.reduceLT, Nat.reduceBEq, PV.scal, PV.scalL, SV.scal, SV.scalL, Ob.scal, PV.isCell, pure', resO]
          refine hR2 _ _ _ (by intro h; cases h) ?_
          simp only [hnext, ags_len, ↓SP, SQ, Gam.add, stepM, callC, argC, lendO, nmBy, nmC, likeL, likeB, plainOb, offs, exL, X, F, trP, trO, stepD, stepW, newA, SV.tr, SV.trL, fz, allP, Ob.tr, loadA, cellsA, SV.cells, binA, binI, eqOut, isSl, isPt, natOf, callee, snap, SV.refsL, SV.refs, thaw, fzAll, loA, hiA, elemOf, partsA, buildA, putCells, ↓reduceIte, reduceCtorEq, okCell, Nat.reduceAdd, Nat.reduceEqDiff, Nat.reduceSub, Nat.reduceMul, Nat.reduceLeDiff, Nat.reduceLT, Nat.reduceBEq, PV.scal, PV.scalL, SV.scal, SV.scalL, Ob.scal, PV.isCell, pure', resO]
          refine loop_at (fun s : K => mkEnv [(0, .p (.fn g [] [])), (1, .bx 1 0), (2, .p .nilmap), (3, .bx 3 0), (4, .ar 16), (5, s.s5), (6, s.s6), (7, s.s7), (8, s.s8), (9, si ((1 : Nat) : Int)), (10, .bx 10 0), (12, s.s12), (14, s.s14), (17, s.s17), (18, s.s18), (21, s.s21), (22, s.s22), (23, s.s23), (28, s.s28), (29, s.s29), (30, s.s30), (41, s.s41), (53, sb true), (57, .ar 16), (58, si (openL nt (0)).length), (59, si (openL nt (0)).length), (60, sb false), (66, s.s66), (72, .ar 56), (73, si (lev nt (1)).length), (74, si s.i), (75, s.s75)]) (fun s => mkO [(1, some (.box [.p (.fn g [] [])])), (3, some (.box [.mp 15])), (8, s.o8), (10, some (.box [.ar 56])), (12, none), (14, s.o14), (15, some (.map (ents (eL nt (0) ++ ((lev nt (1)).take s.i).map fun t => (t, (((1 : Nat)) : Int)))))), (16, some (.arr 3 (ags (openL nt (0))))), (46, s.o46), (47, none), (56, some (.arr 3 (ags (lev nt (1))))), (69, s.o69), (70, none)]) (fun s => s.i ≤ (lev nt (1)).length) (fun s => (lev nt (1)).length - s.i) ⟨0, _, _, _, _, .junk, _, _, _, _, _, _, _, _, _, _, _, .junk, .junk, .junk, .junk, .junk, _, .junk, .junk, .junk, _, _, none, _, _, none, _⟩ (by simp) rfl (by simp only [List.take_zero, List.map_nil, List.append_nil]; try rfl) ?_
          rintro ⟨i, ds5, ds6, ds7, ds8, ds10, ds12, ds14, ds17, ds18, ds21, ds22, ds23, ds28, ds29, ds30, ds41, ds53, ds57, ds58, ds59, ds60, ds66, ds72, ds73, ds74, ds75, do8, do10, do14, do46, do56, do69⟩ hi R3 hR3 hN3
          simp only at hi
          by_cases hlt : i < (lev nt (1)).length
          · have h3 : (i : Int) < (lev nt (1)).length := by omega
            have hwi := wrap_one (i := i) (by omega)
            have hal2 : al3 (lev nt (1)) = true := al3_of fun t ht => (List.mem_filter.1 ht).1
            obtain ⟨a, b, c, habc, hg2⟩ := ags_get3 hal2 hlt
            have hmem : [a, b, c] ∈ lev nt (1) := by rw [← habc, getD_lt hlt]; exact List.getElem_mem hlt
            have hallT : [a, b, c] ∈ allT := (List.mem_filter.1 hmem).1
            have hnt : nt [a, b, c] = 1 := by simpa using (List.mem_filter.1 hmem).2
            have hI : [PV.int .i64 a, .int .i64 b, .int .i64 c] = ints [a, b, c] := rfl
            have hl3 : [a, b, c].length = 3 := rfl
            have hfresh := nodup_take (d := []) (lev_nodup nt (1)) hlt
            rw [habc] at hfresh
            have ha3 : all3 (eL nt (0) ++ ((lev nt (1)).take i).map fun t => (t, (((1 : Nat)) : Int))) = true := all3_app (all3_eL nt _) (all3_map fun t ht => lev_len t (List.mem_of_mem_take ht))
            have hlk : lk [a, b, c] (eL nt (0) ++ ((lev nt (1)).take i).map fun t => (t, (((1 : Nat)) : Int))) = none := by
              rw [lk_app, lk_eL hallT, if_neg (by omega), lk_map, if_neg hfresh]
            have hms := mset_ents (v := ((1 : Nat) : Int)) hl3 ha3 hlk
            have hko := keysOk_ents ha3
            have hnx : (eL nt (0) ++ ((lev nt (1)).take i).map fun t => (t, (((1 : Nat)) : Int))) ++ [([a, b, c], (((1 : Nat)) : Int))] = eL nt (0) ++ ((lev nt (1)).take (i + 1)).map fun t => (t, (((1 : Nat)) : Int)) := by
              rw [take_one (lev nt (1)) i [] hlt, habc, List.map_append, List.append_assoc]; rfl
            rw [hnx] at hms
            simp only [h3, hlt, hwi, hg2, ags_len, Nat.zero_add, ↓SP, SQ, Gam.add, stepM, callC, argC, lendO, nmBy, nmC, likeL, likeB, plainOb, offs, exL, X, F, trP, trO, stepD, stepW, newA, SV.tr, SV.trL, fz, allP, Ob.tr, loadA, cellsA, SV.cells, binA, binI, eqOut, isSl, isPt, natOf, callee, snap, SV.refsL, SV.refs, thaw, fzAll, loA, hiA, elemOf, partsA, buildA, putCells, ↓reduceIte, reduceCtorEq, okCell, Nat.reduceAdd, Nat.reduceEqDiff, Nat.reduceSub, Nat.reduceMul, Nat.reduceLeDiff, Nat.reduceLT, Nat.reduceBEq, PV.scal, PV.scalL, SV.scal, SV.scalL, Ob.scal, PV.isCell, pure', resO]
            simp only [hwi, hI, hl3, hms, hko, keyA, ints_isInt, ints_len, ↓SP, SQ, Gam.add, stepM, callC, argC, lendO, nmBy, nmC, likeL, likeB, plainOb, offs, exL, X, F, trP, trO, stepD, stepW, newA, SV.tr, SV.trL, fz, allP, Ob.tr, loadA, cellsA, SV.cells, binA, binI, eqOut, isSl, isPt, natOf, callee, snap, SV.refsL, SV.refs, thaw, fzAll, loA, hiA, elemOf, partsA, buildA, putCells, ↓reduceIte, reduceCtorEq, okCell, Nat.reduceAdd, Nat.reduceEqDiff, Nat.reduceSub, Nat.reduceMul, Nat.reduceLeDiff, Nat.reduceLT, Nat.reduceBEq, PV.scal, PV.scalL, SV.scal, SV.scalL, Ob.scal, PV.isCell, pure', resO]
            exact hN3 ⟨i + 1, _, _, _, _, .junk, _, _, _, _, _, _, _, _, _, _, _, .junk, .junk, .junk, .junk, .junk, _, .junk, .junk, .junk, _, _, none, _, _, none, _⟩ _ _ (by simp only; omega) (by simp only; omega) rfl rfl
          · have hie : i = (lev nt (1)).length := by omega
            have h3 : ¬ ((lev nt (1)).length : Int) < (lev nt (1)).length := by omega
            subst hie
            have hel : (eL nt (0) ++ ((lev nt (1)).take (lev nt (1)).length).map fun t => (t, (((1 : Nat)) : Int))) = eL nt (1) := by rw [List.take_length]; rfl
            have hdel := del_needs0 (k := 0) N h h_needs2a h_needs2b
            have hlen2 : (openL nt (1) ++ restZ nt (1)).length = (openL nt 0).length := by rw [List.length_append]; exact hrl2
            have hbe : ((openL nt 0).length == (openL nt 0).length) = true := beq_self_eq_true _
            simp only [h3, ↓SP, SQ, Gam.add, stepM, callC, argC, lendO, nmBy, nmC, likeL, likeB, plainOb, offs, exL, X, F, trP, trO, stepD, stepW, newA, SV.tr, SV.trL, fz, allP, Ob.tr, loadA, cellsA, SV.cells, binA, binI, eqOut, isSl, isPt, natOf, callee, snap, SV.refsL, SV.refs, thaw, fzAll, loA, hiA, elemOf, partsA, buildA, putCells, ↓reduceIte, reduceCtorEq, okCell, Nat.reduceAdd, Nat.reduceEqDiff, Nat.reduceSub, Nat.reduceMul, Nat.reduceLeDiff, Nat.reduceLT, Nat.reduceBEq, PV.scal, PV.scalL, SV.scal, SV.scalL, Ob.scal, PV.isCell, pure', resO]
            refine hR3 _ _ _ (by intro h; cases h) ?_
            simp only [hel, hw, h_DelT, hdel, hlen2, hLT, hbe, ags_len, ags_scal, ↓SP, SQ, Gam.add, stepM, callC, argC, lendO, nmBy, nmC, likeL, likeB, plainOb, offs, exL, X, F, trP, trO, stepD, stepW, newA, SV.tr, SV.trL, fz, allP, Ob.tr, loadA, cellsA, SV.cells, binA, binI, eqOut, isSl, isPt, natOf, callee, snap, SV.refsL, SV.refs, thaw, fzAll, loA, hiA, elemOf, partsA, buildA, putCells, ↓reduceIte, reduceCtorEq, okCell, Nat.reduceAdd, Nat.reduceEqDiff, Nat.reduceSub, Nat.reduceMul, Nat.reduceLeDiff, Nat.reduceLT, Nat.reduceBEq, PV.scal, PV.scalL, SV.scal, SV.scalL, Ob.scal, PV.isCell, pure', resO]
            exact hN1 ⟨1, _, _, _, _, _, _, _, _, _, _, _, _, _, _, _, _, _, _, _, _, _, _, _, _, _, _, _, _, _, _, _, _⟩ _ _ (by simp only; omega) (by simp only; omega) rfl rfl
      | succ j =>
        have hLT : (openL nt (j + 1) ++ restZ nt (j + 1)).length = (openL nt 0).length := by rw [List.length_append]; exact hrl
        have h1 : ((openL nt (j + 1)).length : Int) > 0 := by omega
        simp only [h1, ags_len, Nat.sub_zero, ↓SP, SQ, Gam.add, stepM, callC, argC, lendO, nmBy, nmC, likeL, likeB, plainOb, offs, exL, X, F, trP, trO, stepD, stepW, newA, SV.tr, SV.trL, fz, allP, Ob.tr, loadA, cellsA, SV.cells, binA, binI, eqOut, isSl, isPt, natOf, callee, snap, SV.refsL, SV.refs, thaw, fzAll, loA, hiA, elemOf, partsA, buildA, putCells, ↓reduceIte, reduceCtorEq, okCell, Nat.reduceAdd, Nat.reduceEqDiff, Nat.reduceSub, Nat.reduceMul, Nat.reduceLeDiff, Nat.reduceLT, Nat.reduceBEq, PV.scal, PV.scalL, SV.scal, SV.scalL, Ob.scal, PV.isCell, pure', resO]
        refine loop_at (fun s : K => mkEnv [(0, .p (.fn g [] [])), (1, .bx 1 0), (2, .p .nilmap), (3, .bx 3 0), (4, .sub 16 0 (openL nt (j + 1)).length), (5, s.s5), (6, s.s6), (7, s.s7), (8, s.s8), (9, si (((j + 1) + 1 : Nat) : Int)), (10, .bx 10 0), (12, s.s12), (14, s.s14), (17, s.s17), (18, s.s18), (21, s.s21), (22, s.s22), (23, s.s23), (28, s.s28), (29, s.s29), (30, s.s30), (41, s.s41), (53, sb true), (57, .sub 16 0 (openL nt (j + 1)).length), (58, si (openL nt (j + 1)).length), (59, si s.i), (60, s.s60), (66, s.s66), (72, s.s72), (73, s.s73), (74, s.s74), (75, s.s75)]) (fun s => mkO [(1, some (.box [.p (.fn g [] [])])), (3, some (.box [.mp 15])), (8, s.o8), (10, some (.box [.ar 56])), (12, none), (14, s.o14), (15, some (.map (ents (eL nt (j + 1))))), (16, some (.arr 3 (ags (openL nt (j + 1) ++ restZ nt (j + 1))))), (46, s.o46), (47, none), (56, some (.arr 3 (ags (((openL nt (j + 1)).take s.i).filter fun t => decide (nt t ≤ (j + 1) + 1))))), (69, s.o69), (70, none)]) (fun s => s.i ≤ (openL nt (j + 1)).length) (fun s => (openL nt (j + 1)).length - s.i) ⟨0, _, _, _, _, .junk, _, _, _, _, _, _, _, _, _, _, _, .junk, .junk, .junk, .junk, _, _, _, _, _, _, _, none, _, _, none, _⟩ (by simp) rfl rfl ?_
        rintro ⟨i, bs5, bs6, bs7, bs8, bs10, bs12, bs14, bs17, bs18, bs21, bs22, bs23, bs28, bs29, bs30, bs41, bs53, bs57, bs58, bs59, bs60, bs66, bs72, bs73, bs74, bs75, bo8, bo10, bo14, bo46, bo56, bo69⟩ hi R2 hR2 hN2
        simp only at hi
        by_cases hlt : i < (openL nt (j + 1)).length
        · have h2 : (i : Int) < (openL nt (j + 1)).length := by omega
          have hwi := wrap_one (i := i) (by omega)
          obtain ⟨a, b, c, habc⟩ := al3_get3 hal hlt
          have hmem : [a, b, c] ∈ openL nt (j + 1) := by rw [← habc, getD_lt hlt]; exact List.getElem_mem hlt
          have hallT := openL_sub _ hmem
          have hunt := open_told N hmem
          have h8 := inT_in8 (mem_allT.1 hallT)
          have hg2 : (ags (openL nt (j + 1) ++ restZ nt (j + 1)))[i]? = some (.agg [.int .i64 a, .int .i64 b, .int .i64 c]) := ags_get3' (by rw [hLT]; omega) (by rw [kd_app_get hlt]; exact habc)
          have hI : [PV.int .i64 a, .int .i64 b, .int .i64 c] = ints [a, b, c] := rfl
          have hl3 : [a, b, c].length ≤ 3 := Nat.le_refl _
          have hsl : (splL [a, b, c]).length ≤ 1100000 := Nat.le_trans (spI_len3 h8 (Nat.le_refl 3)) (by omega)
          have hask := ask_needs1 (k := j + 1) N h_needs1 hg hallT hunt
          rw [hI] at hask
          have htk : (ints [a, b, c]).take 3 = ints [a, b, c] := rfl
          have hl3e : [a, b, c].length = 3 := rfl
          have hwit : (((splL [a, b, c]).map fun s => decide (nt (yb both [a, b, c] s) ≤ (j + 1)) && decide (nt (noL [a, b, c] s) ≤ (j + 1))).any id) = decide (nt [a, b, c] ≤ (j + 1) + 1) := by
            rw [← N.wit _ hallT hunt (j + 1), List.any_map]; rfl
          have hiL : i < (openL nt 0).length := by omega
          have hMle : (openL nt (j + 1)).length ≤ (openL nt 0).length := by omega
          have hq := hq0 i hlt
          rw [habc] at hq
          by_cases hnt : nt [a, b, c] ≤ (j + 1) + 1
          · have hfi : (((openL nt (j + 1)).take i).filter fun t => decide (nt t ≤ (j + 1) + 1)) ++ [[a, b, c]] = ((openL nt (j + 1)).take (i + 1)).filter fun t => decide (nt t ≤ (j + 1) + 1) := by
              rw [hq, List.filter_append]; simp only [List.filter_cons, dec_t hnt, List.filter_nil, if_true]
            have hfl : (((openL nt (j + 1)).take i).filter fun t => decide (nt t ≤ (j + 1) + 1)).length ≤ i := Nat.le_trans (List.length_filter_le _ _) (by simp; omega)
            have hrm : (((openL nt (j + 1)).take i).filter fun t => decide (nt t ≤ (j + 1) + 1)).length + 1 ≤ roomA := by unfold roomA; omega
            rw [dec_t hnt] at hwit
            simp only [h2, hlt, hiL, hMle, hLT, hwi, hg2, Nat.zero_add, ags_len, PV.isCell, List.all_cons, List.all_nil, Bool.and_self, allP, ↓SP, SQ, Gam.add, stepM, callC, argC, lendO, nmBy, nmC, likeL, likeB, plainOb, offs, exL, X, F, trP, trO, stepD, stepW, newA, SV.tr, SV.trL, fz, allP, Ob.tr, loadA, cellsA, SV.cells, binA, binI, eqOut, isSl, isPt, natOf, callee, snap, SV.refsL, SV.refs, thaw, fzAll, loA, hiA, elemOf, partsA, buildA, putCells, ↓reduceIte, reduceCtorEq, okCell, Nat.reduceAdd, Nat.reduceEqDiff, Nat.reduceSub, Nat.reduceMul, Nat.reduceLeDiff, Nat.reduceLT, Nat.reduceBEq, PV.scal, PV.scalL, SV.scal, SV.scalL, Ob.scal, PV.isCell, pure', resO]
            simp only [hI, hl3, h8, h_splits, c_splits, isI_ints, ofI_ints, ints_len, isS_sls, sls_len, hsl, hask, hwit, h_ContainsFuncS, c_ContainsFuncS, ↓SP, SQ, Gam.add, stepM, callC, argC, lendO, nmBy, nmC, likeL, likeB, plainOb, offs, exL, X, F, trP, trO, stepD, stepW, newA, SV.tr, SV.trL, fz, allP, Ob.tr, loadA, cellsA, SV.cells, binA, binI, eqOut, isSl, isPt, natOf, callee, snap, SV.refsL, SV.refs, thaw, fzAll, loA, hiA, elemOf, partsA, buildA, putCells, ↓reduceIte, reduceCtorEq, okCell, Nat.reduceAdd, Nat.reduceEqDiff, Nat.reduceSub, Nat.reduceMul, Nat.reduceLeDiff, Nat.reduceLT, Nat.reduceBEq, PV.scal, PV.scalL, SV.scal, SV.scalL, Ob.scal, PV.isCell, pure', resO]
            simp only [hfi, hrm, hwi, htk, hl3e, ags_len, ags_app1, ags_cell, ints_len, ints_isCell, PV.cells, ↓SP, SQ, Gam.add, stepM, callC, argC, lendO, nmBy, nmC, likeL, likeB, plainOb, offs, exL, X, F, trP, trO, stepD, stepW, newA, SV.tr, SV.trL, fz, allP, Ob.tr, loadA, cellsA, SV.cells, binA, binI, eqOut, isSl, isPt, natOf, callee, snap, SV.refsL, SV.refs, thaw, fzAll, loA, hiA, elemOf, partsA, buildA, putCells, ↓reduceIte, reduceCtorEq, okCell, Nat.reduceAdd, Nat.reduceEqDiff, Nat.reduceSub, Nat.reduceMul, Nat.reduceLeDiff, Nat.reduceLT, Nat.reduceBEq, PV.scal, PV.scalL, SV.scal, SV.scalL, Ob.scal, PV.isCell, pure', resO]
            exact hN2 ⟨i + 1, _, _, _, _, .junk, _, _, _, _, _, _, _, _, _, _, _, .junk, .junk, .junk, .junk, _, _, _, _, _, _, _, none, _, _, none, _⟩ _ _ (by simp only; omega) (by simp only; omega) rfl rfl
          · have hfi : (((openL nt (j + 1)).take (i + 1)).filter fun t => decide (nt t ≤ (j + 1) + 1)) = ((openL nt (j + 1)).take i).filter fun t => decide (nt t ≤ (j + 1) + 1) := by
              rw [hq, List.filter_append]; simp only [List.filter_cons, dec_f hnt, List.filter_nil, Bool.false_eq_true, if_false, List.append_nil]
            rw [dec_f hnt] at hwit
            simp only [h2, hlt, hiL, hMle, hLT, hwi, hg2, Nat.zero_add, ags_len, PV.isCell, List.all_cons, List.all_nil, Bool.and_self, allP, ↓SP, SQ, Gam.add, stepM, callC, argC, lendO, nmBy, nmC, likeL, likeB, plainOb, offs, exL, X, F, trP, trO, stepD, stepW, newA, SV.tr, SV.trL, fz, allP, Ob.tr, loadA, cellsA, SV.cells, binA, binI, eqOut, isSl, isPt, natOf, callee, snap, SV.refsL, SV.refs, thaw, fzAll, loA, hiA, elemOf, partsA, buildA, putCells, ↓reduceIte, reduceCtorEq, okCell, Nat.reduceAdd, Nat.reduceEqDiff, Nat.reduceSub, Nat.reduceMul, Nat.reduceLeDiff, Nat.reduceLT, Nat.reduceBEq, PV.scal, PV.scalL, SV.scal, SV.scalL, Ob.scal, PV.isCell, pure', resO]
            simp only [hI, hl3, h8, h_splits, c_splits, isI_ints, ofI_ints, ints_len, isS_sls, sls_len, hsl, hask, hwit, hwi, h_ContainsFuncS, c_ContainsFuncS, ↓SP, SQ, Gam.add, stepM, callC, argC, lendO, nmBy, nmC, likeL, likeB, plainOb, offs, exL, X, F, trP, trO, stepD, stepW, newA, SV.tr, SV.trL, fz, allP, Ob.tr, loadA, cellsA, SV.cells, binA, binI, eqOut, isSl, isPt, natOf, callee, snap, SV.refsL, SV.refs, thaw, fzAll, loA, hiA, elemOf, partsA, buildA, putCells, ↓reduceIte, reduceCtorEq, okCell, Nat.reduceAdd, Nat.reduceEqDiff, Nat.reduceSub, Nat.reduceMul, Nat.reduceLeDiff, Nat.reduceLT, Nat.reduceBEq, PV.scal, PV.scalL, SV.scal, SV.scalL, Ob.scal, PV.isCell, pure', resO]
            exact hN2 ⟨i + 1, _, _, _, _, .junk, _, _, _, _, _, _, _, _, _, _, _, .junk, .junk, .junk, .junk, _, _, _, _, _, _, _, none, _, _, none, _⟩ _ _ (by simp only; omega) (by simp only; omega) rfl (by rw [hfi])
        · have hie : i = (openL nt (j + 1)).length := by omega
          have h2 : ¬ ((openL nt (j + 1)).length : Int) < (openL nt (j + 1)).length := by omega
          subst hie
          have hnext : (((openL nt (j + 1)).take (openL nt (j + 1)).length).filter fun t => decide (nt t ≤ (j + 1) + 1)) = lev nt ((j + 1) + 1) := by rw [List.take_length, open_next]
          simp only [h2, ↓SP, SQ, Gam.add, stepM, callC, argC, lendO, nmBy, nmC, likeL, likeB, plainOb, offs, exL, X, F, trP, trO, stepD, stepW, newA, SV.tr, SV.trL, fz, allP, Ob.tr, loadA, cellsA, SV.cells, binA, binI, eqOut, isSl, isPt, natOf, callee, snap, SV.refsL, SV.refs, thaw, fzAll, loA, hiA, elemOf, partsA, buildA, putCells, ↓reduceIte, reduceCtorEq, okCell, Nat.reduceAdd, Nat.reduceEqDiff, Nat.reduceSub, Nat.reduceMul, Nat.reduceLeDiff, Nat.reduceLT, Nat.reduceBEq, PV.scal, PV.scalL, SV.scal, SV.scalL, Ob.scal, PV.isCell, pure', resO]
          refine hR2 _ _ _ (by intro h; cases h) ?_
          simp only [hnext, ags_len, ↓SP, SQ, Gam.add, stepM, callC, argC, lendO, nmBy, nmC, likeL, likeB, plainOb, offs, exL, X, F, trP, trO, stepD, stepW, newA, SV.tr, SV.trL, fz, allP, Ob.tr, loadA, cellsA, SV.cells, binA, binI, eqOut, isSl, isPt, natOf, callee, snap, SV.refsL, SV.refs, thaw, fzAll, loA, hiA, elemOf, partsA, buildA, putCells, ↓reduceIte, reduceCtorEq, okCell, Nat.reduceAdd, Nat.reduceEqDiff, Nat.reduceSub, Nat.reduceMul, Nat.reduceLeDiff, Nat.reduceLT, Nat.reduceBEq, PV.scal, PV.scalL, SV.scal, SV.scalL, Ob.scal, PV.isCell, pure', resO]
          refine loop_at (fun s : K => mkEnv [(0, .p (.fn g [] [])), (1, .bx 1 0), (2, .p .nilmap), (3, .bx 3 0), (4, .sub 16 0 (openL nt (j + 1)).length), (5, s.s5), (6, s.s6), (7, s.s7), (8, s.s8), (9, si (((j + 1) + 1 : Nat) : Int)), (10, .bx 10 0), (12, s.s12), (14, s.s14), (17, s.s17), (18, s.s18), (21, s.s21), (22, s.s22), (23, s.s23), (28, s.s28), (29, s.s29), (30, s.s30), (41, s.s41), (53, sb true), (57, .sub 16 0 (openL nt (j + 1)).length), (58, si (openL nt (j + 1)).length), (59, si (openL nt (j + 1)).length), (60, sb false), (66, s.s66), (72, .ar 56), (73, si (lev nt ((j + 1) + 1)).length), (74, si s.i), (75, s.s75)]) (fun s => mkO [(1, some (.box [.p (.fn g [] [])])), (3, some (.box [.mp 15])), (8, s.o8), (10, some (.box [.ar 56])), (12, none), (14, s.o14), (15, some (.map (ents (eL nt (j + 1) ++ ((lev nt ((j + 1) + 1)).take s.i).map fun t => (t, ((((j + 1) + 1 : Nat)) : Int)))))), (16, some (.arr 3 (ags (openL nt (j + 1) ++ restZ nt (j + 1))))), (46, s.o46), (47, none), (56, some (.arr 3 (ags (lev nt ((j + 1) + 1))))), (69, s.o69), (70, none)]) (fun s => s.i ≤ (lev nt ((j + 1) + 1)).length) (fun s => (lev nt ((j + 1) + 1)).length - s.i) ⟨0, _, _, _, _, .junk, _, _, _, _, _, _, _, _, _, _, _, .junk, .junk, .junk, .junk, .junk, _, .junk, .junk, .junk, _, _, none, _, _, none, _⟩ (by simp) rfl (by simp only [List.take_zero, List.map_nil, List.append_nil]; try rfl) ?_
          rintro ⟨i, ds5, ds6, ds7, ds8, ds10, ds12, ds14, ds17, ds18, ds21, ds22, ds23, ds28, ds29, ds30, ds41, ds53, ds57, ds58, ds59, ds60, ds66, ds72, ds73, ds74, ds75, do8, do10, do14, do46, do56, do69⟩ hi R3 hR3 hN3
          simp only at hi
          by_cases hlt : i < (lev nt ((j + 1) + 1)).length
          · have h3 : (i : Int) < (lev nt ((j + 1) + 1)).length := by omega
            have hwi := wrap_one (i := i) (by omega)
            have hal2 : al3 (lev nt ((j + 1) + 1)) = true := al3_of fun t ht => (List.mem_filter.1 ht).1
            obtain ⟨a, b, c, habc, hg2⟩ := ags_get3 hal2 hlt
            have hmem : [a, b, c] ∈ lev nt ((j + 1) + 1) := by rw [← habc, getD_lt hlt]; exact List.getElem_mem hlt
            have hallT : [a, b, c] ∈ allT := (List.mem_filter.1 hmem).1
            have hnt : nt [a, b, c] = (j + 1) + 1 := by simpa using (List.mem_filter.1 hmem).2
            have hI : [PV.int .i64 a, .int .i64 b, .int .i64 c] = ints [a, b, c] := rfl
            have hl3 : [a, b, c].length = 3 := rfl
            have hfresh := nodup_take (d := []) (lev_nodup nt ((j + 1) + 1)) hlt
            rw [habc] at hfresh
            have ha3 : all3 (eL nt (j + 1) ++ ((lev nt ((j + 1) + 1)).take i).map fun t => (t, ((((j + 1) + 1 : Nat)) : Int))) = true := all3_app (all3_eL nt _) (all3_map fun t ht => lev_len t (List.mem_of_mem_take ht))
            have hlk : lk [a, b, c] (eL nt (j + 1) ++ ((lev nt ((j + 1) + 1)).take i).map fun t => (t, ((((j + 1) + 1 : Nat)) : Int))) = none := by
              rw [lk_app, lk_eL hallT, if_neg (by omega), lk_map, if_neg hfresh]
            have hms := mset_ents (v := (((j + 1) + 1 : Nat) : Int)) hl3 ha3 hlk
            have hko := keysOk_ents ha3
            have hnx : (eL nt (j + 1) ++ ((lev nt ((j + 1) + 1)).take i).map fun t => (t, ((((j + 1) + 1 : Nat)) : Int))) ++ [([a, b, c], ((((j + 1) + 1 : Nat)) : Int))] = eL nt (j + 1) ++ ((lev nt ((j + 1) + 1)).take (i + 1)).map fun t => (t, ((((j + 1) + 1 : Nat)) : Int)) := by
              rw [take_one (lev nt ((j + 1) + 1)) i [] hlt, habc, List.map_append, List.append_assoc]; rfl
            rw [hnx] at hms
            simp only [h3, hlt, hwi, hg2, ags_len, Nat.zero_add, ↓SP, SQ, Gam.add, stepM, callC, argC, lendO, nmBy, nmC, likeL, likeB, plainOb, offs, exL, X, F, trP, trO, stepD, stepW, newA, SV.tr, SV.trL, fz, allP, Ob.tr, loadA, cellsA, SV.cells, binA, binI, eqOut, isSl, isPt, natOf, callee, snap, SV.refsL, SV.refs, thaw, fzAll, loA, hiA, elemOf, partsA, buildA, putCells, ↓reduceIte, reduceCtorEq, okCell, Nat.reduceAdd, Nat.reduceEqDiff, Nat.reduceSub, Nat.reduceMul, Nat.reduceLeDiff, Nat.reduceLT, Nat.reduceBEq, PV.scal, PV.scalL, SV.scal, SV.scalL, Ob.scal, PV.isCell, pure', resO]
            simp only [hwi, hI, hl3, hms, hko, keyA, ints_isInt, ints_len, ↓SP, SQ, Gam.add, stepM, callC, argC, lendO, nmBy, nmC, likeL, likeB, plainOb, offs, exL, X, F, trP, trO, stepD, stepW, newA, SV.tr, SV.trL, fz, allP, Ob.tr, loadA, cellsA, SV.cells, binA, binI, eqOut, isSl, isPt, natOf, callee, snap, SV.refsL, SV.refs, thaw, fzAll, loA, hiA, elemOf, partsA, buildA, putCells, ↓reduceIte, reduceCtorEq, okCell, Nat.reduceAdd, Nat.reduceEqDiff, Nat.reduceSub, Nat.reduceMul, Nat.reduceLeDiff, Nat.reduceLT, Nat.reduceBEq, PV.scal, PV.scalL, SV.scal, SV.scalL, Ob.scal, PV.isCell, pure', resO]
            exact hN3 ⟨i + 1, _, _, _, _, .junk, _, _, _, _, _, _, _, _, _, _, _, .junk, .junk, .junk, .junk, .junk, _, .junk, .junk, .junk, _, _, none, _, _, none, _⟩ _ _ (by simp only; omega) (by simp only; omega) rfl rfl
          · have hie : i = (lev nt ((j + 1) + 1)).length := by omega
            have h3 : ¬ ((lev nt ((j + 1) + 1)).length : Int) < (lev nt ((j + 1) + 1)).length := by omega
            subst hie
            have hel : (eL nt (j + 1) ++ ((lev nt ((j + 1) + 1)).take (lev nt ((j + 1) + 1)).length).map fun t => (t, ((((j + 1) + 1 : Nat)) : Int))) = eL nt ((j + 1) + 1) := by rw [List.take_length]; rfl
            have hdel := del_needs (k := j + 1) N h h_needs2a h_needs2b
            have hlen2 : (openL nt ((j + 1) + 1) ++ restZ nt ((j + 1) + 1)).length = (openL nt 0).length := by rw [List.length_append]; exact hrl2
            have hbe : ((openL nt 0).length == (openL nt 0).length) = true := beq_self_eq_true _
            simp only [h3, ↓SP, SQ, Gam.add, stepM, callC, argC, lendO, nmBy, nmC, likeL, likeB, plainOb, offs, exL, X, F, trP, trO, stepD, stepW, newA, SV.tr, SV.trL, fz, allP, Ob.tr, loadA, cellsA, SV.cells, binA, binI, eqOut, isSl, isPt, natOf, callee, snap, SV.refsL, SV.refs, thaw, fzAll, loA, hiA, elemOf, partsA, buildA, putCells, ↓reduceIte, reduceCtorEq, okCell, Nat.reduceAdd, Nat.reduceEqDiff, Nat.reduceSub, Nat.reduceMul, Nat.reduceLeDiff, Nat.reduceLT, Nat.reduceBEq, PV.scal, PV.scalL, SV.scal, SV.scalL, Ob.scal, PV.isCell, pure', resO]
            refine hR3 _ _ _ (by intro h; cases h) ?_
            simp only [hel, hw, h_DelT, hdel, hlen2, hLT, hbe, ags_len, ags_scal, ↓SP, SQ, Gam.add, stepM, callC, argC, lendO, nmBy, nmC, likeL, likeB, plainOb, offs, exL, X, F, trP, trO, stepD, stepW, newA, SV.tr, SV.trL, fz, allP, Ob.tr, loadA, cellsA, SV.cells, binA, binI, eqOut, isSl, isPt, natOf, callee, snap, SV.refsL, SV.refs, thaw, fzAll, loA, hiA, elemOf, partsA, buildA, putCells, ↓reduceIte, reduceCtorEq, okCell, Nat.reduceAdd, Nat.reduceEqDiff, Nat.reduceSub, Nat.reduceMul, Nat.reduceLeDiff, Nat.reduceLT, Nat.reduceBEq, PV.scal, PV.scalL, SV.scal, SV.scalL, Ob.scal, PV.isCell, pure', resO]
            exact hN1 ⟨(j + 1) + 1, _, _, _, _, _, _, _, _, _, _, _, _, _, _, _, _, _, _, _, _, _, _, _, _, _, _, _, _, _, _, _, _⟩ _ _ (by simp only; omega) (by simp only; omega) rfl rfl
    · have hke : k = R := by omega
      subst hke
      have hend := open_end N
      cases k with
      | zero =>
        have hlz : (openL nt 0 ++ restZ nt 0).length = 0 := by rw [hend]; rfl
        have h1 : ¬ ((0 : Nat) : Int) > 0 := by omega
        simp only [hlz, h1, ags_len, ↓SP, SQ, Gam.add, stepM, callC, argC, lendO, nmBy, nmC, likeL, likeB, plainOb, offs, exL, X, F, trP, trO, stepD, stepW, newA, SV.tr, SV.trL, fz, allP, Ob.tr, loadA, cellsA, SV.cells, binA, binI, eqOut, isSl, isPt, natOf, callee, snap, SV.refsL, SV.refs, thaw, fzAll, loA, hiA, elemOf, partsA, buildA, putCells, ↓reduceIte, reduceCtorEq, okCell, Nat.reduceAdd, Nat.reduceEqDiff, Nat.reduceSub, Nat.reduceMul, Nat.reduceLeDiff, Nat.reduceLT, Nat.reduceBEq, PV.scal, PV.scalL, SV.scal, SV.scalL, Ob.scal, PV.isCell, pure', resO]
        refine hR1 _ _ _ (by intro h; cases h) ?_
        simp only [↓SP, SQ, Gam.add, stepM, callC, argC, lendO, nmBy, nmC, likeL, likeB, plainOb, offs, exL, X, F, trP, trO, stepD, stepW, newA, SV.tr, SV.trL, fz, allP, Ob.tr, loadA, cellsA, SV.cells, binA, binI, eqOut, isSl, isPt, natOf, callee, snap, SV.refsL, SV.refs, thaw, fzAll, loA, hiA, elemOf, partsA, buildA, putCells, ↓reduceIte, reduceCtorEq, okCell, Nat.reduceAdd, Nat.reduceEqDiff, Nat.reduceSub, Nat.reduceMul, Nat.reduceLeDiff, Nat.reduceLT, Nat.reduceBEq, PV.scal, PV.scalL, SV.scal, SV.scalL, Ob.scal, PV.isCell, pure', resO]
        refine finA_gen [15] trivial (by simp [retA, rvA, mkE_cons, mk_nil, mkO_cons, mkO_nil, loadA, SV.tr, SV.trL, nmF, rn_nil, rn_cons1, rn_cons2, plainOb, SV.refsL, SV.refs, Ob.refs, X, F, List.range_succ, mkO, setO_mk]; rfl) ?_ ?_ ?_ ?_ ?_ ?_ ?_ <;> simp [retA, rvA, mkE_cons, mk_nil, mkO_cons, mkO_nil, loadA, SV.tr, SV.trL, nmF, rn_nil, rn_cons1, rn_cons2, plainOb, SV.refsL, SV.refs, Ob.refs, X, F, List.range_succ, mkO, setO_mk]
      | succ j =>
        have hlz : (openL nt (j + 1)).length = 0 := by rw [hend]; rfl
        have h1 : ¬ ((0 : Nat) : Int) > 0 := by omega
        simp only [hlz, h1, ags_len, Nat.sub_zero, ↓SP, SQ, Gam.add, stepM, callC, argC, lendO, nmBy, nmC, likeL, likeB, plainOb, offs, exL, X, F, trP, trO, stepD, stepW, newA, SV.tr, SV.trL, fz, allP, Ob.tr, loadA, cellsA, SV.cells, binA, binI, eqOut, isSl, isPt, natOf, callee, snap, SV.refsL, SV.refs, thaw, fzAll, loA, hiA, elemOf, partsA, buildA, putCells, ↓reduceIte, reduceCtorEq, okCell, Nat.reduceAdd, Nat.reduceEqDiff, Nat.reduceSub, Nat.reduceMul, Nat.reduceLeDiff, Nat.reduceLT, Nat.reduceBEq, PV.scal, PV.scalL, SV.scal, SV.scalL, Ob.scal, PV.isCell, pure', resO]
        refine hR1 _ _ _ (by intro h; cases h) ?_
        simp only [↓SP, SQ, Gam.add, stepM, callC, argC, lendO, nmBy, nmC, likeL, likeB, plainOb, offs, exL, X, F, trP, trO, stepD, stepW, newA, SV.tr, SV.trL, fz, allP, Ob.tr, loadA, cellsA, SV.cells, binA, binI, eqOut, isSl, isPt, natOf, callee, snap, SV.refsL, SV.refs, thaw, fzAll, loA, hiA, elemOf, partsA, buildA, putCells, ↓reduceIte, reduceCtorEq, okCell, Nat.reduceAdd, Nat.reduceEqDiff, Nat.reduceSub, Nat.reduceMul, Nat.reduceLeDiff, Nat.reduceLT, Nat.reduceBEq, PV.scal, PV.scalL, SV.scal, SV.scalL, Ob.scal, PV.isCell, pure', resO]
        refine finA_gen [15] trivial (by simp [retA, rvA, mkE_cons, mk_nil, mkO_cons, mkO_nil, loadA, SV.tr, SV.trL, nmF, rn_nil, rn_cons1, rn_cons2, plainOb, SV.refsL, SV.refs, Ob.refs, X, F, List.range_succ, mkO, setO_mk]; rfl) ?_ ?_ ?_ ?_ ?_ ?_ ?_ <;> simp [retA, rvA, mkE_cons, mk_nil, mkO_cons, mkO_nil, loadA, SV.tr, SV.trL, nmF, rn_nil, rn_cons1, rn_cons2, plainOb, SV.refsL, SV.refs, Ob.refs, X, F, List.range_succ, mkO, setO_mk]
end Go.Proofs.Ytihpfhdkjlphhaa.Pam
