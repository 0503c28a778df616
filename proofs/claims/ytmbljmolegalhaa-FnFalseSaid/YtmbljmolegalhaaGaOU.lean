/- A part of the proof that stands in this folder: a small machine whose steps are shown to be the steps of the model, or walks of functions by it. No condition of its own. -/
import Derived.Test.YtmbljmolegalhaaGaOQ
set_option linter.unusedVariables false
set_option linter.unusedSimpArgs false
namespace Go.Proofs.Ytmbljmolegalhaa.Pam
open Go
def okD : Nat → Nat → Bool := fun s o => decide (1 ≤ o) && decide (o ≤ 10) && decide (s ≤ o)
def allD : List (Nat × Nat) := (List.range 11).flatMap fun o => (List.range 11).filterMap fun s => if okD s o = true then some (s, o) else none
theorem mem_allD {s o : Int} (h : isD s o = true) : (s.toNat, o.toNat) ∈ allD := by
  obtain ⟨d1, d2, d3, d4⟩ := isD_out h
  simp only [allD, List.mem_flatMap, List.mem_filterMap, List.mem_range]
  refine ⟨o.toNat, by omega, s.toNat, by omega, ?_⟩
  have : okD s.toNat o.toNat = true := by
    simp only [okD, Bool.and_eq_true, decide_eq_true_eq]; omega
  rw [this]; rfl
theorem inB_all : (allD.all fun x => (List.range 13).all fun n => (List.range (n + 2)).all fun k => decide (inB x.1 x.2 n k ≤ 1000000000000)) = true := by decide +kernel
theorem inB_10 {s o : Int} (h : isD s o = true) {n k : Nat} (hn : n ≤ 12) (hk : k ≤ n + 1) : inB s.toNat o.toNat n k ≤ 1000000000000 := by
  have := List.all_eq_true.1 inB_all _ (mem_allD h)
  have := List.all_eq_true.1 this n (List.mem_range.2 (by omega))
  have := List.all_eq_true.1 this k (List.mem_range.2 (by omega))
  simpa using this
def rfP (s o a b : Nat) (j : Nat) : Bool := decide (a * o ^ (2 * j + 1) ≤ inB s o (2 * j + 1) (j + 1) * b)
def rfF (s o a b : Nat) : Option Nat := (List.range 6).find? (rfP s o a b)
def rfV (s o a b : Int) : Int × Bool := if (isD s o && isD a b) = true then (match rfF s.toNat o.toNat a.toNat b.toNat with | some j => (((2 * j + 1 : Nat) : Int), true) | none => (0, false)) else (0, false)
theorem find_range {p : Nat → Bool} {n i : Nat} (hi : i < n) (h0 : ∀ j, j < i → p j = false) (h1 : p i = true) : (List.range n).find? p = some i := by
  rw [List.find?_eq_some_iff_getElem]
  refine ⟨h1, i, by simpa using hi, by simp, fun j hj => ?_⟩
  simp [h0 j hj]
theorem find_none {p : Nat → Bool} {n : Nat} (h0 : ∀ j, j < n → p j = false) : (List.range n).find? p = none := by
  rw [List.find?_eq_none]
  intro x hx
  simp [h0 x (List.mem_range.1 hx)]
def a_RepeatsFor (f_IsDoubt : FuncId) (f_majority : FuncId) (f_power : FuncId) : AFn := ⟨2, 
  .seq (.reg [⟨some 2, none, .w (.box 2 (.t 0))⟩,
    ⟨some 3, none, .w (.box 2 (.t 1))⟩,
    ⟨some 4, none, .d (.mv (.c (.int .i64 0)))⟩,
    ⟨some 5, none, .d (.mv (.c (.bool false)))⟩])
  (.seq (.seq (.reg [⟨some 7, none, .d (.load true 2 (.t 2))⟩,
    ⟨some 8, none, .d (.call (.f f_IsDoubt) [(.t 7)])⟩,
    ⟨some 9, none, .d (.not (.t 8))⟩,
    ⟨some 10, none, .d (.mv (.t 9))⟩,
    ⟨some 11, some (10, false), .d (.load true 2 (.t 3))⟩,
    ⟨some 12, some (10, false), .d (.call (.f f_IsDoubt) [(.t 11)])⟩,
    ⟨some 13, some (10, false), .d (.not (.t 12))⟩,
    ⟨some 14, none, .d (.pick (.t 10) (.c (.bool true)) (.t 13))⟩])
  (.cond (.t 14) (.seq (.reg [⟨some 4, none, .d (.mv (.c (.int .i64 0)))⟩,
     ⟨some 5, none, .d (.mv (.c (.bool false)))⟩])
   (.ret)) (.skip)))
  (.seq (.seq (.reg [⟨some 6, none, .d (.mv (.c (.int .i64 1)))⟩])
  (.block 0 (.loop (.seq (.seq (.reg [⟨some 15, none, .d (.mv (.t 6))⟩,
      ⟨some 16, none, .d (.bin .arith .leq (.t 15) (.c (.int .i64 12)))⟩])
    (.cond (.t 16) (.skip) (.exit 0)))
    (.seq (.block 1 (.seq (.dreg [] [([], ⟨some 19, none, .d (.load true 2 (.t 2))⟩),
       ([], ⟨some 20, none, .d (.mv (.t 6))⟩),
       ([], ⟨some 21, none, .d (.call (.f f_majority) [(.t 19), (.t 20)])⟩),
       ([], ⟨some 22, none, .d (.fa 1 (.t 3))⟩),
       ([], ⟨some 23, none, .d (.load false 1 (.t 22))⟩),
       ([], ⟨some 24, none, .d (.bin .arith .mul (.t 21) (.t 23))⟩),
       ([], ⟨some 25, none, .d (.fa 0 (.t 3))⟩),
       ([], ⟨some 26, none, .d (.load false 1 (.t 25))⟩),
       ([], ⟨some 27, none, .d (.fa 1 (.t 2))⟩),
       ([], ⟨some 28, none, .d (.load false 1 (.t 27))⟩),
       ([], ⟨some 29, none, .d (.mv (.t 6))⟩),
       ([], ⟨some 30, none, .d (.call (.f f_power) [(.t 28), (.t 29)])⟩),
       ([], ⟨some 31, none, .d (.bin .arith .mul (.t 26) (.t 30))⟩)] [⟨some 32, none, .d (.bin .arith .geq (.t 24) (.t 31))⟩])
     (.cond (.t 32) (.seq (.reg [⟨some 33, none, .d (.mv (.t 6))⟩,
        ⟨some 4, none, .d (.mv (.t 33))⟩,
        ⟨some 5, none, .d (.mv (.c (.bool true)))⟩])
      (.ret)) (.skip))))
    (.reg [⟨some 17, none, .d (.mv (.t 6))⟩,
      ⟨some 18, none, .d (.bin .arith .add (.t 17) (.c (.int .i64 2)))⟩,
      ⟨some 6, none, .d (.mv (.t 18))⟩]))))))
  (.seq (.reg [⟨some 4, none, .d (.mv (.c (.int .i64 0)))⟩,
    ⟨some 5, none, .d (.mv (.c (.bool false)))⟩])
  (.ret)))), [.tmp 4, .tmp 5]⟩
def n_RepeatsFor : Nat → Option Ann := fun _ => none
abbrev k_RepeatsFor : List Nat := [0, 1, 2, 3, 4, 5, 6, 14, 16, 32]
abbrev o_RepeatsFor : List Nat := [2, 3]
def a_s_RepeatsFor (f_l7Good : FuncId) (f_l7Majority : FuncId) (f_l7Power : FuncId) : AFn := ⟨2, 
  .seq (.reg [⟨some 2, none, .w (.box 2 (.t 0))⟩,
    ⟨some 3, none, .w (.box 2 (.t 1))⟩,
    ⟨some 4, none, .d (.mv (.c (.int .i64 0)))⟩,
    ⟨some 5, none, .d (.mv (.c (.bool false)))⟩])
  (.seq (.seq (.reg [⟨some 7, none, .d (.load true 2 (.t 2))⟩,
    ⟨some 8, none, .d (.call (.f f_l7Good) [(.t 7)])⟩,
    ⟨some 9, none, .d (.not (.t 8))⟩,
    ⟨some 10, none, .d (.mv (.t 9))⟩,
    ⟨some 11, some (10, false), .d (.load true 2 (.t 3))⟩,
    ⟨some 12, some (10, false), .d (.call (.f f_l7Good) [(.t 11)])⟩,
    ⟨some 13, some (10, false), .d (.not (.t 12))⟩,
    ⟨some 14, none, .d (.pick (.t 10) (.c (.bool true)) (.t 13))⟩])
  (.cond (.t 14) (.seq (.reg [⟨some 4, none, .d (.mv (.c (.int .i64 0)))⟩,
     ⟨some 5, none, .d (.mv (.c (.bool false)))⟩])
   (.ret)) (.skip)))
  (.seq (.seq (.reg [⟨some 6, none, .d (.mv (.c (.int .i64 1)))⟩])
  (.block 0 (.loop (.seq (.seq (.reg [⟨some 15, none, .d (.mv (.t 6))⟩,
      ⟨some 16, none, .d (.bin .arith .leq (.t 15) (.c (.int .i64 12)))⟩])
    (.cond (.t 16) (.skip) (.exit 0)))
    (.seq (.block 1 (.seq (.dreg [] [([], ⟨some 19, none, .d (.mv (.t 6))⟩),
       ([], ⟨some 20, none, .d (.load true 2 (.t 2))⟩),
       ([], ⟨some 21, none, .d (.call (.f f_l7Majority) [(.t 19), (.t 20)])⟩),
       ([], ⟨some 22, none, .d (.fa 1 (.t 3))⟩),
       ([], ⟨some 23, none, .d (.load false 1 (.t 22))⟩),
       ([], ⟨some 24, none, .d (.bin .arith .mul (.t 21) (.t 23))⟩),
       ([], ⟨some 25, none, .d (.fa 0 (.t 3))⟩),
       ([], ⟨some 26, none, .d (.load false 1 (.t 25))⟩),
       ([], ⟨some 27, none, .d (.fa 1 (.t 2))⟩),
       ([], ⟨some 28, none, .d (.load false 1 (.t 27))⟩),
       ([], ⟨some 29, none, .d (.mv (.t 6))⟩),
       ([], ⟨some 30, none, .d (.call (.f f_l7Power) [(.t 28), (.t 29)])⟩),
       ([], ⟨some 31, none, .d (.bin .arith .mul (.t 26) (.t 30))⟩)] [⟨some 32, none, .d (.bin .arith .geq (.t 24) (.t 31))⟩])
     (.cond (.t 32) (.seq (.reg [⟨some 33, none, .d (.mv (.t 6))⟩,
        ⟨some 4, none, .d (.mv (.t 33))⟩,
        ⟨some 5, none, .d (.mv (.c (.bool true)))⟩])
      (.ret)) (.skip))))
    (.reg [⟨some 17, none, .d (.mv (.t 6))⟩,
      ⟨some 18, none, .d (.bin .arith .add (.t 17) (.c (.int .i64 2)))⟩,
      ⟨some 6, none, .d (.mv (.t 18))⟩]))))))
  (.seq (.reg [⟨some 4, none, .d (.mv (.c (.int .i64 0)))⟩,
    ⟨some 5, none, .d (.mv (.c (.bool false)))⟩])
  (.ret)))), [.tmp 4, .tmp 5]⟩
def n_s_RepeatsFor : Nat → Option Ann := fun _ => none
abbrev k_s_RepeatsFor : List Nat := [0, 1, 2, 3, 4, 5, 6, 14, 16, 32]
abbrev o_s_RepeatsFor : List Nat := [2, 3]
def c_RepeatsFor : Con := pure' fun
  | [.p (.agg [.int .i64 s, .int .i64 o]), .p (.agg [.int .i64 a, .int .i64 b])] => if (True) then some (.tp [.p (.int .i64 (rfV s o a b).1), .p (.bool (rfV s o a b).2)], []) else none
  | _ => none
theorem s_RepeatsFor {P : Program} (hm : P.follows .mixedOrders = true) {Γ : Gam} (hΓ : GS P Γ) {n : FuncId} {f_IsDoubt : FuncId} {f_majority : FuncId} {f_power : FuncId} (is : Is P n (a_RepeatsFor f_IsDoubt f_majority f_power)) (h_IsDoubt : Γ f_IsDoubt = c_IsDoubt) (h_majority : Γ f_majority = c_majority) (h_power : Γ f_power = c_power)  : Says P n c_RepeatsFor := by
  refine Says.pure fun args r fs h => ?_
  split at h
  case h_2 => cases h
  rename_i s o a b
  split at h
  case isFalse => cases h
  rename_i hc
  simp only [ofI_ints, ofBo_bools, ofAs_asks, Option.some.injEq, Prod.mk.injEq] at h hc
  obtain ⟨rfl, rfl⟩ := h
  cases h1 : isD s o with
  | false =>
    have hv : rfV s o a b = (0, false) := by simp only [rfV, h1, Bool.false_and, Bool.false_eq_true, if_false]
    rw [hv]
    refine is.go hm hΓ k_RepeatsFor o_RepeatsFor (by simp [a_RepeatsFor]) ?_
    simp only [a_RepeatsFor, h_IsDoubt, c_IsDoubt, h_majority, c_majority, h_power, c_power, h1, List.zipIdx_cons, List.zipIdx_nil, ↓SP, SQ, Gam.add, stepM, callC, argC, lendO, nmBy, nmC, likeL, likeB, plainOb, offs, exL, X, F, trP, trO, stepD, stepW, newA, SV.tr, SV.trL, fz, allP, Ob.tr, loadA, cellsA, SV.cells, binA, binI, eqOut, isSl, isPt, natOf, callee, snap, SV.refsL, SV.refs, thaw, fzAll, loA, hiA, elemOf, partsA, buildA, putCells, ↓reduceIte, reduceCtorEq, okCell, Nat.reduceAdd, Nat.reduceEqDiff, Nat.reduceSub, Nat.reduceMul, Nat.reduceLeDiff, Nat.reduceLT, Nat.reduceBEq, PV.scal, PV.scalL, SV.scal, SV.scalL, Ob.scal, PV.isCell, pure', resO]
    exact finA_val (by simp [retA, rvA, mkE_cons, mk_nil, mkO_cons, mkO_nil, loadA, SV.tr, SV.trL, nmF, rn_nil, rn_cons1, rn_cons2, plainOb, SV.refsL, SV.refs, Ob.refs, X, F, List.range_succ, mkO, setO_mk]) (by simp [SV.tr, SV.trL])
  | true =>
    cases h2 : isD a b with
    | false =>
      have hv : rfV s o a b = (0, false) := by simp only [rfV, h2, Bool.and_false, Bool.false_eq_true, if_false]
      rw [hv]
      refine is.go hm hΓ k_RepeatsFor o_RepeatsFor (by simp [a_RepeatsFor]) ?_
      simp only [a_RepeatsFor, h_IsDoubt, c_IsDoubt, h_majority, c_majority, h_power, c_power, h1, h2, List.zipIdx_cons, List.zipIdx_nil, ↓SP, SQ, Gam.add, stepM, callC, argC, lendO, nmBy, nmC, likeL, likeB, plainOb, offs, exL, X, F, trP, trO, stepD, stepW, newA, SV.tr, SV.trL, fz, allP, Ob.tr, loadA, cellsA, SV.cells, binA, binI, eqOut, isSl, isPt, natOf, callee, snap, SV.refsL, SV.refs, thaw, fzAll, loA, hiA, elemOf, partsA, buildA, putCells, ↓reduceIte, reduceCtorEq, okCell, Nat.reduceAdd, Nat.reduceEqDiff, Nat.reduceSub, Nat.reduceMul, Nat.reduceLeDiff, Nat.reduceLT, Nat.reduceBEq, PV.scal, PV.scalL, SV.scal, SV.scalL, Ob.scal, PV.isCell, pure', resO]
      exact finA_val (by simp [retA, rvA, mkE_cons, mk_nil, mkO_cons, mkO_nil, loadA, SV.tr, SV.trL, nmF, rn_nil, rn_cons1, rn_cons2, plainOb, SV.refsL, SV.refs, Ob.refs, X, F, List.range_succ, mkO, setO_mk]) (by simp [SV.tr, SV.trL])
    | true =>
      have hv : rfV s o a b = (match rfF s.toNat o.toNat a.toNat b.toNat with | some j => (((2 * j + 1 : Nat) : Int), true) | none => (0, false)) := by simp only [rfV, h1, h2, Bool.and_self, if_true]
      rw [hv]
      obtain ⟨d1, d2, d3, d4⟩ := isD_out h1
      obtain ⟨e1, e2, e3, e4⟩ := isD_out h2
      refine is.go hm hΓ k_RepeatsFor o_RepeatsFor (by simp [a_RepeatsFor]) ?_
      simp only [a_RepeatsFor, h_IsDoubt, c_IsDoubt, h_majority, c_majority, h_power, c_power, h1, h2, List.zipIdx_cons, List.zipIdx_nil, ↓SP, SQ, Gam.add, stepM, callC, argC, lendO, nmBy, nmC, likeL, likeB, plainOb, offs, exL, X, F, trP, trO, stepD, stepW, newA, SV.tr, SV.trL, fz, allP, Ob.tr, loadA, cellsA, SV.cells, binA, binI, eqOut, isSl, isPt, natOf, callee, snap, SV.refsL, SV.refs, thaw, fzAll, loA, hiA, elemOf, partsA, buildA, putCells, ↓reduceIte, reduceCtorEq, okCell, Nat.reduceAdd, Nat.reduceEqDiff, Nat.reduceSub, Nat.reduceMul, Nat.reduceLeDiff, Nat.reduceLT, Nat.reduceBEq, PV.scal, PV.scalL, SV.scal, SV.scalL, Ob.scal, PV.isCell, pure', resO]
      refine loop_at (fun st : Nat × SV × SV => mkEnv [(0, .p (.agg [.int .i64 s, .int .i64 o])), (1, .p (.agg [.int .i64 a, .int .i64 b])), (2, .bx 2 0), (3, .bx 3 0), (4, si 0), (5, sb false), (6, si ((2 * st.1 + 1 : Nat) : Int)), (14, sb false), (16, st.2.1), (32, st.2.2)]) (fun st => mkO [(2, some (.box [si s, si o])), (3, some (.box [si a, si b]))]) (fun st => st.1 ≤ 6 ∧ ∀ j, j < st.1 → rfP s.toNat o.toNat a.toNat b.toNat j = false) (fun st => 6 - st.1) (0, .junk, .junk) (by simp) rfl rfl ?_
      rintro ⟨i, c1, c2⟩ ⟨hi, hp⟩ R hR hN
      simp only at hi hp
      by_cases h : i < 6
      · have g1 : ((2 * i + 1 : Nat) : Int) ≤ 12 := by omega
        have g2 : 1 ≤ ((2 * i + 1 : Nat) : Int) := by omega
        have g3 : 0 ≤ ((2 * i + 1 : Nat) : Int) := by omega
        have g4 : 0 ≤ o := by omega
        have hh : ((2 * i + 1 : Nat) - 1) / 2 + 1 = i + 1 := by omega
        have hB := inB_10 h1 (n := 2 * i + 1) (k := i + 1) (by omega) (by omega)
        have hp12 := pow_le (b := o.toNat) (e := 2 * i + 1) (by omega) (by omega)
        have hm1 : inB s.toNat o.toNat (2 * i + 1) (i + 1) * b.toNat ≤ 1000000000000 * 10 := Nat.mul_le_mul hB (by omega)
        have hm2 : a.toNat * o.toNat ^ (2 * i + 1) ≤ 10 * 1000000000000 := Nat.mul_le_mul (by omega) (by omega)
        have w1 : IntKind.i64.wrap ((inB s.toNat o.toNat (2 * i + 1) (i + 1) : Int) * b) = ((inB s.toNat o.toNat (2 * i + 1) (i + 1) * b.toNat : Nat) : Int) := by
          have : ((inB s.toNat o.toNat (2 * i + 1) (i + 1) * b.toNat : Nat) : Int) = (inB s.toNat o.toNat (2 * i + 1) (i + 1) : Int) * b := by rw [Int.natCast_mul, Int.toNat_of_nonneg (by omega)]
          rw [← this]; exact wrap64 (by omega) (by omega)
        have w2 : IntKind.i64.wrap (a * ((o.toNat ^ (2 * i + 1) : Nat) : Int)) = ((a.toNat * o.toNat ^ (2 * i + 1) : Nat) : Int) := by
          have : ((a.toNat * o.toNat ^ (2 * i + 1) : Nat) : Int) = a * ((o.toNat ^ (2 * i + 1) : Nat) : Int) := by rw [Int.natCast_mul, Int.toNat_of_nonneg (by omega)]
          rw [← this]; exact wrap64 (by omega) (by omega)
        have w3 : IntKind.i64.wrap (((2 * i + 1 : Nat) : Int) + 2) = ((2 * (i + 1) + 1 : Nat) : Int) := by rw [wrap64 (by omega) (by omega)]; omega
        cases hq : rfP s.toNat o.toNat a.toNat b.toNat i with
        | true =>
          have hge : ((inB s.toNat o.toNat (2 * i + 1) (i + 1) * b.toNat : Nat) : Int) ≥ ((a.toNat * o.toNat ^ (2 * i + 1) : Nat) : Int) := by
            simp only [rfP, decide_eq_true_eq] at hq; omega
          have hf : rfF s.toNat o.toNat a.toNat b.toNat = some i := find_range h hp hq
          simp only [g1, g2, g3, g4, d2, h1, hh, w1, w2, hge, h_majority, c_majority, h_power, c_power, Int.toNat_natCast, ↓SP, SQ, Gam.add, stepM, callC, argC, lendO, nmBy, nmC, likeL, likeB, plainOb, offs, exL, X, F, trP, trO, stepD, stepW, newA, SV.tr, SV.trL, fz, allP, Ob.tr, loadA, cellsA, SV.cells, binA, binI, eqOut, isSl, isPt, natOf, callee, snap, SV.refsL, SV.refs, thaw, fzAll, loA, hiA, elemOf, partsA, buildA, putCells, ↓reduceIte, reduceCtorEq, okCell, Nat.reduceAdd, Nat.reduceEqDiff, Nat.reduceSub, Nat.reduceMul, Nat.reduceLeDiff, Nat.reduceLT, Nat.reduceBEq, PV.scal, PV.scalL, SV.scal, SV.scalL, Ob.scal, PV.isCell, pure', resO]
          refine hR _ _ _ (by intro h; cases h) ?_
          rw [hf]
          simp only [↓SP, SQ, Gam.add, stepM, callC, argC, lendO, nmBy, nmC, likeL, likeB, plainOb, offs, exL, X, F, trP, trO, stepD, stepW, newA, SV.tr, SV.trL, fz, allP, Ob.tr, loadA, cellsA, SV.cells, binA, binI, eqOut, isSl, isPt, natOf, callee, snap, SV.refsL, SV.refs, thaw, fzAll, loA, hiA, elemOf, partsA, buildA, putCells, ↓reduceIte, reduceCtorEq, okCell, Nat.reduceAdd, Nat.reduceEqDiff, Nat.reduceSub, Nat.reduceMul, Nat.reduceLeDiff, Nat.reduceLT, Nat.reduceBEq, PV.scal, PV.scalL, SV.scal, SV.scalL, Ob.scal, PV.isCell, pure', resO]
          exact finA_val (by simp [retA, rvA, mkE_cons, mk_nil, mkO_cons, mkO_nil, loadA, SV.tr, SV.trL, nmF, rn_nil, rn_cons1, rn_cons2, plainOb, SV.refsL, SV.refs, Ob.refs, X, F, List.range_succ, mkO, setO_mk]) (by simp [SV.tr, SV.trL])
        | false =>
          have hge : ¬ ((inB s.toNat o.toNat (2 * i + 1) (i + 1) * b.toNat : Nat) : Int) ≥ ((a.toNat * o.toNat ^ (2 * i + 1) : Nat) : Int) := by
            simp only [rfP, decide_eq_false_iff_not] at hq; omega
          simp only [g1, g2, g3, g4, d2, h1, hh, w1, w2, w3, hge, h_majority, c_majority, h_power, c_power, Int.toNat_natCast, ↓SP, SQ, Gam.add, stepM, callC, argC, lendO, nmBy, nmC, likeL, likeB, plainOb, offs, exL, X, F, trP, trO, stepD, stepW, newA, SV.tr, SV.trL, fz, allP, Ob.tr, loadA, cellsA, SV.cells, binA, binI, eqOut, isSl, isPt, natOf, callee, snap, SV.refsL, SV.refs, thaw, fzAll, loA, hiA, elemOf, partsA, buildA, putCells, ↓reduceIte, reduceCtorEq, okCell, Nat.reduceAdd, Nat.reduceEqDiff, Nat.reduceSub, Nat.reduceMul, Nat.reduceLeDiff, Nat.reduceLT, Nat.reduceBEq, PV.scal, PV.scalL, SV.scal, SV.scalL, Ob.scal, PV.isCell, pure', resO]
          refine hN (i + 1, _, _) _ _ ⟨by simp only; omega, fun j hj => ?_⟩ (by simp only; omega) rfl rfl
          simp only at hj
          by_cases hji : j = i
          · rw [hji]; exact hq
          · exact hp j (by omega)
      · have he : i = 6 := by omega
        subst he
        have g1 : ¬ ((2 * 6 + 1 : Nat) : Int) ≤ 12 := by omega
        have hf : rfF s.toNat o.toNat a.toNat b.toNat = none := find_none hp
        simp only [g1, ↓SP, SQ, Gam.add, stepM, callC, argC, lendO, nmBy, nmC, likeL, likeB, plainOb, offs, exL, X, F, trP, trO, stepD, stepW, newA, SV.tr, SV.trL, fz, allP, Ob.tr, loadA, cellsA, SV.cells, binA, binI, eqOut, isSl, isPt, natOf, callee, snap, SV.refsL, SV.refs, thaw, fzAll, loA, hiA, elemOf, partsA, buildA, putCells, ↓reduceIte, reduceCtorEq, okCell, Nat.reduceAdd, Nat.reduceEqDiff, Nat.reduceSub, Nat.reduceMul, Nat.reduceLeDiff, Nat.reduceLT, Nat.reduceBEq, PV.scal, PV.scalL, SV.scal, SV.scalL, Ob.scal, PV.isCell, pure', resO]
        refine hR _ _ _ (by intro h; cases h) ?_
        rw [hf]
        simp only [↓SP, SQ, Gam.add, stepM, callC, argC, lendO, nmBy, nmC, likeL, likeB, plainOb, offs, exL, X, F, trP, trO, stepD, stepW, newA, SV.tr, SV.trL, fz, allP, Ob.tr, loadA, cellsA, SV.cells, binA, binI, eqOut, isSl, isPt, natOf, callee, snap, SV.refsL, SV.refs, thaw, fzAll, loA, hiA, elemOf, partsA, buildA, putCells, ↓reduceIte, reduceCtorEq, okCell, Nat.reduceAdd, Nat.reduceEqDiff, Nat.reduceSub, Nat.reduceMul, Nat.reduceLeDiff, Nat.reduceLT, Nat.reduceBEq, PV.scal, PV.scalL, SV.scal, SV.scalL, Ob.scal, PV.isCell, pure', resO]
        exact finA_val (by simp [retA, rvA, mkE_cons, mk_nil, mkO_cons, mkO_nil, loadA, SV.tr, SV.trL, nmF, rn_nil, rn_cons1, rn_cons2, plainOb, SV.refsL, SV.refs, Ob.refs, X, F, List.range_succ, mkO, setO_mk]) (by simp [SV.tr, SV.trL])
theorem s_s_RepeatsFor {P : Program} (hm : P.follows .mixedOrders = true) {Γ : Gam} (hΓ : GS P Γ) {n : FuncId} {f_l7Good : FuncId} {f_l7Majority : FuncId} {f_l7Power : FuncId} (is : Is P n (a_s_RepeatsFor f_l7Good f_l7Majority f_l7Power)) (h_l7Good : Γ f_l7Good = c_IsDoubt) (h_l7Majority : Γ f_l7Majority = c_l7Majority) (h_l7Power : Γ f_l7Power = c_power)  : Says P n c_RepeatsFor := by
  refine Says.pure fun args r fs h => ?_
  split at h
  case h_2 => cases h
  rename_i s o a b
  split at h
  case isFalse => cases h
  rename_i hc
  simp only [ofI_ints, ofBo_bools, ofAs_asks, Option.some.injEq, Prod.mk.injEq] at h hc
  obtain ⟨rfl, rfl⟩ := h
  cases h1 : isD s o with
  | false =>
    have hv : rfV s o a b = (0, false) := by simp only [rfV, h1, Bool.false_and, Bool.false_eq_true, if_false]
    rw [hv]
    refine is.go hm hΓ k_s_RepeatsFor o_s_RepeatsFor (by simp [a_s_RepeatsFor]) ?_
    simp only [a_s_RepeatsFor, h_l7Good, c_IsDoubt, h_l7Majority, c_l7Majority, h_l7Power, c_power, h1, List.zipIdx_cons, List.zipIdx_nil, ↓SP, SQ, Gam.add, stepM, callC, argC, lendO, nmBy, nmC, likeL, likeB, plainOb, offs, exL, X, F, trP, trO, stepD, stepW, newA, SV.tr, SV.trL, fz, allP, Ob.tr, loadA, cellsA, SV.cells, binA, binI, eqOut, isSl, isPt, natOf, callee, snap, SV.refsL, SV.refs, thaw, fzAll, loA, hiA, elemOf, partsA, buildA, putCells, ↓reduceIte, reduceCtorEq, okCell, Nat.reduceAdd, Nat.reduceEqDiff, Nat.reduceSub, Nat.reduceMul, Nat.reduceLeDiff, Nat.reduceLT, Nat.reduceBEq, PV.scal, PV.scalL, SV.scal, SV.scalL, Ob.scal, PV.isCell, pure', resO]
    exact finA_val (by simp [retA, rvA, mkE_cons, mk_nil, mkO_cons, mkO_nil, loadA, SV.tr, SV.trL, nmF, rn_nil, rn_cons1, rn_cons2, plainOb, SV.refsL, SV.refs, Ob.refs, X, F, List.range_succ, mkO, setO_mk]) (by simp [SV.tr, SV.trL])
  | true =>
    cases h2 : isD a b with
    | false =>
      have hv : rfV s o a b = (0, false) := by simp only [rfV, h2, Bool.and_false, Bool.false_eq_true, if_false]
      rw [hv]
      refine is.go hm hΓ k_s_RepeatsFor o_s_RepeatsFor (by simp [a_s_RepeatsFor]) ?_
      simp only [a_s_RepeatsFor, h_l7Good, c_IsDoubt, h_l7Majority, c_l7Majority, h_l7Power, c_power, h1, h2, List.zipIdx_cons, List.zipIdx_nil, ↓SP, SQ, Gam.add, stepM, callC, argC, lendO, nmBy, nmC, likeL, likeB, plainOb, offs, exL, X, F, trP, trO, stepD, stepW, newA, SV.tr, SV.trL, fz, allP, Ob.tr, loadA, cellsA, SV.cells, binA, binI, eqOut, isSl, isPt, natOf, callee, snap, SV.refsL, SV.refs, thaw, fzAll, loA, hiA, elemOf, partsA, buildA, putCells, ↓reduceIte, reduceCtorEq, okCell, Nat.reduceAdd, Nat.reduceEqDiff, Nat.reduceSub, Nat.reduceMul, Nat.reduceLeDiff, Nat.reduceLT, Nat.reduceBEq, PV.scal, PV.scalL, SV.scal, SV.scalL, Ob.scal, PV.isCell, pure', resO]
      exact finA_val (by simp [retA, rvA, mkE_cons, mk_nil, mkO_cons, mkO_nil, loadA, SV.tr, SV.trL, nmF, rn_nil, rn_cons1, rn_cons2, plainOb, SV.refsL, SV.refs, Ob.refs, X, F, List.range_succ, mkO, setO_mk]) (by simp [SV.tr, SV.trL])
    | true =>
      have hv : rfV s o a b = (match rfF s.toNat o.toNat a.toNat b.toNat with | some j => (((2 * j + 1 : Nat) : Int), true) | none => (0, false)) := by simp only [rfV, h1, h2, Bool.and_self, if_true]
      rw [hv]
      obtain ⟨d1, d2, d3, d4⟩ := isD_out h1
      obtain ⟨e1, e2, e3, e4⟩ := isD_out h2
      refine is.go hm hΓ k_s_RepeatsFor o_s_RepeatsFor (by simp [a_s_RepeatsFor]) ?_
      simp only [a_s_RepeatsFor, h_l7Good, c_IsDoubt, h_l7Majority, c_l7Majority, h_l7Power, c_power, h1, h2, List.zipIdx_cons, List.zipIdx_nil, ↓SP, SQ, Gam.add, stepM, callC, argC, lendO, nmBy, nmC, likeL, likeB, plainOb, offs, exL, X, F, trP, trO, stepD, stepW, newA, SV.tr, SV.trL, fz, allP, Ob.tr, loadA, cellsA, SV.cells, binA, binI, eqOut, isSl, isPt, natOf, callee, snap, SV.refsL, SV.refs, thaw, fzAll, loA, hiA, elemOf, partsA, buildA, putCells, ↓reduceIte, reduceCtorEq, okCell, Nat.reduceAdd, Nat.reduceEqDiff, Nat.reduceSub, Nat.reduceMul, Nat.reduceLeDiff, Nat.reduceLT, Nat.reduceBEq, PV.scal, PV.scalL, SV.scal, SV.scalL, Ob.scal, PV.isCell, pure', resO]
      refine loop_at (fun st : Nat × SV × SV => mkEnv [(0, .p (.agg [.int .i64 s, .int .i64 o])), (1, .p (.agg [.int .i64 a, .int .i64 b])), (2, .bx 2 0), (3, .bx 3 0), (4, si 0), (5, sb false), (6, si ((2 * st.1 + 1 : Nat) : Int)), (14, sb false), (16, st.2.1), (32, st.2.2)]) (fun st => mkO [(2, some (.box [si s, si o])), (3, some (.box [si a, si b]))]) (fun st => st.1 ≤ 6 ∧ ∀ j, j < st.1 → rfP s.toNat o.toNat a.toNat b.toNat j = false) (fun st => 6 - st.1) (0, .junk, .junk) (by simp) rfl rfl ?_
      rintro ⟨i, c1, c2⟩ ⟨hi, hp⟩ R hR hN
      simp only at hi hp
      by_cases h : i < 6
      · have g1 : ((2 * i + 1 : Nat) : Int) ≤ 12 := by omega
        have g2 : 1 ≤ ((2 * i + 1 : Nat) : Int) := by omega
        have g3 : 0 ≤ ((2 * i + 1 : Nat) : Int) := by omega
        have g4 : 0 ≤ o := by omega
        have hh : ((2 * i + 1 : Nat) - 1) / 2 + 1 = i + 1 := by omega
        have hB := inB_10 h1 (n := 2 * i + 1) (k := i + 1) (by omega) (by omega)
        have hp12 := pow_le (b := o.toNat) (e := 2 * i + 1) (by omega) (by omega)
        have hm1 : inB s.toNat o.toNat (2 * i + 1) (i + 1) * b.toNat ≤ 1000000000000 * 10 := Nat.mul_le_mul hB (by omega)
        have hm2 : a.toNat * o.toNat ^ (2 * i + 1) ≤ 10 * 1000000000000 := Nat.mul_le_mul (by omega) (by omega)
        have w1 : IntKind.i64.wrap ((inB s.toNat o.toNat (2 * i + 1) (i + 1) : Int) * b) = ((inB s.toNat o.toNat (2 * i + 1) (i + 1) * b.toNat : Nat) : Int) := by
          have : ((inB s.toNat o.toNat (2 * i + 1) (i + 1) * b.toNat : Nat) : Int) = (inB s.toNat o.toNat (2 * i + 1) (i + 1) : Int) * b := by rw [Int.natCast_mul, Int.toNat_of_nonneg (by omega)]
          rw [← this]; exact wrap64 (by omega) (by omega)
        have w2 : IntKind.i64.wrap (a * ((o.toNat ^ (2 * i + 1) : Nat) : Int)) = ((a.toNat * o.toNat ^ (2 * i + 1) : Nat) : Int) := by
          have : ((a.toNat * o.toNat ^ (2 * i + 1) : Nat) : Int) = a * ((o.toNat ^ (2 * i + 1) : Nat) : Int) := by rw [Int.natCast_mul, Int.toNat_of_nonneg (by omega)]
          rw [← this]; exact wrap64 (by omega) (by omega)
        have w3 : IntKind.i64.wrap (((2 * i + 1 : Nat) : Int) + 2) = ((2 * (i + 1) + 1 : Nat) : Int) := by rw [wrap64 (by omega) (by omega)]; omega
        cases hq : rfP s.toNat o.toNat a.toNat b.toNat i with
        | true =>
          have hge : ((inB s.toNat o.toNat (2 * i + 1) (i + 1) * b.toNat : Nat) : Int) ≥ ((a.toNat * o.toNat ^ (2 * i + 1) : Nat) : Int) := by
            simp only [rfP, decide_eq_true_eq] at hq; omega
          have hf : rfF s.toNat o.toNat a.toNat b.toNat = some i := find_range h hp hq
          simp only [g1, g2, g3, g4, d2, h1, hh, w1, w2, hge, h_l7Majority, c_l7Majority, h_l7Power, c_power, Int.toNat_natCast, ↓SP, SQ, Gam.add, stepM, callC, argC, lendO, nmBy, nmC, likeL, likeB, plainOb, offs, exL, X, F, trP, trO, stepD, stepW, newA, SV.tr, SV.trL, fz, allP, Ob.tr, loadA, cellsA, SV.cells, binA, binI, eqOut, isSl, isPt, natOf, callee, snap, SV.refsL, SV.refs, thaw, fzAll, loA, hiA, elemOf, partsA, buildA, putCells, ↓reduceIte, reduceCtorEq, okCell, Nat.reduceAdd, Nat.reduceEqDiff, Nat.reduceSub, Nat.reduceMul, Nat.reduceLeDiff, Nat.reduceLT, Nat.reduceBEq, PV.scal, PV.scalL, SV.scal, SV.scalL, Ob.scal, PV.isCell, pure', resO]
          refine hR _ _ _ (by intro h; cases h) ?_
          rw [hf]
          simp only [↓SP, SQ, Gam.add, stepM, callC, argC, lendO, nmBy, nmC, likeL, likeB, plainOb, offs, exL, X, F, trP, trO, stepD, stepW, newA, SV.tr, SV.trL, fz, allP, Ob.tr, loadA, cellsA, SV.cells, binA, binI, eqOut, isSl, isPt, natOf, callee, snap, SV.refsL, SV.refs, thaw, fzAll, loA, hiA, elemOf, partsA, buildA, putCells, ↓reduceIte, reduceCtorEq, okCell, Nat.reduceAdd, Nat.reduceEqDiff, Nat.reduceSub, Nat.reduceMul, Nat.reduceLeDiff, Nat.reduceLT, Nat.reduceBEq, PV.scal, PV.scalL, SV.scal, SV.scalL, Ob.scal, PV.isCell, pure', resO]
          exact finA_val (by simp [retA, rvA, mkE_cons, mk_nil, mkO_cons, mkO_nil, loadA, SV.tr, SV.trL, nmF, rn_nil, rn_cons1, rn_cons2, plainOb, SV.refsL, SV.refs, Ob.refs, X, F, List.range_succ, mkO, setO_mk]) (by simp [SV.tr, SV.trL])
        | false =>
          have hge : ¬ ((inB s.toNat o.toNat (2 * i + 1) (i + 1) * b.toNat : Nat) : Int) ≥ ((a.toNat * o.toNat ^ (2 * i + 1) : Nat) : Int) := by
            simp only [rfP, decide_eq_false_iff_not] at hq; omega
          simp only [g1, g2, g3, g4, d2, h1, hh, w1, w2, w3, hge, h_l7Majority, c_l7Majority, h_l7Power, c_power, Int.toNat_natCast, ↓SP, SQ, Gam.add, stepM, callC, argC, lendO, nmBy, nmC, likeL, likeB, plainOb, offs, exL, X, F, trP, trO, stepD, stepW, newA, SV.tr, SV.trL, fz, allP, Ob.tr, loadA, cellsA, SV.cells, binA, binI, eqOut, isSl, isPt, natOf, callee, snap, SV.refsL, SV.refs, thaw, fzAll, loA, hiA, elemOf, partsA, buildA, putCells, ↓reduceIte, reduceCtorEq, okCell, Nat.reduceAdd, Nat.reduceEqDiff, Nat.reduceSub, Nat.reduceMul, Nat.reduceLeDiff, Nat.reduceLT, Nat.reduceBEq, PV.scal, PV.scalL, SV.scal, SV.scalL, Ob.scal, PV.isCell, pure', resO]
          refine hN (i + 1, _, _) _ _ ⟨by simp only; omega, fun j hj => ?_⟩ (by simp only; omega) rfl rfl
          simp only at hj
          by_cases hji : j = i
          · rw [hji]; exact hq
          · exact hp j (by omega)
      · have he : i = 6 := by omega
        subst he
        have g1 : ¬ ((2 * 6 + 1 : Nat) : Int) ≤ 12 := by omega
        have hf : rfF s.toNat o.toNat a.toNat b.toNat = none := find_none hp
        simp only [g1, ↓SP, SQ, Gam.add, stepM, callC, argC, lendO, nmBy, nmC, likeL, likeB, plainOb, offs, exL, X, F, trP, trO, stepD, stepW, newA, SV.tr, SV.trL, fz, allP, Ob.tr, loadA, cellsA, SV.cells, binA, binI, eqOut, isSl, isPt, natOf, callee, snap, SV.refsL, SV.refs, thaw, fzAll, loA, hiA, elemOf, partsA, buildA, putCells, ↓reduceIte, reduceCtorEq, okCell, Nat.reduceAdd, Nat.reduceEqDiff, Nat.reduceSub, Nat.reduceMul, Nat.reduceLeDiff, Nat.reduceLT, Nat.reduceBEq, PV.scal, PV.scalL, SV.scal, SV.scalL, Ob.scal, PV.isCell, pure', resO]
        refine hR _ _ _ (by intro h; cases h) ?_
        rw [hf]
        simp only [↓SP, SQ, Gam.add, stepM, callC, argC, lendO, nmBy, nmC, likeL, likeB, plainOb, offs, exL, X, F, trP, trO, stepD, stepW, newA, SV.tr, SV.trL, fz, allP, Ob.tr, loadA, cellsA, SV.cells, binA, binI, eqOut, isSl, isPt, natOf, callee, snap, SV.refsL, SV.refs, thaw, fzAll, loA, hiA, elemOf, partsA, buildA, putCells, ↓reduceIte, reduceCtorEq, okCell, Nat.reduceAdd, Nat.reduceEqDiff, Nat.reduceSub, Nat.reduceMul, Nat.reduceLeDiff, Nat.reduceLT, Nat.reduceBEq, PV.scal, PV.scalL, SV.scal, SV.scalL, Ob.scal, PV.isCell, pure', resO]
        exact finA_val (by simp [retA, rvA, mkE_cons, mk_nil, mkO_cons, mkO_nil, loadA, SV.tr, SV.trL, nmF, rn_nil, rn_cons1, rn_cons2, plainOb, SV.refsL, SV.refs, Ob.refs, X, F, List.range_succ, mkO, setO_mk]) (by simp [SV.tr, SV.trL])
def gc (a b : Nat × Nat) : Nat := Nat.gcd a.2 b.2
def vpT (a b : Nat × Nat) : Nat := a.1 * (b.2 / gc a b) + b.1 * (a.2 / gc a b)
def vpU (a b : Nat × Nat) : Nat := a.2 / gc a b * b.2
def vpl (a b : Nat × Nat) : Nat × Nat := (vpT a b / Nat.gcd (vpT a b) (vpU a b), vpU a b / Nat.gcd (vpT a b) (vpU a b))
def nn2 (a b : Int) : Nat × Nat := (a.toNat, b.toNat)
def okV (a b : Nat × Nat) : Bool := decide (1 ≤ a.2) && decide (1 ≤ b.2) && decide (a.2 ≤ 1000000000000000) && decide (b.2 ≤ 1000000000000000) && decide (vpT a b ≤ 1000000000000000) && decide (vpU a b ≤ 1000000000000000)
theorem okV_out {a b : Nat × Nat} (h : okV a b = true) : 1 ≤ a.2 ∧ 1 ≤ b.2 ∧ a.2 ≤ 1000000000000000 ∧ b.2 ≤ 1000000000000000 ∧ vpT a b ≤ 1000000000000000 ∧ vpU a b ≤ 1000000000000000 := by
  simp only [okV, Bool.and_eq_true, decide_eq_true_eq] at h
  exact ⟨h.1.1.1.1.1, h.1.1.1.1.2, h.1.1.1.2, h.1.1.2, h.1.2, h.2⟩
theorem mul_wrap {a b : Nat} (h : a * b ≤ 4000000000000000000) : IntKind.i64.wrap ((a : Int) * (b : Int)) = ((a * b : Nat) : Int) := by
  rw [← Int.natCast_mul]
  generalize a * b = q at *
  exact wrap64 (by omega) (by omega)
theorem add_wrap {a b : Nat} (h : a + b ≤ 4000000000000000000) : IntKind.i64.wrap ((a : Int) + (b : Int)) = ((a + b : Nat) : Int) := by
  rw [← Int.natCast_add]
  generalize a + b = q at *
  exact wrap64 (by omega) (by omega)
def a_vPlus : AFn := ⟨2, 
  .seq (.reg [⟨some 2, none, .w (.box 2 (.t 0))⟩,
    ⟨some 3, none, .w (.box 2 (.t 1))⟩,
    ⟨some 4, none, .w (.alloc [.int .i64 0, .int .i64 0])⟩])
  (.seq (.dreg [] [([], ⟨some 9, none, .d (.iaA 2 1 (.t 2) (.c (.int .i64 1)))⟩),
    ([], ⟨some 10, none, .d (.load false 1 (.t 9))⟩),
    ([], ⟨some 11, none, .d (.iaA 2 1 (.t 3) (.c (.int .i64 1)))⟩),
    ([], ⟨some 12, none, .d (.load false 1 (.t 11))⟩),
    ([], ⟨some 5, none, .d (.mv (.t 10))⟩)] [⟨some 6, none, .d (.mv (.t 12))⟩])
  (.seq (.block 0 (.loop (.seq (.seq (.reg [⟨some 13, none, .d (.mv (.t 6))⟩,
      ⟨some 14, none, .d (.bin .arith .gtr (.t 13) (.c (.int .i64 0)))⟩])
    (.cond (.t 14) (.skip) (.exit 0)))
    (.block 1 (.dreg [] [([], ⟨some 15, none, .d (.mv (.t 6))⟩),
       ([], ⟨some 16, none, .d (.mv (.t 5))⟩),
       ([], ⟨some 17, none, .d (.mv (.t 6))⟩),
       ([], ⟨some 18, none, .d (.bin .arith .rem (.t 16) (.t 17))⟩),
       ([], ⟨some 5, none, .d (.mv (.t 15))⟩)] [⟨some 6, none, .d (.mv (.t 18))⟩])))))
  (.seq (.dreg [] [([], ⟨some 19, none, .d (.iaA 2 1 (.t 2) (.c (.int .i64 0)))⟩),
    ([], ⟨some 20, none, .d (.load false 1 (.t 19))⟩),
    ([], ⟨some 21, none, .d (.iaA 2 1 (.t 3) (.c (.int .i64 1)))⟩),
    ([], ⟨some 22, none, .d (.load false 1 (.t 21))⟩),
    ([], ⟨some 23, none, .d (.mv (.t 5))⟩),
    ([], ⟨some 24, none, .d (.bin .arith .quo (.t 22) (.t 23))⟩),
    ([], ⟨some 25, none, .d (.bin .arith .mul (.t 20) (.t 24))⟩),
    ([], ⟨some 26, none, .d (.iaA 2 1 (.t 3) (.c (.int .i64 0)))⟩),
    ([], ⟨some 27, none, .d (.load false 1 (.t 26))⟩),
    ([], ⟨some 28, none, .d (.iaA 2 1 (.t 2) (.c (.int .i64 1)))⟩),
    ([], ⟨some 29, none, .d (.load false 1 (.t 28))⟩),
    ([], ⟨some 30, none, .d (.mv (.t 5))⟩),
    ([], ⟨some 31, none, .d (.bin .arith .quo (.t 29) (.t 30))⟩),
    ([], ⟨some 32, none, .d (.bin .arith .mul (.t 27) (.t 31))⟩),
    ([], ⟨some 33, none, .d (.bin .arith .add (.t 25) (.t 32))⟩),
    ([], ⟨some 34, none, .d (.iaA 2 1 (.t 2) (.c (.int .i64 1)))⟩),
    ([], ⟨some 35, none, .d (.load false 1 (.t 34))⟩),
    ([], ⟨some 36, none, .d (.mv (.t 5))⟩),
    ([], ⟨some 37, none, .d (.bin .arith .quo (.t 35) (.t 36))⟩),
    ([], ⟨some 38, none, .d (.iaA 2 1 (.t 3) (.c (.int .i64 1)))⟩),
    ([], ⟨some 39, none, .d (.load false 1 (.t 38))⟩),
    ([], ⟨some 40, none, .d (.bin .arith .mul (.t 37) (.t 39))⟩),
    ([], ⟨some 7, none, .d (.mv (.t 33))⟩)] [⟨some 8, none, .d (.mv (.t 40))⟩])
  (.seq (.reg [⟨some 41, none, .d (.mv (.t 7))⟩,
    ⟨some 42, none, .d (.mv (.t 8))⟩,
    ⟨some 5, none, .d (.mv (.t 41))⟩,
    ⟨some 6, none, .d (.mv (.t 42))⟩])
  (.seq (.block 2 (.loop (.seq (.seq (.reg [⟨some 43, none, .d (.mv (.t 6))⟩,
      ⟨some 44, none, .d (.bin .arith .gtr (.t 43) (.c (.int .i64 0)))⟩])
    (.cond (.t 44) (.skip) (.exit 2)))
    (.block 3 (.dreg [] [([], ⟨some 45, none, .d (.mv (.t 6))⟩),
       ([], ⟨some 46, none, .d (.mv (.t 5))⟩),
       ([], ⟨some 47, none, .d (.mv (.t 6))⟩),
       ([], ⟨some 48, none, .d (.bin .arith .rem (.t 46) (.t 47))⟩),
       ([], ⟨some 5, none, .d (.mv (.t 45))⟩)] [⟨some 6, none, .d (.mv (.t 48))⟩])))))
  (.seq (.dreg [] [([], ⟨some 49, none, .d (.mv (.t 7))⟩),
    ([], ⟨some 50, none, .d (.mv (.t 5))⟩),
    ([], ⟨some 51, none, .d (.bin .arith .quo (.t 49) (.t 50))⟩),
    ([], ⟨some 52, none, .d (.mv (.t 8))⟩),
    ([], ⟨some 53, none, .d (.mv (.t 5))⟩),
    ([], ⟨some 54, none, .d (.bin .arith .quo (.t 52) (.t 53))⟩)] [⟨some 55, none, .d (.build [.int .i64 0, .int .i64 0] [(0, 1, (.t 51)), (1, 1, (.t 54))])⟩,
    ⟨none, none, .w (.store 2 (.t 4) (.t 55))⟩])
  (.ret))))))), [.cell 4 2 true]⟩
def n_vPlus : Nat → Option Ann := fun _ => none
abbrev k_vPlus : List Nat := [0, 1, 2, 3, 4, 5, 6, 7, 8, 14, 44]
abbrev o_vPlus : List Nat := [2, 3, 4]
def a_vLess : AFn := ⟨2, 
  .seq (.reg [⟨some 2, none, .w (.box 2 (.t 0))⟩,
    ⟨some 3, none, .w (.box 2 (.t 1))⟩,
    ⟨some 4, none, .d (.mv (.c (.bool false)))⟩])
  (.seq (.dreg [] [([], ⟨some 7, none, .d (.iaA 2 1 (.t 2) (.c (.int .i64 1)))⟩),
    ([], ⟨some 8, none, .d (.load false 1 (.t 7))⟩),
    ([], ⟨some 9, none, .d (.iaA 2 1 (.t 3) (.c (.int .i64 1)))⟩),
    ([], ⟨some 10, none, .d (.load false 1 (.t 9))⟩),
    ([], ⟨some 5, none, .d (.mv (.t 8))⟩)] [⟨some 6, none, .d (.mv (.t 10))⟩])
  (.seq (.block 0 (.loop (.seq (.seq (.reg [⟨some 11, none, .d (.mv (.t 6))⟩,
      ⟨some 12, none, .d (.bin .arith .gtr (.t 11) (.c (.int .i64 0)))⟩])
    (.cond (.t 12) (.skip) (.exit 0)))
    (.block 1 (.dreg [] [([], ⟨some 13, none, .d (.mv (.t 6))⟩),
       ([], ⟨some 14, none, .d (.mv (.t 5))⟩),
       ([], ⟨some 15, none, .d (.mv (.t 6))⟩),
       ([], ⟨some 16, none, .d (.bin .arith .rem (.t 14) (.t 15))⟩),
       ([], ⟨some 5, none, .d (.mv (.t 13))⟩)] [⟨some 6, none, .d (.mv (.t 16))⟩])))))
  (.seq (.dreg [] [([], ⟨some 17, none, .d (.iaA 2 1 (.t 2) (.c (.int .i64 0)))⟩),
    ([], ⟨some 18, none, .d (.load false 1 (.t 17))⟩),
    ([], ⟨some 19, none, .d (.iaA 2 1 (.t 3) (.c (.int .i64 1)))⟩),
    ([], ⟨some 20, none, .d (.load false 1 (.t 19))⟩),
    ([], ⟨some 21, none, .d (.mv (.t 5))⟩),
    ([], ⟨some 22, none, .d (.bin .arith .quo (.t 20) (.t 21))⟩),
    ([], ⟨some 23, none, .d (.bin .arith .mul (.t 18) (.t 22))⟩),
    ([], ⟨some 24, none, .d (.iaA 2 1 (.t 3) (.c (.int .i64 0)))⟩),
    ([], ⟨some 25, none, .d (.load false 1 (.t 24))⟩),
    ([], ⟨some 26, none, .d (.iaA 2 1 (.t 2) (.c (.int .i64 1)))⟩),
    ([], ⟨some 27, none, .d (.load false 1 (.t 26))⟩),
    ([], ⟨some 28, none, .d (.mv (.t 5))⟩),
    ([], ⟨some 29, none, .d (.bin .arith .quo (.t 27) (.t 28))⟩),
    ([], ⟨some 30, none, .d (.bin .arith .mul (.t 25) (.t 29))⟩)] [⟨some 31, none, .d (.bin .arith .lss (.t 23) (.t 30))⟩,
    ⟨some 4, none, .d (.mv (.t 31))⟩])
  (.ret)))), [.tmp 4]⟩
def n_vLess : Nat → Option Ann := fun _ => none
abbrev k_vLess : List Nat := [0, 1, 2, 3, 4, 5, 6, 12]
abbrev o_vLess : List Nat := [2, 3]
def c_vPlus : Con := pure' fun
  | [.p (.agg [.int .i64 a, .int .i64 b]), .p (.agg [.int .i64 c, .int .i64 d])] => if (0 ≤ a ∧ 0 ≤ b ∧ 0 ≤ c ∧ 0 ≤ d ∧ okV (nn2 a b) (nn2 c d) = true) then some (.ag [.p (.int .i64 ((vpl (nn2 a b) (nn2 c d)).1 : Nat)), .p (.int .i64 ((vpl (nn2 a b) (nn2 c d)).2 : Nat))], []) else none
  | _ => none
theorem s_vPlus {P : Program} (hm : P.follows .mixedOrders = true) {Γ : Gam} (hΓ : GS P Γ) {n : FuncId} (is : Is P n a_vPlus)  : Says P n c_vPlus := by
  refine Says.pure fun args r fs h => ?_
  split at h
  case h_2 => cases h
  rename_i a b c d
  split at h
  case isFalse => cases h
  rename_i hc
  simp only [ofI_ints, ofBo_bools, ofAs_asks, Option.some.injEq, Prod.mk.injEq] at h hc
  obtain ⟨rfl, rfl⟩ := h
  obtain ⟨h0, h1, h2, h3, hk⟩ := hc
  obtain ⟨a, rfl⟩ : ∃ j : Nat, a = j := ⟨a.toNat, by omega⟩
  obtain ⟨b, rfl⟩ : ∃ j : Nat, b = j := ⟨b.toNat, by omega⟩
  obtain ⟨c, rfl⟩ : ∃ j : Nat, c = j := ⟨c.toNat, by omega⟩
  obtain ⟨d, rfl⟩ : ∃ j : Nat, d = j := ⟨d.toNat, by omega⟩
  have e1 : nn2 (a : Int) b = (a, b) := rfl
  have e2 : nn2 (c : Int) d = (c, d) := rfl
  rw [e1, e2] at hk ⊢
  obtain ⟨k1, k2, k3, k4, k5, k6⟩ := okV_out hk
  simp only at k1 k2 k3 k4
  have hvT : vpT (a, b) (c, d) = a * (d / Nat.gcd b d) + c * (b / Nat.gcd b d) := rfl
  have hvU : vpU (a, b) (c, d) = b / Nat.gcd b d * d := rfl
  have hvl : vpl (a, b) (c, d) = (vpT (a, b) (c, d) / Nat.gcd (vpT (a, b) (c, d)) (vpU (a, b) (c, d)), vpU (a, b) (c, d) / Nat.gcd (vpT (a, b) (c, d)) (vpU (a, b) (c, d))) := rfl
  rw [hvl]
  refine is.go hm hΓ k_vPlus o_vPlus (by simp [a_vPlus]) ?_
  simp only [a_vPlus, Int.le_refl, Int.reduceToNat, Int.reduceLT, Int.reduceLE, List.zipIdx_cons, List.zipIdx_nil, ↓SP, SQ, Gam.add, stepM, callC, argC, lendO, nmBy, nmC, likeL, likeB, plainOb, offs, exL, X, F, trP, trO, stepD, stepW, newA, SV.tr, SV.trL, fz, allP, Ob.tr, loadA, cellsA, SV.cells, binA, binI, eqOut, isSl, isPt, natOf, callee, snap, SV.refsL, SV.refs, thaw, fzAll, loA, hiA, elemOf, partsA, buildA, putCells, ↓reduceIte, reduceCtorEq, okCell, Nat.reduceAdd, Nat.reduceEqDiff, Nat.reduceSub, Nat.reduceMul, Nat.reduceLeDiff, Nat.reduceLT, Nat.reduceBEq, PV.scal, PV.scalL, SV.scal, SV.scalL, Ob.scal, PV.isCell, pure', resO]
  refine loop_at (fun s : Nat × Nat × SV => mkEnv [(0, .p (.agg [.int .i64 (a : Int), .int .i64 (b : Int)])), (1, .p (.agg [.int .i64 (c : Int), .int .i64 (d : Int)])), (2, .bx 2 0), (3, .bx 3 0), (4, .bx 4 0), (5, si s.1), (6, si s.2.1), (7, .junk), (8, .junk), (14, s.2.2), (44, .junk)]) (fun s => mkO [(2, some (.box [si a, si b])), (3, some (.box [si c, si d])), (4, some (.box [si 0, si 0]))]) (fun s => Nat.gcd s.1 s.2.1 = Nat.gcd b d ∧ s.1 ≤ 4000000000000000000 ∧ s.2.1 ≤ 4000000000000000000) (fun s => s.2.1) (b, d, .junk) ⟨rfl, by simp only; omega, by simp only; omega⟩ rfl rfl ?_
  rintro ⟨x, y, c1⟩ ⟨hg, hx, hy⟩ R hR hN
  simp only at hg hx hy
  by_cases h : y = 0
  · have hb : ¬ (y : Int) > 0 := by omega
    have hgx : x = Nat.gcd b d := by rw [← hg, h, Nat.gcd_zero_right]
    have hgp : 0 < Nat.gcd b d := Nat.gcd_pos_of_pos_right b (by omega)
    rw [← hgx] at hvT hvU hgp
    have hz : ¬ (x : Int) = 0 := by omega
    have d1 := div_wrap (a := d) (g := x) (by omega)
    have d2 := div_wrap (a := b) (g := x) (by omega)
    have le1 : a * (d / x) ≤ 4000000000000000000 := by rw [hvT] at k5; omega
    have le2 : c * (b / x) ≤ 4000000000000000000 := by rw [hvT] at k5; omega
    have m1 := mul_wrap le1
    have m2 := mul_wrap le2
    have m3 := add_wrap (a := a * (d / x)) (b := c * (b / x)) (by rw [hvT] at k5; omega)
    rw [← hvT] at m3
    have m4 := mul_wrap (a := b / x) (b := d) (by rw [hvU] at k6; omega)
    rw [← hvU] at m4
    simp only [hb, ↓SP, SQ, Gam.add, stepM, callC, argC, lendO, nmBy, nmC, likeL, likeB, plainOb, offs, exL, X, F, trP, trO, stepD, stepW, newA, SV.tr, SV.trL, fz, allP, Ob.tr, loadA, cellsA, SV.cells, binA, binI, eqOut, isSl, isPt, natOf, callee, snap, SV.refsL, SV.refs, thaw, fzAll, loA, hiA, elemOf, partsA, buildA, putCells, ↓reduceIte, reduceCtorEq, okCell, Nat.reduceAdd, Nat.reduceEqDiff, Nat.reduceSub, Nat.reduceMul, Nat.reduceLeDiff, Nat.reduceLT, Nat.reduceBEq, PV.scal, PV.scalL, SV.scal, SV.scalL, Ob.scal, PV.isCell, pure', resO]
    refine hR _ _ _ (by intro h; cases h) ?_
    simp only [hz, d1, d2, m1, m2, m3, m4, Int.le_refl, Int.reduceToNat, Int.reduceLT, Int.reduceLE, ↓SP, SQ, Gam.add, stepM, callC, argC, lendO, nmBy, nmC, likeL, likeB, plainOb, offs, exL, X, F, trP, trO, stepD, stepW, newA, SV.tr, SV.trL, fz, allP, Ob.tr, loadA, cellsA, SV.cells, binA, binI, eqOut, isSl, isPt, natOf, callee, snap, SV.refsL, SV.refs, thaw, fzAll, loA, hiA, elemOf, partsA, buildA, putCells, ↓reduceIte, reduceCtorEq, okCell, Nat.reduceAdd, Nat.reduceEqDiff, Nat.reduceSub, Nat.reduceMul, Nat.reduceLeDiff, Nat.reduceLT, Nat.reduceBEq, PV.scal, PV.scalL, SV.scal, SV.scalL, Ob.scal, PV.isCell, pure', resO]
    generalize vpT (a, b) (c, d) = T at *
    have hU0 : 0 < vpU (a, b) (c, d) := by
      rw [hvU]
      exact Nat.mul_pos (Nat.div_pos (Nat.le_of_dvd (by omega) (hgx ▸ Nat.gcd_dvd_left b d)) hgp) (by omega)
    generalize vpU (a, b) (c, d) = U at *
    refine loop_at (fun s : Nat × Nat × SV => mkEnv [(0, .p (.agg [.int .i64 (a : Int), .int .i64 (b : Int)])), (1, .p (.agg [.int .i64 (c : Int), .int .i64 (d : Int)])), (2, .bx 2 0), (3, .bx 3 0), (4, .bx 4 0), (5, si s.1), (6, si s.2.1), (7, si T), (8, si U), (14, sb false), (44, s.2.2)]) (fun s => mkO [(2, some (.box [si a, si b])), (3, some (.box [si c, si d])), (4, some (.box [si 0, si 0]))]) (fun s => Nat.gcd s.1 s.2.1 = Nat.gcd T U ∧ s.1 ≤ 4000000000000000000 ∧ s.2.1 ≤ 4000000000000000000) (fun s => s.2.1) (T, U, .junk) ⟨rfl, by simp only; omega, by simp only; omega⟩ rfl rfl ?_
    rintro ⟨x2, y2, c2⟩ ⟨hg2, hx2, hy2⟩ R2 hR2 hN2
    simp only at hg2 hx2 hy2
    by_cases h2 : y2 = 0
    · have hb2 : ¬ (y2 : Int) > 0 := by omega
      have hgx2 : x2 = Nat.gcd T U := by rw [← hg2, h2, Nat.gcd_zero_right]
      have hgp2 : 0 < Nat.gcd T U := Nat.gcd_pos_of_pos_right T hU0
      have hz2 : ¬ (x2 : Int) = 0 := by omega
      have d3 := div_wrap (a := T) (g := x2) (by omega)
      have d4 := div_wrap (a := U) (g := x2) (by omega)
      simp only [hb2, ↓SP, SQ, Gam.add, stepM, callC, argC, lendO, nmBy, nmC, likeL, likeB, plainOb, offs, exL, X, F, trP, trO, stepD, stepW, newA, SV.tr, SV.trL, fz, allP, Ob.tr, loadA, cellsA, SV.cells, binA, binI, eqOut, isSl, isPt, natOf, callee, snap, SV.refsL, SV.refs, thaw, fzAll, loA, hiA, elemOf, partsA, buildA, putCells, ↓reduceIte, reduceCtorEq, okCell, Nat.reduceAdd, Nat.reduceEqDiff, Nat.reduceSub, Nat.reduceMul, Nat.reduceLeDiff, Nat.reduceLT, Nat.reduceBEq, PV.scal, PV.scalL, SV.scal, SV.scalL, Ob.scal, PV.isCell, pure', resO]
      refine hR2 _ _ _ (by intro h; cases h) ?_
      simp only [hz2, d3, d4, ↓SP, SQ, Gam.add, stepM, callC, argC, lendO, nmBy, nmC, likeL, likeB, plainOb, offs, exL, X, F, trP, trO, stepD, stepW, newA, SV.tr, SV.trL, fz, allP, Ob.tr, loadA, cellsA, SV.cells, binA, binI, eqOut, isSl, isPt, natOf, callee, snap, SV.refsL, SV.refs, thaw, fzAll, loA, hiA, elemOf, partsA, buildA, putCells, ↓reduceIte, reduceCtorEq, okCell, Nat.reduceAdd, Nat.reduceEqDiff, Nat.reduceSub, Nat.reduceMul, Nat.reduceLeDiff, Nat.reduceLT, Nat.reduceBEq, PV.scal, PV.scalL, SV.scal, SV.scalL, Ob.scal, PV.isCell, pure', resO]
      rw [hgx2]
      exact finA_val (by simp [retA, rvA, mkE_cons, mk_nil, mkO_cons, mkO_nil, loadA, SV.tr, SV.trL, nmF, rn_nil, rn_cons1, rn_cons2, plainOb, SV.refsL, SV.refs, Ob.refs, X, F, List.range_succ, mkO, setO_mk]) (by simp [SV.tr, SV.trL])
    · have hb2 : (y2 : Int) > 0 := by omega
      have hz2 : ¬ (y2 : Int) = 0 := by omega
      have m5 := Int.ofNat_tmod x2 y2
      have m6 : (x2 : Int).tmod (y2 : Int) = ((x2 % y2 : Nat) : Int) := m5.symm
      have hlt2 : x2 % y2 < y2 := Nat.mod_lt _ (by omega)
      simp only [hb2, hz2, m6, ↓SP, SQ, Gam.add, stepM, callC, argC, lendO, nmBy, nmC, likeL, likeB, plainOb, offs, exL, X, F, trP, trO, stepD, stepW, newA, SV.tr, SV.trL, fz, allP, Ob.tr, loadA, cellsA, SV.cells, binA, binI, eqOut, isSl, isPt, natOf, callee, snap, SV.refsL, SV.refs, thaw, fzAll, loA, hiA, elemOf, partsA, buildA, putCells, ↓reduceIte, reduceCtorEq, okCell, Nat.reduceAdd, Nat.reduceEqDiff, Nat.reduceSub, Nat.reduceMul, Nat.reduceLeDiff, Nat.reduceLT, Nat.reduceBEq, PV.scal, PV.scalL, SV.scal, SV.scalL, Ob.scal, PV.isCell, pure', resO]
      exact hN2 (y2, x2 % y2, _) _ _ ⟨gcd_step hg2, hy2, by simp only; omega⟩ (by simp only; omega) rfl rfl
  · have hb : (y : Int) > 0 := by omega
    have hz : ¬ (y : Int) = 0 := by omega
    have m5 := Int.ofNat_tmod x y
    have m6 : (x : Int).tmod (y : Int) = ((x % y : Nat) : Int) := m5.symm
    have hlt : x % y < y := Nat.mod_lt _ (by omega)
    simp only [hb, hz, m6, ↓SP, SQ, Gam.add, stepM, callC, argC, lendO, nmBy, nmC, likeL, likeB, plainOb, offs, exL, X, F, trP, trO, stepD, stepW, newA, SV.tr, SV.trL, fz, allP, Ob.tr, loadA, cellsA, SV.cells, binA, binI, eqOut, isSl, isPt, natOf, callee, snap, SV.refsL, SV.refs, thaw, fzAll, loA, hiA, elemOf, partsA, buildA, putCells, ↓reduceIte, reduceCtorEq, okCell, Nat.reduceAdd, Nat.reduceEqDiff, Nat.reduceSub, Nat.reduceMul, Nat.reduceLeDiff, Nat.reduceLT, Nat.reduceBEq, PV.scal, PV.scalL, SV.scal, SV.scalL, Ob.scal, PV.isCell, pure', resO]
    exact hN (y, x % y, _) _ _ ⟨gcd_step hg, hy, by simp only; omega⟩ (by simp only; omega) rfl rfl
def c_vLess : Con := pure' fun
  | [.p (.agg [.int .i64 a, .int .i64 b]), .p (.agg [.int .i64 c, .int .i64 d])] => if (0 ≤ a ∧ 1 ≤ b ∧ 0 ≤ c ∧ 1 ≤ d ∧ a ≤ 1000000000000 ∧ b ≤ 1000000000000 ∧ c ≤ 100 ∧ d ≤ 100) then some (.p (.bool (decide (a.toNat * (d.toNat / Nat.gcd b.toNat d.toNat) < c.toNat * (b.toNat / Nat.gcd b.toNat d.toNat)))), []) else none
  | _ => none
theorem s_vLess {P : Program} (hm : P.follows .mixedOrders = true) {Γ : Gam} (hΓ : GS P Γ) {n : FuncId} (is : Is P n a_vLess)  : Says P n c_vLess := by
  refine Says.pure fun args r fs h => ?_
  split at h
  case h_2 => cases h
  rename_i a b c d
  split at h
  case isFalse => cases h
  rename_i hc
  simp only [ofI_ints, ofBo_bools, ofAs_asks, Option.some.injEq, Prod.mk.injEq] at h hc
  obtain ⟨rfl, rfl⟩ := h
  obtain ⟨h0, h1, h2, h3, h4, h5, h6, h7⟩ := hc
  obtain ⟨a, rfl⟩ : ∃ j : Nat, a = j := ⟨a.toNat, by omega⟩
  obtain ⟨b, rfl⟩ : ∃ j : Nat, b = j := ⟨b.toNat, by omega⟩
  obtain ⟨c, rfl⟩ : ∃ j : Nat, c = j := ⟨c.toNat, by omega⟩
  obtain ⟨d, rfl⟩ : ∃ j : Nat, d = j := ⟨d.toNat, by omega⟩
  simp only [Int.toNat_natCast]
  refine is.go hm hΓ k_vLess o_vLess (by simp [a_vLess]) ?_
  simp only [a_vLess, Int.le_refl, Int.reduceToNat, Int.reduceLT, Int.reduceLE, List.zipIdx_cons, List.zipIdx_nil, ↓SP, SQ, Gam.add, stepM, callC, argC, lendO, nmBy, nmC, likeL, likeB, plainOb, offs, exL, X, F, trP, trO, stepD, stepW, newA, SV.tr, SV.trL, fz, allP, Ob.tr, loadA, cellsA, SV.cells, binA, binI, eqOut, isSl, isPt, natOf, callee, snap, SV.refsL, SV.refs, thaw, fzAll, loA, hiA, elemOf, partsA, buildA, putCells, ↓reduceIte, reduceCtorEq, okCell, Nat.reduceAdd, Nat.reduceEqDiff, Nat.reduceSub, Nat.reduceMul, Nat.reduceLeDiff, Nat.reduceLT, Nat.reduceBEq, PV.scal, PV.scalL, SV.scal, SV.scalL, Ob.scal, PV.isCell, pure', resO]
  refine loop_at (fun s : Nat × Nat × SV => mkEnv [(0, .p (.agg [.int .i64 (a : Int), .int .i64 (b : Int)])), (1, .p (.agg [.int .i64 (c : Int), .int .i64 (d : Int)])), (2, .bx 2 0), (3, .bx 3 0), (4, sb false), (5, si s.1), (6, si s.2.1), (12, s.2.2)]) (fun s => mkO [(2, some (.box [si a, si b])), (3, some (.box [si c, si d]))]) (fun s => Nat.gcd s.1 s.2.1 = Nat.gcd b d ∧ s.1 ≤ 4000000000000000000 ∧ s.2.1 ≤ 4000000000000000000) (fun s => s.2.1) (b, d, .junk) ⟨rfl, by simp only; omega, by simp only; omega⟩ rfl rfl ?_
  rintro ⟨x, y, c1⟩ ⟨hg, hx, hy⟩ R hR hN
  simp only at hg hx hy
  by_cases h : y = 0
  · have hb : ¬ (y : Int) > 0 := by omega
    have hgx : x = Nat.gcd b d := by rw [← hg, h, Nat.gcd_zero_right]
    have hgp : 0 < Nat.gcd b d := Nat.gcd_pos_of_pos_right b (by omega)
    have hz : ¬ (x : Int) = 0 := by omega
    have d1 := div_wrap (a := d) (g := x) (by omega)
    have d2 := div_wrap (a := b) (g := x) (by omega)
    have l1 : a * (d / x) ≤ 1000000000000 * 100 := Nat.mul_le_mul (by omega) (Nat.le_trans (Nat.div_le_self _ _) (by omega))
    have l2 : c * (b / x) ≤ 100 * 1000000000000 := Nat.mul_le_mul (by omega) (Nat.le_trans (Nat.div_le_self _ _) (by omega))
    have m1 := mul_wrap (a := a) (b := d / x) (by omega)
    have m2 := mul_wrap (a := c) (b := b / x) (by omega)
    have hcast : (((a * (d / x) : Nat) : Int) < ((c * (b / x) : Nat) : Int)) = (a * (d / x) < c * (b / x)) := propext Int.ofNat_lt
    simp only [hb, ↓SP, SQ, Gam.add, stepM, callC, argC, lendO, nmBy, nmC, likeL, likeB, plainOb, offs, exL, X, F, trP, trO, stepD, stepW, newA, SV.tr, SV.trL, fz, allP, Ob.tr, loadA, cellsA, SV.cells, binA, binI, eqOut, isSl, isPt, natOf, callee, snap, SV.refsL, SV.refs, thaw, fzAll, loA, hiA, elemOf, partsA, buildA, putCells, ↓reduceIte, reduceCtorEq, okCell, Nat.reduceAdd, Nat.reduceEqDiff, Nat.reduceSub, Nat.reduceMul, Nat.reduceLeDiff, Nat.reduceLT, Nat.reduceBEq, PV.scal, PV.scalL, SV.scal, SV.scalL, Ob.scal, PV.isCell, pure', resO]
    refine hR _ _ _ (by intro h; cases h) ?_
    simp only [hz, d1, d2, m1, m2, hcast, Int.le_refl, Int.reduceToNat, Int.reduceLT, Int.reduceLE, ↓SP, SQ, Gam.add, stepM, callC, argC, lendO, nmBy, nmC, likeL, likeB, plainOb, offs, exL, X, F, trP, trO, stepD, stepW, newA, SV.tr, SV.trL, fz, allP, Ob.tr, loadA, cellsA, SV.cells, binA, binI, eqOut, isSl, isPt, natOf, callee, snap, SV.refsL, SV.refs, thaw, fzAll, loA, hiA, elemOf, partsA, buildA, putCells, ↓reduceIte, reduceCtorEq, okCell, Nat.reduceAdd, Nat.reduceEqDiff, Nat.reduceSub, Nat.reduceMul, Nat.reduceLeDiff, Nat.reduceLT, Nat.reduceBEq, PV.scal, PV.scalL, SV.scal, SV.scalL, Ob.scal, PV.isCell, pure', resO]
    rw [hgx]
    exact finA_val (by simp [retA, rvA, mkE_cons, mk_nil, mkO_cons, mkO_nil, loadA, SV.tr, SV.trL, nmF, rn_nil, rn_cons1, rn_cons2, plainOb, SV.refsL, SV.refs, Ob.refs, X, F, List.range_succ, mkO, setO_mk]) (by simp [SV.tr, SV.trL])
  · have hb : (y : Int) > 0 := by omega
    have hz : ¬ (y : Int) = 0 := by omega
    have m5 := Int.ofNat_tmod x y
    have m6 : (x : Int).tmod (y : Int) = ((x % y : Nat) : Int) := m5.symm
    have hlt : x % y < y := Nat.mod_lt _ (by omega)
    simp only [hb, hz, m6, ↓SP, SQ, Gam.add, stepM, callC, argC, lendO, nmBy, nmC, likeL, likeB, plainOb, offs, exL, X, F, trP, trO, stepD, stepW, newA, SV.tr, SV.trL, fz, allP, Ob.tr, loadA, cellsA, SV.cells, binA, binI, eqOut, isSl, isPt, natOf, callee, snap, SV.refsL, SV.refs, thaw, fzAll, loA, hiA, elemOf, partsA, buildA, putCells, ↓reduceIte, reduceCtorEq, okCell, Nat.reduceAdd, Nat.reduceEqDiff, Nat.reduceSub, Nat.reduceMul, Nat.reduceLeDiff, Nat.reduceLT, Nat.reduceBEq, PV.scal, PV.scalL, SV.scal, SV.scalL, Ob.scal, PV.isCell, pure', resO]
    exact hN (y, x % y, _) _ _ ⟨gcd_step hg, hy, by simp only; omega⟩ (by simp only; omega) rfl rfl
def a_vCut : AFn := ⟨2, 
  .seq (.reg [⟨some 4, none, .d (.mv (.c (.nilsl)))⟩])
  (.seq (.seq (.reg [⟨some 5, none, .d (.mv (.t 1))⟩,
    ⟨some 6, none, .d (.mv (.t 0))⟩,
    ⟨some 7, none, .d (.len (.t 6))⟩,
    ⟨some 8, none, .d (.bin .arith .gtr (.t 5) (.t 7))⟩])
  (.cond (.t 8) (.reg [⟨some 9, none, .d (.mv (.t 0))⟩,
     ⟨some 10, none, .d (.len (.t 9))⟩,
     ⟨some 1, none, .d (.mv (.t 10))⟩]) (.skip)))
  (.seq (.reg [⟨some 11, none, .w (.bslice 1 [] [])⟩,
    ⟨some 12, none, .d (.mv (.t 0))⟩,
    ⟨some 13, none, .d (.mv (.t 1))⟩,
    ⟨some 14, none, .d (.slc 1 (.t 12) (some (.t 13)) none)⟩,
    ⟨some 15, none, .w (.append 1 (.t 11) (.t 14))⟩,
    ⟨some 16, none, .d (.mv (.t 1))⟩,
    ⟨some 17, none, .d (.conv .u8 (.t 16))⟩,
    ⟨some 18, none, .w (.bslice 1 [.int .u8 0] [(0, (.t 17))])⟩,
    ⟨some 19, none, .w (.append 1 (.t 15) (.t 18))⟩,
    ⟨some 4, none, .d (.mv (.t 19))⟩])
  (.ret))), [.tmp 4]⟩
def n_vCut : Nat → Option Ann := fun _ => none
abbrev k_vCut : List Nat := [0, 1, 4, 8]
abbrev o_vCut : List Nat := [11, 15, 18, 19]
theorem u8s_cell (l : List Int) : ((u8s l).all fun y => y.cells.all PV.isCell) = true := by simp [u8s, PV.cells, PV.isCell]
def cuL (l : List Int) : List Int := l.drop 1 ++ [if l = [] then 0 else 1]
theorem slU_u8s {l : List Int} (h : ∀ x ∈ l, 0 ≤ x ∧ x ≤ 255) : slU (.sl 1 (u8s l)) = some l := by
  have h1 : (u8s l).all isU = true := by
    simp only [u8s, List.all_map, List.all_eq_true, Function.comp_def, isU]
    intro x hx
    simp [(h x hx).1, (h x hx).2]
  simp only [slU, h1, if_true]
  simp [u8s, ofU, Function.comp_def]
theorem cuL_b {l : List Int} (h : ∀ x ∈ l, 0 ≤ x ∧ x ≤ 255) : ∀ x ∈ cuL l, 0 ≤ x ∧ x ≤ 255 := by
  intro x hx
  simp only [cuL, List.mem_append, List.mem_singleton] at hx
  rcases hx with hx | rfl
  · exact h x (List.mem_of_mem_drop hx)
  · split <;> omega
def c_vCut : Con := pure' fun
  | [.p v, .p (.int .i64 1)] => match slU v with
    | some l => if l.length ≤ 100000 then some (.ar 2000000, [.arr 1 (u8s (cuL l))]) else none
    | none => none
  | _ => none
theorem s_vCut {P : Program} (hm : P.follows .mixedOrders = true) {Γ : Gam} (hΓ : GS P Γ) {n : FuncId} (is : Is P n a_vCut)  : Says P n c_vCut := by
  refine Says.pure fun args r fs h => ?_
  split at h
  case h_2 => cases h
  rename_i v
  split at h
  case h_2 => cases h
  rename_i l hv
  split at h
  case isFalse => cases h
  rename_i hl
  simp only [Option.some.injEq, Prod.mk.injEq] at h
  obtain ⟨rfl, rfl⟩ := h
  have hr := (slU_out hv).2
  rcases (slU_out hv).1 with rfl | ⟨rfl, rfl⟩
  · cases l with
    | nil =>
      have h1 : ((0 : Nat) : Int) < 1 := by decide
      have hu : IntKind.u8.wrap ((0 : Nat) : Int) = 0 := rfl
      have hro : 1 ≤ roomA := by decide
      refine is.go hm hΓ k_vCut o_vCut (by simp [a_vCut]) ?_
      simp only [a_vCut, h1, hu, hro, u8s_len, Int.le_refl, Int.reduceToNat, Int.reduceLT, Int.reduceLE, List.zipIdx_cons, List.zipIdx_nil, ↓SP, SQ, Gam.add, stepM, callC, argC, lendO, nmBy, nmC, likeL, likeB, plainOb, offs, exL, X, F, trP, trO, stepD, stepW, newA, SV.tr, SV.trL, fz, allP, Ob.tr, loadA, cellsA, SV.cells, binA, binI, eqOut, isSl, isPt, natOf, callee, snap, SV.refsL, SV.refs, thaw, fzAll, loA, hiA, elemOf, partsA, buildA, putCells, ↓reduceIte, reduceCtorEq, okCell, Nat.reduceAdd, Nat.reduceEqDiff, Nat.reduceSub, Nat.reduceMul, Nat.reduceLeDiff, Nat.reduceLT, Nat.reduceBEq, PV.scal, PV.scalL, SV.scal, SV.scalL, Ob.scal, PV.isCell, pure', resO]
      refine finA_gen [11] trivial (by simp [retA, rvA, mkE_cons, mk_nil, mkO_cons, mkO_nil, loadA, SV.tr, SV.trL, nmF, rn_nil, rn_cons1, rn_cons2, plainOb, SV.refsL, SV.refs, Ob.refs, X, F, List.range_succ, mkO, setO_mk]; rfl) ?_ ?_ ?_ ?_ ?_ ?_ ?_ <;> simp [cuL, u8s, retA, rvA, mkE_cons, mk_nil, mkO_cons, mkO_nil, loadA, SV.tr, SV.trL, nmF, rn_nil, rn_cons1, rn_cons2, plainOb, SV.refsL, SV.refs, Ob.refs, X, F, List.range_succ, mkO, setO_mk]
    | cons x r =>
      have h1 : ¬ ((r.length + 1 : Nat) : Int) < 1 := by omega
      have h2 : 1 ≤ r.length + 1 := by omega
      have hu : IntKind.u8.wrap 1 = 1 := rfl
      simp only [List.length_cons] at hl
      have hdr : ((u8s (x :: r)).drop 1).take (r.length + 1 - 1) = u8s r := by simp [u8s, List.take_of_length_le]
      have hra : (100001 : Nat) ≤ roomA := by decide
      have hro : r.length ≤ roomA := by omega
      have hro2 : r.length + 1 ≤ roomA := by omega
      have hap : u8s r ++ [.int .u8 1] = u8s (r ++ [1]) := by simp [u8s]
      have hcl := u8s_cell r
      have hcu : cuL (x :: r) = r ++ [1] := by simp [cuL]
      rw [hcu]
      refine is.go hm hΓ k_vCut o_vCut (by simp [a_vCut]) ?_
      simp only [a_vCut, h1, h2, hu, hdr, hro, hro2, hap, hcl, u8s_len, Int.le_refl, Int.reduceToNat, Int.reduceLT, Int.reduceLE, List.zipIdx_cons, List.zipIdx_nil, ↓SP, SQ, Gam.add, stepM, callC, argC, lendO, nmBy, nmC, likeL, likeB, plainOb, offs, exL, X, F, trP, trO, stepD, stepW, newA, SV.tr, SV.trL, fz, allP, Ob.tr, loadA, cellsA, SV.cells, binA, binI, eqOut, isSl, isPt, natOf, callee, snap, SV.refsL, SV.refs, thaw, fzAll, loA, hiA, elemOf, partsA, buildA, putCells, ↓reduceIte, reduceCtorEq, okCell, Nat.reduceAdd, Nat.reduceEqDiff, Nat.reduceSub, Nat.reduceMul, Nat.reduceLeDiff, Nat.reduceLT, Nat.reduceBEq, PV.scal, PV.scalL, SV.scal, SV.scalL, Ob.scal, PV.isCell, pure', resO]
      refine finA_gen [11] trivial (by simp [retA, rvA, mkE_cons, mk_nil, mkO_cons, mkO_nil, loadA, SV.tr, SV.trL, nmF, rn_nil, rn_cons1, rn_cons2, plainOb, SV.refsL, SV.refs, Ob.refs, X, F, List.range_succ, mkO, setO_mk]; rfl) ?_ ?_ ?_ ?_ ?_ ?_ ?_ <;> simp [retA, rvA, mkE_cons, mk_nil, mkO_cons, mkO_nil, loadA, SV.tr, SV.trL, nmF, rn_nil, rn_cons1, rn_cons2, plainOb, SV.refsL, SV.refs, Ob.refs, X, F, List.range_succ, mkO, setO_mk]
  · have h1 : ((0 : Nat) : Int) < 1 := by decide
    have hu : IntKind.u8.wrap ((0 : Nat) : Int) = 0 := rfl
    have hro : 1 ≤ roomA := by decide
    refine is.go hm hΓ k_vCut o_vCut (by simp [a_vCut]) ?_
    simp only [a_vCut, h1, hu, hro, Int.le_refl, Int.reduceToNat, Int.reduceLT, Int.reduceLE, List.zipIdx_cons, List.zipIdx_nil, ↓SP, SQ, Gam.add, stepM, callC, argC, lendO, nmBy, nmC, likeL, likeB, plainOb, offs, exL, X, F, trP, trO, stepD, stepW, newA, SV.tr, SV.trL, fz, allP, Ob.tr, loadA, cellsA, SV.cells, binA, binI, eqOut, isSl, isPt, natOf, callee, snap, SV.refsL, SV.refs, thaw, fzAll, loA, hiA, elemOf, partsA, buildA, putCells, ↓reduceIte, reduceCtorEq, okCell, Nat.reduceAdd, Nat.reduceEqDiff, Nat.reduceSub, Nat.reduceMul, Nat.reduceLeDiff, Nat.reduceLT, Nat.reduceBEq, PV.scal, PV.scalL, SV.scal, SV.scalL, Ob.scal, PV.isCell, pure', resO]
    refine finA_gen [11] trivial (by simp [retA, rvA, mkE_cons, mk_nil, mkO_cons, mkO_nil, loadA, SV.tr, SV.trL, nmF, rn_nil, rn_cons1, rn_cons2, plainOb, SV.refsL, SV.refs, Ob.refs, X, F, List.range_succ, mkO, setO_mk]; rfl) ?_ ?_ ?_ ?_ ?_ ?_ ?_ <;> simp [cuL, u8s, retA, rvA, mkE_cons, mk_nil, mkO_cons, mkO_nil, loadA, SV.tr, SV.trL, nmF, rn_nil, rn_cons1, rn_cons2, plainOb, SV.refsL, SV.refs, Ob.refs, X, F, List.range_succ, mkO, setO_mk]
/-- a doubt, drawn. -/
def dbD (l : List Int) (c : Cu) : Int := amV l [10, 4, 3, 2, 1, 7, 5] c
def dbP (l : List Int) (c : Cu) : Int := pkV l (dbD l c + 1) (pkC l 7 c)
def dbC2 (l : List Int) (c : Cu) : Cu := pkC l (dbD l c + 1) (pkC l 7 c)
def dbN (l : List Int) (c : Cu) : Int := amV l [1, 1, 0, dbD l c, (dbD l c).tdiv 2, dbP l c] (dbC2 l c)
def dbC3 (l : List Int) (c : Cu) : Cu := pkC l 6 (dbC2 l c)
def dbQ (l : List Int) (c : Cu) : Int := pkV l 40 (dbC3 l c)
def dbC4 (l : List Int) (c : Cu) : Cu := pkC l 40 (dbC3 l c)
def dbR (l : List Int) (c : Cu) : (Int × Int) × Cu :=
  if dbQ l c = 0 then ((dbN l c, amV l [0, 11, -1] (dbC4 l c)), pkC l 3 (dbC4 l c)) else if dbQ l c = 1 then ((amV l [-1, dbD l c + 1] (dbC4 l c), dbD l c), pkC l 2 (dbC4 l c)) else ((dbN l c, dbD l c), dbC4 l c)
theorem dbD_b {l : List Int} (hl : ∀ x ∈ l, 0 ≤ x ∧ x ≤ 255) {c : Cu} (h0 : 0 ≤ c.1) : 1 ≤ dbD l c ∧ dbD l c ≤ 10 :=
  (by decide : ∀ x ∈ ([10, 4, 3, 2, 1, 7, 5] : List Int), 1 ≤ x ∧ x ≤ 10) _ (amV_mem hl h0 (by decide))
theorem dbR_at {l : List Int} {c : Cu} {b : Int} (hc : CuA c b) : CuA (dbR l c).2 (b + 5) := by
  have h1 := hc.pk l 7
  have h2 := h1.pk l (dbD l c + 1)
  have h3 := h2.pk l 6
  have h4 := h3.pk l 40
  unfold dbR
  split
  · exact (h4.pk l 3).mono (by omega)
  · split
    · exact (h4.pk l 2).mono (by omega)
    · exact h4.mono (by omega)
def a_doubt7 (f_among : FuncId) (f_pick : FuncId) : AFn := ⟨1, 
  .seq (.reg [⟨some 2, none, .w (.alloc [.int .i64 0, .int .i64 0])⟩])
  (.seq (.reg [⟨some 4, none, .d (.mv (.t 0))⟩,
    ⟨some 5, none, .w (.bslice 1 [.int .i64 0, .int .i64 0, .int .i64 0, .int .i64 0, .int .i64 0, .int .i64 0, .int .i64 0] [(0, (.c (.int .i64 10))), (1, (.c (.int .i64 4))), (2, (.c (.int .i64 3))), (3, (.c (.int .i64 2))), (4, (.c (.int .i64 1))), (5, (.c (.int .i64 7))), (6, (.c (.int .i64 5)))])⟩,
    ⟨some 6, none, .w (.callL (.f f_among) [(.t 4), (.t 5)] [1000000] 0 true)⟩,
    ⟨some 7, none, .d (.build [.int .i64 0, .int .i64 0] [(1, 1, (.t 6))])⟩,
    ⟨some 3, none, .w (.alloc [.int .i64 0, .int .i64 0])⟩,
    ⟨none, none, .w (.store 2 (.t 3) (.t 7))⟩])
  (.seq (.dreg [19] [([1000000, 19], ⟨some 8, none, .d (.mv (.t 0))⟩),
    ([1000000, 19], ⟨some 9, none, .d (.fa 1 (.t 3))⟩),
    ([1000000, 19], ⟨some 10, none, .d (.load false 1 (.t 9))⟩),
    ([1000000, 19], ⟨some 11, none, .d (.fa 1 (.t 3))⟩),
    ([1000000, 19], ⟨some 12, none, .d (.load false 1 (.t 11))⟩),
    ([1000000, 19], ⟨some 13, none, .d (.bin .arith .quo (.t 12) (.c (.int .i64 2)))⟩),
    ([19], ⟨some 14, none, .d (.mv (.t 0))⟩),
    ([19], ⟨some 15, none, .d (.fa 1 (.t 3))⟩),
    ([19], ⟨some 16, none, .d (.load false 1 (.t 15))⟩),
    ([19], ⟨some 17, none, .d (.bin .arith .add (.t 16) (.c (.int .i64 1)))⟩),
    ([19], ⟨some 18, none, .w (.callL (.f f_pick) [(.t 14), (.t 17)] [1000000] 0 false)⟩),
    ([], ⟨some 19, none, .w (.bslice 1 [.int .i64 0, .int .i64 0, .int .i64 0, .int .i64 0, .int .i64 0, .int .i64 0] [(0, (.c (.int .i64 1))), (1, (.c (.int .i64 1))), (2, (.c (.int .i64 0))), (3, (.t 10)), (4, (.t 13)), (5, (.t 18))])⟩)] [⟨some 20, none, .w (.callL (.f f_among) [(.t 8), (.t 19)] [1000000] 0 true)⟩,
    ⟨some 21, none, .d (.fa 0 (.t 3))⟩,
    ⟨none, none, .w (.store 1 (.t 21) (.t 20))⟩])
  (.seq (.seq (.reg [⟨some 22, none, .d (.mv (.t 0))⟩,
    ⟨some 23, none, .w (.callL (.f f_pick) [(.t 22), (.c (.int .i64 40))] [1000000] 0 false)⟩])
  (.block 0 (.seq (.reg [⟨some 25, none, .d (.bin .arith .eql (.t 23) (.c (.int .i64 0)))⟩,
     ⟨some 24, none, .d (.mv (.t 25))⟩])
   (.cond (.t 24) (.reg [⟨some 26, none, .d (.mv (.t 0))⟩,
      ⟨some 27, none, .w (.bslice 1 [.int .i64 0, .int .i64 0, .int .i64 0] [(0, (.c (.int .i64 0))), (1, (.c (.int .i64 11))), (2, (.c (.int .i64 (-1))))])⟩,
      ⟨some 28, none, .w (.callL (.f f_among) [(.t 26), (.t 27)] [1000000] 0 true)⟩,
      ⟨some 29, none, .d (.fa 1 (.t 3))⟩,
      ⟨none, none, .w (.store 1 (.t 29) (.t 28))⟩]) (.seq (.reg [⟨some 31, none, .d (.bin .arith .eql (.t 23) (.c (.int .i64 1)))⟩,
      ⟨some 30, none, .d (.mv (.t 31))⟩])
    (.cond (.t 30) (.reg [⟨some 32, none, .d (.mv (.t 0))⟩,
       ⟨some 33, none, .d (.fa 1 (.t 3))⟩,
       ⟨some 34, none, .d (.load false 1 (.t 33))⟩,
       ⟨some 35, none, .d (.bin .arith .add (.t 34) (.c (.int .i64 1)))⟩,
       ⟨some 36, none, .w (.bslice 1 [.int .i64 0, .int .i64 0] [(0, (.c (.int .i64 (-1)))), (1, (.t 35))])⟩,
       ⟨some 37, none, .w (.callL (.f f_among) [(.t 32), (.t 36)] [1000000] 0 true)⟩,
       ⟨some 38, none, .d (.fa 0 (.t 3))⟩,
       ⟨none, none, .w (.store 1 (.t 38) (.t 37))⟩]) (.skip)))))))
  (.seq (.reg [⟨some 39, none, .d (.load true 2 (.t 3))⟩,
    ⟨none, none, .w (.store 2 (.t 2) (.t 39))⟩])
  (.ret))))), [.cell 2 2 true]⟩
def n_doubt7 : Nat → Option Ann := fun d => if d = 6 then some ⟨[1000000], 0, true⟩ else if d = 18 then some ⟨[1000000], 0, false⟩ else if d = 20 then some ⟨[1000000], 0, true⟩ else if d = 23 then some ⟨[1000000], 0, false⟩ else if d = 28 then some ⟨[1000000], 0, true⟩ else if d = 37 then some ⟨[1000000], 0, true⟩ else none
abbrev k_doubt7 : List Nat := [0, 2, 3, 23, 24, 30]
abbrev o_doubt7 : List Nat := [2, 3, 5, 19, 27, 36]
def c_doubt7 : Con
  | [.bx 1000000 0], [.box [.p v, .p (.int .i64 a), .p (.int .u64 s)]] => match slU v with
    | some l => if 0 ≤ a ∧ a ≤ 900 then some (.ag [.p (.int .i64 (dbR l (a, s)).1.1), .p (.int .i64 (dbR l (a, s)).1.2)], [.box [.p v, .p (.int .i64 (dbR l (a, s)).2.1), .p (.int .u64 (dbR l (a, s)).2.2)]], []) else none
    | none => none
  | _, _ => none
theorem s_doubt7 {P : Program} (hm : P.follows .mixedOrders = true) {Γ : Gam} (hΓ : GS P Γ) {n : FuncId} {f_among : FuncId} {f_pick : FuncId} (is : Is P n (a_doubt7 f_among f_pick)) (h_among : Γ f_among = c_among) (h_pick : Γ f_pick = c_pick)  : Says P n c_doubt7 := by
  intro args ext r ext' fs h
  unfold c_doubt7 at h
  split at h
  case h_2 => cases h
  rename_i v a s
  split at h
  case h_2 => cases h
  rename_i l hv
  split at h
  case isFalse => cases h
  rename_i hc
  obtain ⟨h0, h1⟩ := hc
  simp only [Option.some.injEq, Prod.mk.injEq] at h
  obtain ⟨rfl, rfl, rfl⟩ := h
  have hl := (slU_out hv).2
  have ha0 : CuA (a, s) 900 := ⟨h0, h1⟩
  have h1' : a ≤ 1000 := by omega
  have hD := dbD_b hl (c := (a, s)) h0
  have ha1 := ha0.pk l 7
  have ha2 := ha1.pk l (dbD l (a, s) + 1)
  have ha3 := ha2.pk l 6
  have ha4 := ha3.pk l 40
  have q1 := ha1.1
  have q1' : (pkC l 7 (a, s)).1 ≤ 1000 := by have := ha1.2; omega
  have q2 : 0 ≤ (dbC2 l (a, s)).1 := ha2.1
  have q2' : (dbC2 l (a, s)).1 ≤ 1000 := by have := ha2.2; simp only [dbC2]; omega
  have q3 : 0 ≤ (dbC3 l (a, s)).1 := ha3.1
  have q3' : (dbC3 l (a, s)).1 ≤ 1000 := by have := ha3.2; simp only [dbC3, dbC2]; omega
  have q4 : 0 ≤ (dbC4 l (a, s)).1 := ha4.1
  have q4' : (dbC4 l (a, s)).1 ≤ 1000 := by have := ha4.2; simp only [dbC4, dbC3, dbC2]; omega
  have e0 : amV l [10, 4, 3, 2, 1, 7, 5] (a, s) = dbD l (a, s) := rfl
  have e1 : pkV l (dbD l (a, s) + 1) (pkC l 7 (a, s)) = dbP l (a, s) := rfl
  have e2 : pkC l (dbD l (a, s) + 1) (pkC l 7 (a, s)) = dbC2 l (a, s) := rfl
  have e3 : amV l [1, 1, 0, dbD l (a, s), (dbD l (a, s)).tdiv 2, dbP l (a, s)] (dbC2 l (a, s)) = dbN l (a, s) := rfl
  have e4 : pkC l 6 (dbC2 l (a, s)) = dbC3 l (a, s) := rfl
  have e5 : pkV l 40 (dbC3 l (a, s)) = dbQ l (a, s) := rfl
  have e6 : pkC l 40 (dbC3 l (a, s)) = dbC4 l (a, s) := rfl
  have w0 : IntKind.i64.wrap (dbD l (a, s) + 1) = dbD l (a, s) + 1 := wrap64 (by omega) (by omega)
  have w1 : IntKind.i64.wrap ((dbD l (a, s)).tdiv 2) = (dbD l (a, s)).tdiv 2 := by
    rw [Int.tdiv_eq_ediv_of_nonneg (by omega)]
    exact wrap64 (by omega) (by omega)
  have w2 : dbD l (a, s) + 1 ≤ 200 := by omega
  have n20 : ¬ (2 : Int) = 0 := by decide
  refine is.goX hm hΓ k_doubt7 (1000000 :: o_doubt7) (by simp [a_doubt7]) (by simp) ?_
  by_cases z0 : dbQ l (a, s) = 0
  · have hR : dbR l (a, s) = ((dbN l (a, s), amV l [0, 11, -1] (dbC4 l (a, s))), pkC l 3 (dbC4 l (a, s))) := by simp only [dbR, z0, if_true]
    have z0' : (dbQ l (a, s) == 0) = true := by simp [z0]
    rw [hR]
    simp only [a_doubt7, h_among, c_among, h_pick, c_pick, hv, h0, h1', q1, q1', q2, q2', q3, q3', q4, q4', e0, e1, e2, e3, e4, e5, e6, w0, w1, w2, n20, z0', (by decide : (40 : Int) ≤ 200), isI, ofI, cuEta, Int.cast_ofNat_Int, List.zipIdx_cons, List.zipIdx_nil, ↓SP, SQ, Gam.add, stepM, callC, argC, lendO, nmBy, nmC, likeL, likeB, plainOb, offs, exL, X, F, trP, trO, stepD, stepW, newA, SV.tr, SV.trL, fz, allP, Ob.tr, loadA, cellsA, SV.cells, binA, binI, eqOut, isSl, isPt, natOf, callee, snap, SV.refsL, SV.refs, thaw, fzAll, loA, hiA, elemOf, partsA, buildA, putCells, ↓reduceIte, reduceCtorEq, okCell, Nat.reduceAdd, Nat.reduceEqDiff, Nat.reduceSub, Nat.reduceMul, Nat.reduceLeDiff, Nat.reduceLT, Nat.reduceBEq, PV.scal, PV.scalL, SV.scal, SV.scalL, Ob.scal, PV.isCell, pure', resO]
    refine finA_gen [] trivial (by simp [retA, rvA, mkE_cons, mk_nil, mkO_cons, mkO_nil, loadA, SV.tr, SV.trL, nmF, rn_nil, rn_cons1, rn_cons2, plainOb, SV.refsL, SV.refs, Ob.refs, X, F, List.range_succ, mkO, setO_mk]; rfl) ?_ ?_ ?_ ?_ ?_ ?_ ?_ <;> simp [retA, rvA, mkE_cons, mk_nil, mkO_cons, mkO_nil, loadA, SV.tr, SV.trL, nmF, rn_nil, rn_cons1, rn_cons2, plainOb, SV.refsL, SV.refs, Ob.refs, X, F, List.range_succ, mkO, setO_mk]
  · have z0' : (dbQ l (a, s) == 0) = false := by simp [z0]
    by_cases z1 : dbQ l (a, s) = 1
    · have hR : dbR l (a, s) = ((amV l [-1, dbD l (a, s) + 1] (dbC4 l (a, s)), dbD l (a, s)), pkC l 2 (dbC4 l (a, s))) := by simp only [dbR, z0, z1, if_true, if_false]; simp
      have z1' : (dbQ l (a, s) == 1) = true := by simp [z1]
      rw [hR]
      simp only [a_doubt7, h_among, c_among, h_pick, c_pick, hv, h0, h1', q1, q1', q2, q2', q3, q3', q4, q4', e0, e1, e2, e3, e4, e5, e6, w0, w1, w2, n20, z0', z1', (by decide : (40 : Int) ≤ 200), isI, ofI, cuEta, Int.cast_ofNat_Int, List.zipIdx_cons, List.zipIdx_nil, ↓SP, SQ, Gam.add, stepM, callC, argC, lendO, nmBy, nmC, likeL, likeB, plainOb, offs, exL, X, F, trP, trO, stepD, stepW, newA, SV.tr, SV.trL, fz, allP, Ob.tr, loadA, cellsA, SV.cells, binA, binI, eqOut, isSl, isPt, natOf, callee, snap, SV.refsL, SV.refs, thaw, fzAll, loA, hiA, elemOf, partsA, buildA, putCells, ↓reduceIte, reduceCtorEq, okCell, Nat.reduceAdd, Nat.reduceEqDiff, Nat.reduceSub, Nat.reduceMul, Nat.reduceLeDiff, Nat.reduceLT, Nat.reduceBEq, PV.scal, PV.scalL, SV.scal, SV.scalL, Ob.scal, PV.isCell, pure', resO]
      refine finA_gen [] trivial (by simp [retA, rvA, mkE_cons, mk_nil, mkO_cons, mkO_nil, loadA, SV.tr, SV.trL, nmF, rn_nil, rn_cons1, rn_cons2, plainOb, SV.refsL, SV.refs, Ob.refs, X, F, List.range_succ, mkO, setO_mk]; rfl) ?_ ?_ ?_ ?_ ?_ ?_ ?_ <;> simp [retA, rvA, mkE_cons, mk_nil, mkO_cons, mkO_nil, loadA, SV.tr, SV.trL, nmF, rn_nil, rn_cons1, rn_cons2, plainOb, SV.refsL, SV.refs, Ob.refs, X, F, List.range_succ, mkO, setO_mk]
    · have hR : dbR l (a, s) = ((dbN l (a, s), dbD l (a, s)), dbC4 l (a, s)) := by simp only [dbR, z0, z1, if_false]
      have z1' : (dbQ l (a, s) == 1) = false := by simp [z1]
      rw [hR]
      simp only [a_doubt7, h_among, c_among, h_pick, c_pick, hv, h0, h1', q1, q1', q2, q2', q3, q3', q4, q4', e0, e1, e2, e3, e4, e5, e6, w0, w1, w2, n20, z0', z1', (by decide : (40 : Int) ≤ 200), isI, ofI, cuEta, Int.cast_ofNat_Int, List.zipIdx_cons, List.zipIdx_nil, ↓SP, SQ, Gam.add, stepM, callC, argC, lendO, nmBy, nmC, likeL, likeB, plainOb, offs, exL, X, F, trP, trO, stepD, stepW, newA, SV.tr, SV.trL, fz, allP, Ob.tr, loadA, cellsA, SV.cells, binA, binI, eqOut, isSl, isPt, natOf, callee, snap, SV.refsL, SV.refs, thaw, fzAll, loA, hiA, elemOf, partsA, buildA, putCells, ↓reduceIte, reduceCtorEq, okCell, Nat.reduceAdd, Nat.reduceEqDiff, Nat.reduceSub, Nat.reduceMul, Nat.reduceLeDiff, Nat.reduceLT, Nat.reduceBEq, PV.scal, PV.scalL, SV.scal, SV.scalL, Ob.scal, PV.isCell, pure', resO]
      refine finA_gen [] trivial (by simp [retA, rvA, mkE_cons, mk_nil, mkO_cons, mkO_nil, loadA, SV.tr, SV.trL, nmF, rn_nil, rn_cons1, rn_cons2, plainOb, SV.refsL, SV.refs, Ob.refs, X, F, List.range_succ, mkO, setO_mk]; rfl) ?_ ?_ ?_ ?_ ?_ ?_ ?_ <;> simp [retA, rvA, mkE_cons, mk_nil, mkO_cons, mkO_nil, loadA, SV.tr, SV.trL, nmF, rn_nil, rn_cons1, rn_cons2, plainOb, SV.refsL, SV.refs, Ob.refs, X, F, List.range_succ, mkO, setO_mk]
end Go.Proofs.Ytmbljmolegalhaa.Pam
