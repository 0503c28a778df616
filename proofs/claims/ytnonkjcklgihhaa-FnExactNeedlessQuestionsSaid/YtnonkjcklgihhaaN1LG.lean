/- A part of the proof that stands in this folder: a small machine whose steps are shown to be the steps of the model, or walks of functions by it. No condition of its own. -/
import Derived.Test.YtnonkjcklgihhaaN1LB
set_option linter.unusedVariables false
set_option linter.unusedSimpArgs false
namespace Go.Proofs.Ytnonkjcklgihhaa.Pam
open Go
def a_isQuestion (f_isCount : FuncId) (f_in : FuncId) : AFn := ⟨2, 
  .seq (.reg [⟨some 4, none, .d (.mv (.c (.bool false)))⟩])
  (.seq (.reg [⟨some 5, none, .d (.mv (.t 0))⟩,
    ⟨some 6, none, .d (.call (.f f_isCount) [(.t 5)])⟩,
    ⟨some 7, none, .d (.mv (.t 6))⟩,
    ⟨some 8, some (7, true), .d (.mv (.t 1))⟩,
    ⟨some 9, some (7, true), .d (.mv (.t 0))⟩,
    ⟨some 10, some (7, true), .d (.bin .arith .shl (.c (.int .i64 1)) (.t 9))⟩,
    ⟨some 11, some (7, true), .d (.bin .arith .sub (.t 10) (.c (.int .i64 1)))⟩,
    ⟨some 12, some (7, true), .d (.call (.f f_in) [(.t 8), (.c (.int .i64 0)), (.t 11)])⟩,
    ⟨some 13, none, .d (.pick (.t 7) (.t 12) (.c (.bool false)))⟩,
    ⟨some 4, none, .d (.mv (.t 13))⟩])
  (.ret)), [.tmp 4]⟩
def n_isQuestion : Nat → Option Ann := fun _ => none
abbrev k_isQuestion : List Nat := [0, 1, 4]
abbrev o_isQuestion : List Nat := []
def a_l2Asks (f_l2Numbers : FuncId) (f_l1In : FuncId) : AFn := ⟨2, 
  .seq (.reg [⟨some 4, none, .d (.mv (.c (.bool false)))⟩])
  (.seq (.reg [⟨some 5, none, .d (.mv (.t 0))⟩,
    ⟨some 6, none, .d (.call (.f f_l2Numbers) [(.t 5)])⟩,
    ⟨some 7, none, .d (.mv (.t 6))⟩,
    ⟨some 8, some (7, true), .d (.mv (.t 1))⟩,
    ⟨some 9, some (7, true), .d (.mv (.t 0))⟩,
    ⟨some 10, some (7, true), .d (.bin .arith .shl (.c (.int .i64 1)) (.t 9))⟩,
    ⟨some 11, some (7, true), .d (.bin .arith .sub (.t 10) (.c (.int .i64 1)))⟩,
    ⟨some 12, some (7, true), .d (.call (.f f_l1In) [(.t 8), (.c (.int .i64 0)), (.t 11)])⟩,
    ⟨some 13, none, .d (.pick (.t 7) (.t 12) (.c (.bool false)))⟩,
    ⟨some 4, none, .d (.mv (.t 13))⟩])
  (.ret)), [.tmp 4]⟩
def n_l2Asks : Nat → Option Ann := fun _ => none
abbrev k_l2Asks : List Nat := [0, 1, 4]
abbrev o_l2Asks : List Nat := []
/-- Whether a number is a question of n numbers. -/
def isQ (n q : Int) : Bool := decide (1 ≤ n) && decide (n ≤ 12) && (decide (0 ≤ q) && decide (q ≤ 2 ^ n.toNat - 1))
def c_isQuestion : Con := pure' fun
  | [.p (.int .i64 n), .p (.int .i64 q)] => if (True) then some (.p (.bool (isQ n q)), []) else none
  | _ => none
theorem s_isQuestion {P : Program} (hm : P.follows .mixedOrders = true) {Γ : Gam} (hΓ : GS P Γ) {n : FuncId} {f_isCount : FuncId} {f_in : FuncId} (is : Is P n (a_isQuestion f_isCount f_in)) (h_isCount : Γ f_isCount = c_isCount) (h_in : Γ f_in = c_in)  : Says P n c_isQuestion := by
  refine Says.pure fun args r fs h => ?_
  split at h
  case h_2 => cases h
  rename_i n q
  split at h
  case isFalse => cases h
  rename_i hc
  simp only [ofI_ints, ofBo_bools, ofAs_asks, Option.some.injEq, Prod.mk.injEq] at h hc
  obtain ⟨rfl, rfl⟩ := h
  by_cases h : 1 ≤ n ∧ n ≤ 12
  · obtain ⟨s1, s2⟩ := shl12 h.1 h.2
    have d : (decide (1 ≤ n) && decide (n ≤ 12)) = true := by simp [h.1, h.2]
    have hn : ¬ n < 0 := by omega
    refine is.go hm hΓ k_isQuestion o_isQuestion (by simp [a_isQuestion]) ?_
    simp only [a_isQuestion, h_isCount, c_isCount, h_in, c_in, d, s1, s2, hn, List.zipIdx_cons, List.zipIdx_nil, ↓SP, SQ, Gam.add, stepM, callC, argC, lendO, nmBy, nmC, likeL, likeB, plainOb, offs, exL, X, F, trP, trO, stepD, stepW, newA, SV.tr, SV.trL, fz, allP, Ob.tr, loadA, cellsA, SV.cells, binA, binI, eqOut, isSl, isPt, natOf, callee, snap, SV.refsL, SV.refs, thaw, fzAll, loA, hiA, elemOf, partsA, buildA, putCells, ↓reduceIte, reduceCtorEq, okCell, Nat.reduceAdd, Nat.reduceEqDiff, Nat.reduceSub, Nat.reduceMul, Nat.reduceLeDiff, Nat.reduceLT, Nat.reduceBEq, PV.scal, PV.scalL, SV.scal, SV.scalL, Ob.scal, PV.isCell, pure', resO]
    exact finA_val (by simp [isQ, h.1, h.2, retA, rvA, mkE_cons, mk_nil, mkO_cons, mkO_nil, loadA, SV.tr, SV.trL, nmF, rn_nil, rn_cons1, rn_cons2, plainOb, SV.refsL, SV.refs, Ob.refs, X, F, List.range_succ, mkO, setO_mk]) (by simp [SV.tr, SV.trL])
  · have d : (decide (1 ≤ n) && decide (n ≤ 12)) = false := by simp; omega
    refine is.go hm hΓ k_isQuestion o_isQuestion (by simp [a_isQuestion]) ?_
    simp only [a_isQuestion, h_isCount, c_isCount, h_in, c_in, d, List.zipIdx_cons, List.zipIdx_nil, ↓SP, SQ, Gam.add, stepM, callC, argC, lendO, nmBy, nmC, likeL, likeB, plainOb, offs, exL, X, F, trP, trO, stepD, stepW, newA, SV.tr, SV.trL, fz, allP, Ob.tr, loadA, cellsA, SV.cells, binA, binI, eqOut, isSl, isPt, natOf, callee, snap, SV.refsL, SV.refs, thaw, fzAll, loA, hiA, elemOf, partsA, buildA, putCells, ↓reduceIte, reduceCtorEq, okCell, Nat.reduceAdd, Nat.reduceEqDiff, Nat.reduceSub, Nat.reduceMul, Nat.reduceLeDiff, Nat.reduceLT, Nat.reduceBEq, PV.scal, PV.scalL, SV.scal, SV.scalL, Ob.scal, PV.isCell, pure', resO]
    exact finA_val (by simp [isQ, d, retA, rvA, mkE_cons, mk_nil, mkO_cons, mkO_nil, loadA, SV.tr, SV.trL, nmF, rn_nil, rn_cons1, rn_cons2, plainOb, SV.refsL, SV.refs, Ob.refs, X, F, List.range_succ, mkO, setO_mk]) (by simp [SV.tr, SV.trL])
theorem s_l2Asks {P : Program} (hm : P.follows .mixedOrders = true) {Γ : Gam} (hΓ : GS P Γ) {n : FuncId} {f_l2Numbers : FuncId} {f_l1In : FuncId} (is : Is P n (a_l2Asks f_l2Numbers f_l1In)) (h_l2Numbers : Γ f_l2Numbers = c_isCount) (h_l1In : Γ f_l1In = c_in)  : Says P n c_isQuestion := by
  refine Says.pure fun args r fs h => ?_
  split at h
  case h_2 => cases h
  rename_i n q
  split at h
  case isFalse => cases h
  rename_i hc
  simp only [ofI_ints, ofBo_bools, ofAs_asks, Option.some.injEq, Prod.mk.injEq] at h hc
  obtain ⟨rfl, rfl⟩ := h
  by_cases h : 1 ≤ n ∧ n ≤ 12
  · obtain ⟨s1, s2⟩ := shl12 h.1 h.2
    have d : (decide (1 ≤ n) && decide (n ≤ 12)) = true := by simp [h.1, h.2]
    have hn : ¬ n < 0 := by omega
    refine is.go hm hΓ k_l2Asks o_l2Asks (by simp [a_l2Asks]) ?_
    simp only [a_l2Asks, h_l2Numbers, c_isCount, h_l1In, c_in, d, s1, s2, hn, List.zipIdx_cons, List.zipIdx_nil, ↓SP, SQ, Gam.add, stepM, callC, argC, lendO, nmBy, nmC, likeL, likeB, plainOb, offs, exL, X, F, trP, trO, stepD, stepW, newA, SV.tr, SV.trL, fz, allP, Ob.tr, loadA, cellsA, SV.cells, binA, binI, eqOut, isSl, isPt, natOf, callee, snap, SV.refsL, SV.refs, thaw, fzAll, loA, hiA, elemOf, partsA, buildA, putCells, ↓reduceIte, reduceCtorEq, okCell, Nat.reduceAdd, Nat.reduceEqDiff, Nat.reduceSub, Nat.reduceMul, Nat.reduceLeDiff, Nat.reduceLT, Nat.reduceBEq, PV.scal, PV.scalL, SV.scal, SV.scalL, Ob.scal, PV.isCell, pure', resO]
    exact finA_val (by simp [isQ, h.1, h.2, retA, rvA, mkE_cons, mk_nil, mkO_cons, mkO_nil, loadA, SV.tr, SV.trL, nmF, rn_nil, rn_cons1, rn_cons2, plainOb, SV.refsL, SV.refs, Ob.refs, X, F, List.range_succ, mkO, setO_mk]) (by simp [SV.tr, SV.trL])
  · have d : (decide (1 ≤ n) && decide (n ≤ 12)) = false := by simp; omega
    refine is.go hm hΓ k_l2Asks o_l2Asks (by simp [a_l2Asks]) ?_
    simp only [a_l2Asks, h_l2Numbers, c_isCount, h_l1In, c_in, d, List.zipIdx_cons, List.zipIdx_nil, ↓SP, SQ, Gam.add, stepM, callC, argC, lendO, nmBy, nmC, likeL, likeB, plainOb, offs, exL, X, F, trP, trO, stepD, stepW, newA, SV.tr, SV.trL, fz, allP, Ob.tr, loadA, cellsA, SV.cells, binA, binI, eqOut, isSl, isPt, natOf, callee, snap, SV.refsL, SV.refs, thaw, fzAll, loA, hiA, elemOf, partsA, buildA, putCells, ↓reduceIte, reduceCtorEq, okCell, Nat.reduceAdd, Nat.reduceEqDiff, Nat.reduceSub, Nat.reduceMul, Nat.reduceLeDiff, Nat.reduceLT, Nat.reduceBEq, PV.scal, PV.scalL, SV.scal, SV.scalL, Ob.scal, PV.isCell, pure', resO]
    exact finA_val (by simp [isQ, d, retA, rvA, mkE_cons, mk_nil, mkO_cons, mkO_nil, loadA, SV.tr, SV.trL, nmF, rn_nil, rn_cons1, rn_cons2, plainOb, SV.refsL, SV.refs, Ob.refs, X, F, List.range_succ, mkO, setO_mk]) (by simp [SV.tr, SV.trL])
def a_l2Question (f_l2Asks : FuncId) : AFn := ⟨2, 
  .seq (.reg [⟨some 2, none, .w (.box 2 (.t 0))⟩,
    ⟨some 4, none, .d (.mv (.c (.bool false)))⟩])
  (.seq (.reg [⟨some 5, none, .d (.fa 0 (.t 2))⟩,
    ⟨some 6, none, .d (.load false 1 (.t 5))⟩,
    ⟨some 7, none, .d (.len (.t 6))⟩,
    ⟨some 8, none, .d (.mv (.t 1))⟩,
    ⟨some 9, none, .d (.call (.f f_l2Asks) [(.t 7), (.t 8)])⟩,
    ⟨some 4, none, .d (.mv (.t 9))⟩])
  (.ret)), [.tmp 4]⟩
def n_l2Question : Nat → Option Ann := fun _ => none
abbrev k_l2Question : List Nat := [0, 1, 2, 4]
abbrev o_l2Question : List Nat := [2]
def c_l2Question : Con := pure' fun
  | [.p (.agg [.sl 1 l_, .int .i64 m]), .p (.int .i64 q)] => if isI l_ = true ∧ ((ofI l_).length ≤ 1100000) then some (.p (.bool (isQ (ofI l_).length q)), []) else none
  | _ => none
theorem s_l2Question {P : Program} (hm : P.follows .mixedOrders = true) {Γ : Gam} (hΓ : GS P Γ) {n : FuncId} {f_l2Asks : FuncId} (is : Is P n (a_l2Question f_l2Asks)) (h_l2Asks : Γ f_l2Asks = c_isQuestion)  : Says P n c_l2Question := by
  refine Says.pure fun args r fs h => ?_
  split at h
  case h_2 => cases h
  rename_i l_ m q
  split at h
  case isFalse => cases h
  rename_i hc
  obtain ⟨hl_, hc⟩ := hc
  obtain ⟨l, rfl⟩ := isI_out hl_
  simp only [ofI_ints, ofBo_bools, ofAs_asks, Option.some.injEq, Prod.mk.injEq] at h hc
  obtain ⟨rfl, rfl⟩ := h
  refine is.go hm hΓ k_l2Question o_l2Question (by simp [a_l2Question]) ?_
  simp only [a_l2Question, h_l2Asks, c_isQuestion, List.zipIdx_cons, List.zipIdx_nil, ↓SP, SQ, Gam.add, stepM, callC, argC, lendO, nmBy, nmC, likeL, likeB, plainOb, offs, exL, X, F, trP, trO, stepD, stepW, newA, SV.tr, SV.trL, fz, allP, Ob.tr, loadA, cellsA, SV.cells, binA, binI, eqOut, isSl, isPt, natOf, callee, snap, SV.refsL, SV.refs, thaw, fzAll, loA, hiA, elemOf, partsA, buildA, putCells, ↓reduceIte, reduceCtorEq, okCell, Nat.reduceAdd, Nat.reduceEqDiff, Nat.reduceSub, Nat.reduceMul, Nat.reduceLeDiff, Nat.reduceLT, Nat.reduceBEq, PV.scal, PV.scalL, SV.scal, SV.scalL, Ob.scal, PV.isCell, pure', resO]
  exact finA_val (by simp [retA, rvA, mkE_cons, mk_nil, mkO_cons, mkO_nil, loadA, SV.tr, SV.trL, nmF, rn_nil, rn_cons1, rn_cons2, plainOb, SV.refsL, SV.refs, Ob.refs, X, F, List.range_succ, mkO, setO_mk]) (by simp [SV.tr, SV.trL])
def a_isMost (f_in : FuncId) : AFn := ⟨1, 
  .seq (.reg [⟨some 2, none, .d (.mv (.c (.bool false)))⟩])
  (.seq (.reg [⟨some 3, none, .d (.mv (.t 0))⟩,
    ⟨some 4, none, .d (.call (.f f_in) [(.t 3), (.c (.int .i64 0)), (.c (.int .i64 2))])⟩,
    ⟨some 2, none, .d (.mv (.t 4))⟩])
  (.ret)), [.tmp 2]⟩
def n_isMost : Nat → Option Ann := fun _ => none
abbrev k_isMost : List Nat := [0, 2]
abbrev o_isMost : List Nat := []
def c_isMost : Con := pure' fun
  | [.p (.int .i64 x)] => if (True) then some (.p (.bool (decide (0 ≤ x) && decide (x ≤ 2))), []) else none
  | _ => none
theorem s_isMost {P : Program} (hm : P.follows .mixedOrders = true) {Γ : Gam} (hΓ : GS P Γ) {n : FuncId} {f_in : FuncId} (is : Is P n (a_isMost f_in)) (h_in : Γ f_in = c_in)  : Says P n c_isMost := by
  refine Says.pure fun args r fs h => ?_
  split at h
  case h_2 => cases h
  rename_i x
  split at h
  case isFalse => cases h
  rename_i hc
  simp only [ofI_ints, ofBo_bools, ofAs_asks, Option.some.injEq, Prod.mk.injEq] at h hc
  obtain ⟨rfl, rfl⟩ := h
  refine is.go hm hΓ k_isMost o_isMost (by simp [a_isMost]) ?_
  simp only [a_isMost, h_in, c_in, List.zipIdx_cons, List.zipIdx_nil, ↓SP, SQ, Gam.add, stepM, callC, argC, lendO, nmBy, nmC, likeL, likeB, plainOb, offs, exL, X, F, trP, trO, stepD, stepW, newA, SV.tr, SV.trL, fz, allP, Ob.tr, loadA, cellsA, SV.cells, binA, binI, eqOut, isSl, isPt, natOf, callee, snap, SV.refsL, SV.refs, thaw, fzAll, loA, hiA, elemOf, partsA, buildA, putCells, ↓reduceIte, reduceCtorEq, okCell, Nat.reduceAdd, Nat.reduceEqDiff, Nat.reduceSub, Nat.reduceMul, Nat.reduceLeDiff, Nat.reduceLT, Nat.reduceBEq, PV.scal, PV.scalL, SV.scal, SV.scalL, Ob.scal, PV.isCell, pure', resO]
  exact finA_val (by simp [retA, rvA, mkE_cons, mk_nil, mkO_cons, mkO_nil, loadA, SV.tr, SV.trL, nmF, rn_nil, rn_cons1, rn_cons2, plainOb, SV.refsL, SV.refs, Ob.refs, X, F, List.range_succ, mkO, setO_mk]) (by simp [SV.tr, SV.trL])
def a_has : AFn := ⟨2, 
  .seq (.reg [⟨some 4, none, .d (.mv (.c (.bool false)))⟩])
  (.seq (.reg [⟨some 5, none, .d (.mv (.t 0))⟩,
    ⟨some 6, none, .d (.mv (.t 1))⟩,
    ⟨some 7, none, .d (.bin .arith .shr (.t 5) (.t 6))⟩,
    ⟨some 8, none, .d (.bin .arith .and (.t 7) (.c (.int .i64 1)))⟩,
    ⟨some 9, none, .d (.bin .arith .eql (.t 8) (.c (.int .i64 1)))⟩,
    ⟨some 4, none, .d (.mv (.t 9))⟩])
  (.ret)), [.tmp 4]⟩
def n_has : Nat → Option Ann := fun _ => none
abbrev k_has : List Nat := [0, 1, 4]
abbrev o_has : List Nat := []
def c_has : Con := pure' fun
  | [.p (.int .i64 q), .p (.int .i64 k)] => if (0 ≤ k) then some (.p (.bool (bitW q k == 1)), []) else none
  | _ => none
theorem s_has {P : Program} (hm : P.follows .mixedOrders = true) {Γ : Gam} (hΓ : GS P Γ) {n : FuncId} (is : Is P n a_has)  : Says P n c_has := by
  refine Says.pure fun args r fs h => ?_
  split at h
  case h_2 => cases h
  rename_i q k
  split at h
  case isFalse => cases h
  rename_i hc
  simp only [ofI_ints, ofBo_bools, ofAs_asks, Option.some.injEq, Prod.mk.injEq] at h hc
  obtain ⟨rfl, rfl⟩ := h
  have hk : ¬ k < 0 := by omega
  refine is.go hm hΓ k_has o_has (by simp [a_has]) ?_
  simp only [a_has, hk, bitA_and, bitW_def, List.zipIdx_cons, List.zipIdx_nil, ↓SP, SQ, Gam.add, stepM, callC, argC, lendO, nmBy, nmC, likeL, likeB, plainOb, offs, exL, X, F, trP, trO, stepD, stepW, newA, SV.tr, SV.trL, fz, allP, Ob.tr, loadA, cellsA, SV.cells, binA, binI, eqOut, isSl, isPt, natOf, callee, snap, SV.refsL, SV.refs, thaw, fzAll, loA, hiA, elemOf, partsA, buildA, putCells, ↓reduceIte, reduceCtorEq, okCell, Nat.reduceAdd, Nat.reduceEqDiff, Nat.reduceSub, Nat.reduceMul, Nat.reduceLeDiff, Nat.reduceLT, Nat.reduceBEq, PV.scal, PV.scalL, SV.scal, SV.scalL, Ob.scal, PV.isCell, pure', resO]
  exact finA_val (by simp [retA, rvA, mkE_cons, mk_nil, mkO_cons, mkO_nil, loadA, SV.tr, SV.trL, nmF, rn_nil, rn_cons1, rn_cons2, plainOb, SV.refsL, SV.refs, Ob.refs, X, F, List.range_succ, mkO, setO_mk]) (by simp [SV.tr, SV.trL])
def a_isFalse (f_has : FuncId) : AFn := ⟨2, 
  .seq (.reg [⟨some 2, none, .w (.box 2 (.t 0))⟩,
    ⟨some 4, none, .d (.mv (.c (.bool false)))⟩])
  (.seq (.dreg [] [([], ⟨some 5, none, .d (.fa 0 (.t 2))⟩),
    ([], ⟨some 6, none, .d (.load false 1 (.t 5))⟩),
    ([], ⟨some 7, none, .d (.mv (.t 1))⟩),
    ([], ⟨some 8, none, .d (.call (.f f_has) [(.t 6), (.t 7)])⟩),
    ([], ⟨some 9, none, .d (.fa 1 (.t 2))⟩),
    ([], ⟨some 10, none, .d (.load false 1 (.t 9))⟩)] [⟨some 11, none, .d (.bin .bool .neq (.t 8) (.t 10))⟩,
    ⟨some 4, none, .d (.mv (.t 11))⟩])
  (.ret)), [.tmp 4]⟩
def n_isFalse : Nat → Option Ann := fun _ => none
abbrev k_isFalse : List Nat := [0, 1, 2, 4]
abbrev o_isFalse : List Nat := [2]
def c_isFalse : Con := pure' fun
  | [.p (.agg [.int .i64 q, .bool y]), .p (.int .i64 k)] => if (0 ≤ k) then some (.p (.bool ((bitW q k == 1) != y)), []) else none
  | _ => none
theorem s_isFalse {P : Program} (hm : P.follows .mixedOrders = true) {Γ : Gam} (hΓ : GS P Γ) {n : FuncId} {f_has : FuncId} (is : Is P n (a_isFalse f_has)) (h_has : Γ f_has = c_has)  : Says P n c_isFalse := by
  refine Says.pure fun args r fs h => ?_
  split at h
  case h_2 => cases h
  rename_i q y k
  split at h
  case isFalse => cases h
  rename_i hc
  simp only [ofI_ints, ofBo_bools, ofAs_asks, Option.some.injEq, Prod.mk.injEq] at h hc
  obtain ⟨rfl, rfl⟩ := h
  refine is.go hm hΓ k_isFalse o_isFalse (by simp [a_isFalse]) ?_
  simp only [a_isFalse, h_has, c_has, hc, List.zipIdx_cons, List.zipIdx_nil, ↓SP, SQ, Gam.add, stepM, callC, argC, lendO, nmBy, nmC, likeL, likeB, plainOb, offs, exL, X, F, trP, trO, stepD, stepW, newA, SV.tr, SV.trL, fz, allP, Ob.tr, loadA, cellsA, SV.cells, binA, binI, eqOut, isSl, isPt, natOf, callee, snap, SV.refsL, SV.refs, thaw, fzAll, loA, hiA, elemOf, partsA, buildA, putCells, ↓reduceIte, reduceCtorEq, okCell, Nat.reduceAdd, Nat.reduceEqDiff, Nat.reduceSub, Nat.reduceMul, Nat.reduceLeDiff, Nat.reduceLT, Nat.reduceBEq, PV.scal, PV.scalL, SV.scal, SV.scalL, Ob.scal, PV.isCell, pure', resO]
  cases hb : (bitW q k == 1) <;> cases y <;> (try simp only [hb, ↓SP, SQ, Gam.add, stepM, callC, argC, lendO, nmBy, nmC, likeL, likeB, plainOb, offs, exL, X, F, trP, trO, stepD, stepW, newA, SV.tr, SV.trL, fz, allP, Ob.tr, loadA, cellsA, SV.cells, binA, binI, eqOut, isSl, isPt, natOf, callee, snap, SV.refsL, SV.refs, thaw, fzAll, loA, hiA, elemOf, partsA, buildA, putCells, ↓reduceIte, reduceCtorEq, okCell, Nat.reduceAdd, Nat.reduceEqDiff, Nat.reduceSub, Nat.reduceMul, Nat.reduceLeDiff, Nat.reduceLT, Nat.reduceBEq, PV.scal, PV.scalL, SV.scal, SV.scalL, Ob.scal, PV.isCell, pure', resO]) <;> exact finA_val (by simp [hb, retA, rvA, mkE_cons, mk_nil, mkO_cons, mkO_nil, loadA, SV.tr, SV.trL, nmF, rn_nil, rn_cons1, rn_cons2, plainOb, SV.refsL, SV.refs, Ob.refs, X, F, List.range_succ, mkO, setO_mk]) (by simp [SV.tr])
def a_l2False : AFn := ⟨3, 
  .seq (.reg [⟨some 6, none, .d (.mv (.c (.bool false)))⟩])
  (.seq (.reg [⟨some 7, none, .d (.mv (.t 1))⟩,
    ⟨some 8, none, .d (.mv (.t 0))⟩,
    ⟨some 9, none, .d (.mv (.t 2))⟩,
    ⟨some 10, none, .d (.bin .arith .shr (.t 8) (.t 9))⟩,
    ⟨some 11, none, .d (.bin .arith .and (.t 10) (.c (.int .i64 1)))⟩,
    ⟨some 12, none, .d (.bin .arith .eql (.t 11) (.c (.int .i64 1)))⟩,
    ⟨some 13, none, .d (.bin .bool .neq (.t 7) (.t 12))⟩,
    ⟨some 6, none, .d (.mv (.t 13))⟩])
  (.ret)), [.tmp 6]⟩
def n_l2False : Nat → Option Ann := fun _ => none
abbrev k_l2False : List Nat := [0, 1, 2, 6]
abbrev o_l2False : List Nat := []
def c_l2False : Con := pure' fun
  | [.p (.int .i64 q), .p (.bool y), .p (.int .i64 k)] => if (0 ≤ k) then some (.p (.bool ((bitW q k == 1) != y)), []) else none
  | _ => none
theorem s_l2False {P : Program} (hm : P.follows .mixedOrders = true) {Γ : Gam} (hΓ : GS P Γ) {n : FuncId} (is : Is P n a_l2False)  : Says P n c_l2False := by
  refine Says.pure fun args r fs h => ?_
  split at h
  case h_2 => cases h
  rename_i q y k
  split at h
  case isFalse => cases h
  rename_i hc
  simp only [ofI_ints, ofBo_bools, ofAs_asks, Option.some.injEq, Prod.mk.injEq] at h hc
  obtain ⟨rfl, rfl⟩ := h
  have hk : ¬ k < 0 := by omega
  refine is.go hm hΓ k_l2False o_l2False (by simp [a_l2False]) ?_
  simp only [a_l2False, hk, bitA_and, bitW_def, List.zipIdx_cons, List.zipIdx_nil, ↓SP, SQ, Gam.add, stepM, callC, argC, lendO, nmBy, nmC, likeL, likeB, plainOb, offs, exL, X, F, trP, trO, stepD, stepW, newA, SV.tr, SV.trL, fz, allP, Ob.tr, loadA, cellsA, SV.cells, binA, binI, eqOut, isSl, isPt, natOf, callee, snap, SV.refsL, SV.refs, thaw, fzAll, loA, hiA, elemOf, partsA, buildA, putCells, ↓reduceIte, reduceCtorEq, okCell, Nat.reduceAdd, Nat.reduceEqDiff, Nat.reduceSub, Nat.reduceMul, Nat.reduceLeDiff, Nat.reduceLT, Nat.reduceBEq, PV.scal, PV.scalL, SV.scal, SV.scalL, Ob.scal, PV.isCell, pure', resO]
  cases hb : (bitW q k == 1) <;> cases y <;> (try simp only [hb, ↓SP, SQ, Gam.add, stepM, callC, argC, lendO, nmBy, nmC, likeL, likeB, plainOb, offs, exL, X, F, trP, trO, stepD, stepW, newA, SV.tr, SV.trL, fz, allP, Ob.tr, loadA, cellsA, SV.cells, binA, binI, eqOut, isSl, isPt, natOf, callee, snap, SV.refsL, SV.refs, thaw, fzAll, loA, hiA, elemOf, partsA, buildA, putCells, ↓reduceIte, reduceCtorEq, okCell, Nat.reduceAdd, Nat.reduceEqDiff, Nat.reduceSub, Nat.reduceMul, Nat.reduceLeDiff, Nat.reduceLT, Nat.reduceBEq, PV.scal, PV.scalL, SV.scal, SV.scalL, Ob.scal, PV.isCell, pure', resO]) <;> exact finA_val (by simp [hb, retA, rvA, mkE_cons, mk_nil, mkO_cons, mkO_nil, loadA, SV.tr, SV.trL, nmF, rn_nil, rn_cons1, rn_cons2, plainOb, SV.refsL, SV.refs, Ob.refs, X, F, List.range_succ, mkO, setO_mk]) (by simp [SV.tr])
def a_Clone : AFn := ⟨1, 
  .seq (.reg [⟨some 2, none, .d (.mv (.c (.nilsl)))⟩])
  (.seq (.seq (.reg [⟨some 3, none, .d (.mv (.t 0))⟩,
    ⟨some 4, none, .d (.bin .slice .eql (.t 3) (.c (.nilsl)))⟩])
  (.cond (.t 4) (.seq (.reg [⟨some 2, none, .d (.mv (.c (.nilsl)))⟩])
   (.ret)) (.skip)))
  (.seq (.reg [⟨some 5, none, .w (.bslice 1 [] [])⟩,
    ⟨some 6, none, .d (.mv (.t 0))⟩,
    ⟨some 7, none, .w (.append 1 (.t 5) (.t 6))⟩,
    ⟨some 2, none, .d (.mv (.t 7))⟩])
  (.ret))), [.tmp 2]⟩
def n_Clone : Nat → Option Ann := fun _ => none
abbrev k_Clone : List Nat := [0, 2, 4]
abbrev o_Clone : List Nat := [5, 7]
def a_l1Own : AFn := ⟨1, 
  .seq (.reg [⟨some 2, none, .d (.mv (.c (.nilsl)))⟩])
  (.seq (.reg [⟨some 3, none, .w (.bslice 1 [] [])⟩,
    ⟨some 4, none, .d (.mv (.t 0))⟩,
    ⟨some 5, none, .w (.append 1 (.t 3) (.t 4))⟩,
    ⟨some 2, none, .d (.mv (.t 5))⟩])
  (.ret)), [.tmp 2]⟩
def n_l1Own : Nat → Option Ann := fun _ => none
abbrev k_l1Own : List Nat := [0, 2]
abbrev o_l1Own : List Nat := [3, 5]
def c_Clone : Con := pure' fun
  | [.p (.sl 1 l_)] => if isI l_ = true ∧ ((ofI l_).length ≤ 1100000) then some (.ar 2000000, [.arr 1 (ints (ofI l_))]) else none
  | _ => none
theorem room {n : Nat} (h : n ≤ 1100000) : n ≤ roomA := by unfold roomA; omega
theorem s_Clone {P : Program} (hm : P.follows .mixedOrders = true) {Γ : Gam} (hΓ : GS P Γ) {n : FuncId} (is : Is P n a_Clone)  : Says P n c_Clone := by
  refine Says.pure fun args r fs h => ?_
  split at h
  case h_2 => cases h
  rename_i l_
  split at h
  case isFalse => cases h
  rename_i hc
  obtain ⟨hl_, hc⟩ := hc
  obtain ⟨l, rfl⟩ := isI_out hl_
  simp only [ofI_ints, ofBo_bools, ofAs_asks, Option.some.injEq, Prod.mk.injEq] at h hc
  obtain ⟨rfl, rfl⟩ := h
  have hr := room hc
  refine is.go hm hΓ k_Clone o_Clone (by simp [a_Clone]) ?_
  simp only [a_Clone, hr, List.zipIdx_cons, List.zipIdx_nil, ↓SP, SQ, Gam.add, stepM, callC, argC, lendO, nmBy, nmC, likeL, likeB, plainOb, offs, exL, X, F, trP, trO, stepD, stepW, newA, SV.tr, SV.trL, fz, allP, Ob.tr, loadA, cellsA, SV.cells, binA, binI, eqOut, isSl, isPt, natOf, callee, snap, SV.refsL, SV.refs, thaw, fzAll, loA, hiA, elemOf, partsA, buildA, putCells, ↓reduceIte, reduceCtorEq, okCell, Nat.reduceAdd, Nat.reduceEqDiff, Nat.reduceSub, Nat.reduceMul, Nat.reduceLeDiff, Nat.reduceLT, Nat.reduceBEq, PV.scal, PV.scalL, SV.scal, SV.scalL, Ob.scal, PV.isCell, pure', resO]
  refine finA_gen [5] trivial (by simp [retA, rvA, mkE_cons, mk_nil, mkO_cons, mkO_nil, loadA, SV.tr, SV.trL, nmF, rn_nil, rn_cons1, rn_cons2, plainOb, SV.refsL, SV.refs, Ob.refs, X, F, List.range_succ, mkO, setO_mk]; rfl) ?_ ?_ ?_ ?_ ?_ ?_ ?_ <;> simp [retA, rvA, mkE_cons, mk_nil, mkO_cons, mkO_nil, loadA, SV.tr, SV.trL, nmF, rn_nil, rn_cons1, rn_cons2, plainOb, SV.refsL, SV.refs, Ob.refs, X, F, List.range_succ, mkO, setO_mk]
theorem s_l1Own {P : Program} (hm : P.follows .mixedOrders = true) {Γ : Gam} (hΓ : GS P Γ) {n : FuncId} (is : Is P n a_l1Own)  : Says P n c_Clone := by
  refine Says.pure fun args r fs h => ?_
  split at h
  case h_2 => cases h
  rename_i l_
  split at h
  case isFalse => cases h
  rename_i hc
  obtain ⟨hl_, hc⟩ := hc
  obtain ⟨l, rfl⟩ := isI_out hl_
  simp only [ofI_ints, ofBo_bools, ofAs_asks, Option.some.injEq, Prod.mk.injEq] at h hc
  obtain ⟨rfl, rfl⟩ := h
  have hr := room hc
  refine is.go hm hΓ k_l1Own o_l1Own (by simp [a_l1Own]) ?_
  simp only [a_l1Own, hr, List.zipIdx_cons, List.zipIdx_nil, ↓SP, SQ, Gam.add, stepM, callC, argC, lendO, nmBy, nmC, likeL, likeB, plainOb, offs, exL, X, F, trP, trO, stepD, stepW, newA, SV.tr, SV.trL, fz, allP, Ob.tr, loadA, cellsA, SV.cells, binA, binI, eqOut, isSl, isPt, natOf, callee, snap, SV.refsL, SV.refs, thaw, fzAll, loA, hiA, elemOf, partsA, buildA, putCells, ↓reduceIte, reduceCtorEq, okCell, Nat.reduceAdd, Nat.reduceEqDiff, Nat.reduceSub, Nat.reduceMul, Nat.reduceLeDiff, Nat.reduceLT, Nat.reduceBEq, PV.scal, PV.scalL, SV.scal, SV.scalL, Ob.scal, PV.isCell, pure', resO]
  refine finA_gen [3] trivial (by simp [retA, rvA, mkE_cons, mk_nil, mkO_cons, mkO_nil, loadA, SV.tr, SV.trL, nmF, rn_nil, rn_cons1, rn_cons2, plainOb, SV.refsL, SV.refs, Ob.refs, X, F, List.range_succ, mkO, setO_mk]; rfl) ?_ ?_ ?_ ?_ ?_ ?_ ?_ <;> simp [retA, rvA, mkE_cons, mk_nil, mkO_cons, mkO_nil, loadA, SV.tr, SV.trL, nmF, rn_nil, rn_cons1, rn_cons2, plainOb, SV.refsL, SV.refs, Ob.refs, X, F, List.range_succ, mkO, setO_mk]
def a_IndexFunc : AFn := ⟨2, 
  .seq (.reg [⟨some 4, none, .d (.mv (.c (.int .i64 0)))⟩])
  (.seq (.seq (.reg [⟨some 6, none, .d (.mv (.t 0))⟩,
    ⟨some 7, none, .d (.len (.t 6))⟩,
    ⟨some 8, none, .d (.mv (.c (.int .i64 0)))⟩])
  (.block 0 (.loop (.seq (.reg [⟨some 9, none, .d (.bin .arith .lss (.t 8) (.t 7))⟩])
    (.seq (.cond (.t 9) (.skip) (.exit 0))
    (.seq (.block 1 (.seq (.reg [⟨some 10, none, .d (.mv (.t 8))⟩,
       ⟨some 5, none, .d (.mv (.t 10))⟩])
     (.seq (.reg [⟨some 11, none, .d (.mv (.t 1))⟩,
       ⟨some 12, none, .d (.mv (.t 0))⟩,
       ⟨some 13, none, .d (.mv (.t 5))⟩,
       ⟨some 14, none, .d (.ia 1 (.t 12) (.t 13))⟩,
       ⟨some 15, none, .d (.load false 1 (.t 14))⟩,
       ⟨some 16, none, .d (.call (.t 11) [(.t 15)])⟩])
     (.cond (.t 16) (.seq (.reg [⟨some 17, none, .d (.mv (.t 5))⟩,
        ⟨some 4, none, .d (.mv (.t 17))⟩])
      (.ret)) (.skip)))))
    (.reg [⟨some 18, none, .d (.bin .arith .add (.t 8) (.c (.int .i64 1)))⟩,
      ⟨some 8, none, .d (.mv (.t 18))⟩])))))))
  (.seq (.reg [⟨some 4, none, .d (.mv (.c (.int .i64 (-1))))⟩])
  (.ret))), [.tmp 4]⟩
def n_IndexFunc : Nat → Option Ann := fun _ => none
abbrev k_IndexFunc : List Nat := [0, 1, 4, 5, 7, 8, 9, 16]
abbrev o_IndexFunc : List Nat := []
/-- The place of the first yes. -/
def firstT : List Bool → Int
  | [] => -1
  | b :: r => if b then 0 else if firstT r = -1 then -1 else firstT r + 1
theorem firstT_ge (bs : List Bool) : -1 ≤ firstT bs := by
  induction bs with
  | nil => simp [firstT]
  | cons b r ih => simp only [firstT]; split; omega; split <;> omega
theorem firstT_none : ∀ {bs : List Bool}, (∀ j, j < bs.length → bs.getD j false = false) → firstT bs = -1
  | [], _ => rfl
  | b :: r, h => by
    have h0 := h 0 (by simp)
    simp at h0; subst h0
    have := firstT_none (bs := r) fun j hj => by have := h (j + 1) (by simp; omega); simpa using this
    simp [firstT, this]
theorem firstT_some : ∀ {bs : List Bool} {i : Nat}, i < bs.length → (∀ j, j < i → bs.getD j false = false) → bs.getD i false = true → firstT bs = i
  | [], i, h, _, _ => by simp at h
  | b :: r, 0, _, _, h => by simp at h; subst h; simp [firstT]
  | b :: r, i + 1, h, hp, ht => by
    have h0 := hp 0 (by omega)
    simp at h0; subst h0
    have := firstT_some (bs := r) (i := i) (by simpa using h) (fun j hj => by have := hp (j + 1) (by omega); simpa using this) (by simpa using ht)
    simp only [firstT, this, Bool.false_eq_true, if_false]
    split <;> omega
theorem firstT_any (bs : List Bool) : decide (0 ≤ firstT bs) = bs.any id := by
  induction bs with
  | nil => rfl
  | cons b r ih =>
    cases b with
    | true => simp [firstT]
    | false =>
      have := firstT_ge r
      simp only [firstT, List.any_cons, Bool.false_eq_true, if_false, id, Bool.false_or]
      rw [← ih]
      split
      · rename_i e; simp [e]
      · by_cases h0 : 0 ≤ firstT r
        · rw [decide_eq_true h0, decide_eq_true (by omega)]
        · rw [decide_eq_false h0, decide_eq_false (by omega)]
def c_IndexFunc (Γ0 : Gam) : Con := pure' fun
  | [.p (.sl 1 xs), .p (.fn g a b)] => if isI xs = true ∧ xs.length ≤ 1100000 then (match askF Γ0 g a b xs with | some bs => some (.p (.int .i64 (firstT bs)), []) | none => none) else none
  | _ => none
theorem s_IndexFunc {P : Program} (hm : P.follows .mixedOrders = true) {Γ : Gam} (hΓ : GS P Γ) {n : FuncId} (is : Is P n a_IndexFunc)  : Says P n (c_IndexFunc Γ) := by
  refine Says.pure fun args r fs h => ?_
  split at h
  case h_2 => cases h
  rename_i xs g a b
  split at h
  case isFalse => cases h
  rename_i hc
  obtain ⟨hx, hc⟩ := hc
  obtain ⟨l, rfl⟩ := isI_out hx
  rw [ints_len] at hc
  split at h
  case h_2 => cases h
  rename_i bs hbs
  simp only [Option.some.injEq, Prod.mk.injEq] at h
  obtain ⟨rfl, rfl⟩ := h
  have hbl := askF_len hbs
  rw [ints_len] at hbl
  refine is.go hm hΓ k_IndexFunc o_IndexFunc (by simp [a_IndexFunc]) ?_
  simp only [a_IndexFunc, List.zipIdx_cons, List.zipIdx_nil, ↓SP, SQ, Gam.add, stepM, callC, argC, lendO, nmBy, nmC, likeL, likeB, plainOb, offs, exL, X, F, trP, trO, stepD, stepW, newA, SV.tr, SV.trL, fz, allP, Ob.tr, loadA, cellsA, SV.cells, binA, binI, eqOut, isSl, isPt, natOf, callee, snap, SV.refsL, SV.refs, thaw, fzAll, loA, hiA, elemOf, partsA, buildA, putCells, ↓reduceIte, reduceCtorEq, okCell, Nat.reduceAdd, Nat.reduceEqDiff, Nat.reduceSub, Nat.reduceMul, Nat.reduceLeDiff, Nat.reduceLT, Nat.reduceBEq, PV.scal, PV.scalL, SV.scal, SV.scalL, Ob.scal, PV.isCell, pure', resO]
  refine loop_at (fun s : Nat × SV × SV × SV => mkEnv [(0, .p (.sl 1 (ints l))), (1, .p (.fn g a b)), (4, si 0), (5, s.2.1), (7, si l.length), (8, si s.1), (9, s.2.2.1), (16, s.2.2.2)]) (fun s => mkO []) (fun s => s.1 ≤ l.length ∧ ∀ j, j < s.1 → bs.getD j false = false) (fun s => l.length - s.1) (0, .junk, .junk, .junk) (by simp) rfl rfl ?_
  rintro ⟨i, c1, c2, c3⟩ ⟨hi, hp⟩ R hR hN
  simp only at hi hp
  by_cases h : i < l.length
  · have h1 : (i : Int) < l.length := by omega
    have hw := wrap_one (i := i) (by omega)
    have hg := ints_get h
    have hq := askF_get hbs hg
    cases hb : bs.getD i false with
    | false =>
      rw [hb] at hq
      simp only [h1, hw, hg, call_ps, refs_ps, hq, ↓SP, SQ, Gam.add, stepM, callC, argC, lendO, nmBy, nmC, likeL, likeB, plainOb, offs, exL, X, F, trP, trO, stepD, stepW, newA, SV.tr, SV.trL, fz, allP, Ob.tr, loadA, cellsA, SV.cells, binA, binI, eqOut, isSl, isPt, natOf, callee, snap, SV.refsL, SV.refs, thaw, fzAll, loA, hiA, elemOf, partsA, buildA, putCells, ↓reduceIte, reduceCtorEq, okCell, Nat.reduceAdd, Nat.reduceEqDiff, Nat.reduceSub, Nat.reduceMul, Nat.reduceLeDiff, Nat.reduceLT, Nat.reduceBEq, PV.scal, PV.scalL, SV.scal, SV.scalL, Ob.scal, PV.isCell, pure', resO]
      refine hN (i + 1, _, _, _) _ _ ⟨by simp only; omega, fun j hj => ?_⟩ (by simp only; omega) rfl rfl
      simp only at hj
      by_cases hji : j = i
      · rw [hji]; exact hb
      · exact hp j (by omega)
    | true =>
      rw [hb] at hq
      have hf := firstT_some (by omega) hp hb
      simp only [h1, hw, hg, call_ps, refs_ps, hq, hf, ↓SP, SQ, Gam.add, stepM, callC, argC, lendO, nmBy, nmC, likeL, likeB, plainOb, offs, exL, X, F, trP, trO, stepD, stepW, newA, SV.tr, SV.trL, fz, allP, Ob.tr, loadA, cellsA, SV.cells, binA, binI, eqOut, isSl, isPt, natOf, callee, snap, SV.refsL, SV.refs, thaw, fzAll, loA, hiA, elemOf, partsA, buildA, putCells, ↓reduceIte, reduceCtorEq, okCell, Nat.reduceAdd, Nat.reduceEqDiff, Nat.reduceSub, Nat.reduceMul, Nat.reduceLeDiff, Nat.reduceLT, Nat.reduceBEq, PV.scal, PV.scalL, SV.scal, SV.scalL, Ob.scal, PV.isCell, pure', resO]
      refine hR _ _ _ (by intro h; cases h) ?_
      simp only [↓SP, SQ, Gam.add, stepM, callC, argC, lendO, nmBy, nmC, likeL, likeB, plainOb, offs, exL, X, F, trP, trO, stepD, stepW, newA, SV.tr, SV.trL, fz, allP, Ob.tr, loadA, cellsA, SV.cells, binA, binI, eqOut, isSl, isPt, natOf, callee, snap, SV.refsL, SV.refs, thaw, fzAll, loA, hiA, elemOf, partsA, buildA, putCells, ↓reduceIte, reduceCtorEq, okCell, Nat.reduceAdd, Nat.reduceEqDiff, Nat.reduceSub, Nat.reduceMul, Nat.reduceLeDiff, Nat.reduceLT, Nat.reduceBEq, PV.scal, PV.scalL, SV.scal, SV.scalL, Ob.scal, PV.isCell, pure', resO]
      exact finA_val (by simp [hf, retA, rvA, mkE_cons, mk_nil, mkO_cons, mkO_nil, loadA, SV.tr, SV.trL, nmF, rn_nil, rn_cons1, rn_cons2, plainOb, SV.refsL, SV.refs, Ob.refs, X, F, List.range_succ, mkO, setO_mk]) (by simp [SV.tr, SV.trL])
  · have he : i = l.length := by omega
    have h1 : ¬ (i : Int) < l.length := by omega
    have hf : firstT bs = -1 := firstT_none fun j hj => hp j (by omega)
    simp only [h1, hf, ↓SP, SQ, Gam.add, stepM, callC, argC, lendO, nmBy, nmC, likeL, likeB, plainOb, offs, exL, X, F, trP, trO, stepD, stepW, newA, SV.tr, SV.trL, fz, allP, Ob.tr, loadA, cellsA, SV.cells, binA, binI, eqOut, isSl, isPt, natOf, callee, snap, SV.refsL, SV.refs, thaw, fzAll, loA, hiA, elemOf, partsA, buildA, putCells, ↓reduceIte, reduceCtorEq, okCell, Nat.reduceAdd, Nat.reduceEqDiff, Nat.reduceSub, Nat.reduceMul, Nat.reduceLeDiff, Nat.reduceLT, Nat.reduceBEq, PV.scal, PV.scalL, SV.scal, SV.scalL, Ob.scal, PV.isCell, pure', resO]
    refine hR _ _ _ (by intro h; cases h) ?_
    simp only [↓SP, SQ, Gam.add, stepM, callC, argC, lendO, nmBy, nmC, likeL, likeB, plainOb, offs, exL, X, F, trP, trO, stepD, stepW, newA, SV.tr, SV.trL, fz, allP, Ob.tr, loadA, cellsA, SV.cells, binA, binI, eqOut, isSl, isPt, natOf, callee, snap, SV.refsL, SV.refs, thaw, fzAll, loA, hiA, elemOf, partsA, buildA, putCells, ↓reduceIte, reduceCtorEq, okCell, Nat.reduceAdd, Nat.reduceEqDiff, Nat.reduceSub, Nat.reduceMul, Nat.reduceLeDiff, Nat.reduceLT, Nat.reduceBEq, PV.scal, PV.scalL, SV.scal, SV.scalL, Ob.scal, PV.isCell, pure', resO]
    exact finA_val (by simp [hf, retA, rvA, mkE_cons, mk_nil, mkO_cons, mkO_nil, loadA, SV.tr, SV.trL, nmF, rn_nil, rn_cons1, rn_cons2, plainOb, SV.refsL, SV.refs, Ob.refs, X, F, List.range_succ, mkO, setO_mk]) (by simp [SV.tr, SV.trL])
def a_ContainsFunc (f_IndexFunc : FuncId) : AFn := ⟨2, 
  .seq (.reg [⟨some 4, none, .d (.mv (.c (.bool false)))⟩])
  (.seq (.reg [⟨some 5, none, .d (.mv (.t 0))⟩,
    ⟨some 6, none, .d (.mv (.t 1))⟩,
    ⟨some 7, none, .d (.call (.f f_IndexFunc) [(.t 5), (.t 6)])⟩,
    ⟨some 8, none, .d (.bin .arith .geq (.t 7) (.c (.int .i64 0)))⟩,
    ⟨some 4, none, .d (.mv (.t 8))⟩])
  (.ret)), [.tmp 4]⟩
def n_ContainsFunc : Nat → Option Ann := fun _ => none
abbrev k_ContainsFunc : List Nat := [0, 1, 4]
abbrev o_ContainsFunc : List Nat := []
def c_ContainsFunc (Γ0 : Gam) : Con := pure' fun
  | [.p (.sl 1 xs), .p (.fn g a b)] => if isI xs = true ∧ xs.length ≤ 1100000 then (match askF Γ0 g a b xs with | some bs => some (.p (.bool (bs.any id)), []) | none => none) else none
  | _ => none
theorem s_ContainsFunc {P : Program} (hm : P.follows .mixedOrders = true) {Γ : Gam} (hΓ : GS P Γ) {n : FuncId} {f_IndexFunc : FuncId} (is : Is P n (a_ContainsFunc f_IndexFunc)) {Γ0 : Gam} (h_IndexFunc : Γ f_IndexFunc = c_IndexFunc Γ0) : Says P n (c_ContainsFunc Γ0) := by
  refine Says.pure fun args r fs h => ?_
  split at h
  case h_2 => cases h
  rename_i xs g a b
  split at h
  case isFalse => cases h
  rename_i hc
  split at h
  case h_2 => cases h
  rename_i bs hbs
  simp only [Option.some.injEq, Prod.mk.injEq] at h
  obtain ⟨rfl, rfl⟩ := h
  have hm1 : ∀ (O : Objs) (l : List PV), (l.map SV.p).mapM (snap O 4) = some l := fun O l => by
    induction l with
    | nil => rfl
    | cons y r ih => simp only [List.map_cons, List.mapM_cons, ih]; rfl
  refine is.go hm hΓ k_ContainsFunc o_ContainsFunc (by simp [a_ContainsFunc]) ?_
  simp only [a_ContainsFunc, h_IndexFunc, c_IndexFunc, hc, hbs, firstT_any, List.zipIdx_cons, List.zipIdx_nil, ↓SP, SQ, Gam.add, stepM, callC, argC, lendO, nmBy, nmC, likeL, likeB, plainOb, offs, exL, X, F, trP, trO, stepD, stepW, newA, SV.tr, SV.trL, fz, allP, Ob.tr, loadA, cellsA, SV.cells, binA, binI, eqOut, isSl, isPt, natOf, callee, snap, SV.refsL, SV.refs, thaw, fzAll, loA, hiA, elemOf, partsA, buildA, putCells, ↓reduceIte, reduceCtorEq, okCell, Nat.reduceAdd, Nat.reduceEqDiff, Nat.reduceSub, Nat.reduceMul, Nat.reduceLeDiff, Nat.reduceLT, Nat.reduceBEq, PV.scal, PV.scalL, SV.scal, SV.scalL, Ob.scal, PV.isCell, pure', resO]
  exact finA_val (by simp [retA, rvA, mkE_cons, mk_nil, mkO_cons, mkO_nil, loadA, SV.tr, SV.trL, nmF, rn_nil, rn_cons1, rn_cons2, plainOb, SV.refsL, SV.refs, Ob.refs, X, F, List.range_succ, mkO, setO_mk]) (by simp [SV.tr, SV.trL])
def a_IsState1 (f_in : FuncId) : AFn := ⟨2, 
  .seq (.reg [⟨some 3, none, .d (.mv (.c (.bool false)))⟩])
  (.seq (.reg [⟨some 4, none, .d (.mv (.t 0))⟩,
    ⟨some 5, none, .d (.fa 1 (.t 1))⟩,
    ⟨some 6, none, .d (.load false 1 (.t 5))⟩,
    ⟨some 7, none, .d (.call (.f f_in) [(.t 4), (.c (.int .i64 (-1))), (.t 6)])⟩,
    ⟨some 8, none, .d (.not (.t 7))⟩,
    ⟨some 3, none, .d (.mv (.t 8))⟩])
  (.ret)), [.tmp 3]⟩
def n_IsState1 : Nat → Option Ann := fun _ => none
abbrev k_IsState1 : List Nat := [0, 1, 3]
abbrev o_IsState1 : List Nat := []
def c_IsState1 : Con := pure' fun
  | [.p (.int .i64 x), .p (.cp [s, .int .i64 m])] => some (.p (.bool !(decide (-1 ≤ x) && decide (x ≤ m))), [])
  | _ => none
theorem s_IsState1 {P : Program} (hm : P.follows .mixedOrders = true) {Γ : Gam} (hΓ : GS P Γ) {n : FuncId} {f_in : FuncId} (is : Is P n (a_IsState1 f_in)) (h_in : Γ f_in = c_in)  : Says P n c_IsState1 := by
  refine Says.pure fun args r fs h => ?_
  split at h
  case h_2 => cases h
  rename_i x s m
  simp only [Option.some.injEq, Prod.mk.injEq] at h
  obtain ⟨rfl, rfl⟩ := h
  refine is.go hm hΓ k_IsState1 o_IsState1 (by simp [a_IsState1]) ?_
  simp only [a_IsState1, h_in, c_in, List.zipIdx_cons, List.zipIdx_nil, ↓SP, SQ, Gam.add, stepM, callC, argC, lendO, nmBy, nmC, likeL, likeB, plainOb, offs, exL, X, F, trP, trO, stepD, stepW, newA, SV.tr, SV.trL, fz, allP, Ob.tr, loadA, cellsA, SV.cells, binA, binI, eqOut, isSl, isPt, natOf, callee, snap, SV.refsL, SV.refs, thaw, fzAll, loA, hiA, elemOf, partsA, buildA, putCells, ↓reduceIte, reduceCtorEq, okCell, Nat.reduceAdd, Nat.reduceEqDiff, Nat.reduceSub, Nat.reduceMul, Nat.reduceLeDiff, Nat.reduceLT, Nat.reduceBEq, PV.scal, PV.scalL, SV.scal, SV.scalL, Ob.scal, PV.isCell, pure', resO]
  exact finA_val (by simp [retA, rvA, mkE_cons, mk_nil, mkO_cons, mkO_nil, loadA, SV.tr, SV.trL, nmF, rn_nil, rn_cons1, rn_cons2, plainOb, SV.refsL, SV.refs, Ob.refs, X, F, List.range_succ, mkO, setO_mk]) (by simp [SV.tr, SV.trL])
def a_IsState (f_isCount : FuncId) (f_isMost : FuncId) (f_IsState1 : FuncId) (f_ContainsFunc : FuncId) : AFn := ⟨1, 
  .seq (.reg [⟨some 1, none, .w (.box 2 (.t 0))⟩,
    ⟨some 2, none, .d (.mv (.c (.bool false)))⟩])
  (.seq (.reg [⟨some 3, none, .d (.fa 0 (.t 1))⟩,
    ⟨some 4, none, .d (.load false 1 (.t 3))⟩,
    ⟨some 5, none, .d (.len (.t 4))⟩,
    ⟨some 6, none, .d (.call (.f f_isCount) [(.t 5)])⟩,
    ⟨some 7, none, .d (.mv (.t 6))⟩,
    ⟨some 8, some (7, true), .d (.fa 1 (.t 1))⟩,
    ⟨some 9, some (7, true), .d (.load false 1 (.t 8))⟩,
    ⟨some 10, some (7, true), .d (.call (.f f_isMost) [(.t 9)])⟩,
    ⟨some 11, none, .d (.pick (.t 7) (.t 10) (.c (.bool false)))⟩,
    ⟨some 12, none, .d (.mv (.t 11))⟩,
    ⟨some 13, some (12, true), .d (.fa 0 (.t 1))⟩,
    ⟨some 14, some (12, true), .d (.load false 1 (.t 13))⟩,
    ⟨some 15, some (12, true), .d (.mkfn f_IsState1 [] [(.t 1)])⟩,
    ⟨some 16, some (12, true), .d (.call (.f f_ContainsFunc) [(.t 14), (.t 15)])⟩,
    ⟨some 17, some (12, true), .d (.not (.t 16))⟩,
    ⟨some 18, none, .d (.pick (.t 12) (.t 17) (.c (.bool false)))⟩,
    ⟨some 2, none, .d (.mv (.t 18))⟩])
  (.ret)), [.tmp 2]⟩
def n_IsState : Nat → Option Ann := fun _ => none
abbrev k_IsState : List Nat := [0, 1, 2]
abbrev o_IsState : List Nat := [1]
def a_l2State (f_l1In : FuncId) : AFn := ⟨1, 
  .seq (.reg [⟨some 1, none, .w (.box 2 (.t 0))⟩,
    ⟨some 2, none, .d (.mv (.c (.bool false)))⟩])
  (.seq (.seq (.reg [⟨some 3, none, .d (.mv (.c (.int .i64 0)))⟩])
  (.block 0 (.loop (.seq (.seq (.reg [⟨some 4, none, .d (.mv (.t 3))⟩,
      ⟨some 5, none, .d (.fa 0 (.t 1))⟩,
      ⟨some 6, none, .d (.load false 1 (.t 5))⟩,
      ⟨some 7, none, .d (.len (.t 6))⟩,
      ⟨some 8, none, .d (.bin .arith .lss (.t 4) (.t 7))⟩,
      ⟨some 9, none, .d (.mv (.t 8))⟩,
      ⟨some 10, some (9, true), .d (.mv (.t 3))⟩,
      ⟨some 11, some (9, true), .d (.bin .arith .leq (.t 10) (.c (.int .i64 12)))⟩,
      ⟨some 12, none, .d (.pick (.t 9) (.t 11) (.c (.bool false)))⟩])
    (.cond (.t 12) (.skip) (.exit 0)))
    (.seq (.block 1 (.seq (.dreg [] [([], ⟨some 15, none, .d (.fa 0 (.t 1))⟩),
       ([], ⟨some 16, none, .d (.load false 1 (.t 15))⟩),
       ([], ⟨some 17, none, .d (.mv (.t 3))⟩),
       ([], ⟨some 18, none, .d (.ia 1 (.t 16) (.t 17))⟩),
       ([], ⟨some 19, none, .d (.load false 1 (.t 18))⟩),
       ([], ⟨some 20, none, .d (.fa 1 (.t 1))⟩),
       ([], ⟨some 21, none, .d (.load false 1 (.t 20))⟩)] [⟨some 22, none, .d (.call (.f f_l1In) [(.t 19), (.c (.int .i64 (-1))), (.t 21)])⟩,
       ⟨some 23, none, .d (.not (.t 22))⟩])
     (.cond (.t 23) (.seq (.reg [⟨some 2, none, .d (.mv (.c (.bool false)))⟩])
      (.ret)) (.skip))))
    (.reg [⟨some 13, none, .d (.mv (.t 3))⟩,
      ⟨some 14, none, .d (.bin .arith .add (.t 13) (.c (.int .i64 1)))⟩,
      ⟨some 3, none, .d (.mv (.t 14))⟩]))))))
  (.seq (.reg [⟨some 24, none, .d (.fa 0 (.t 1))⟩,
    ⟨some 25, none, .d (.load false 1 (.t 24))⟩,
    ⟨some 26, none, .d (.len (.t 25))⟩,
    ⟨some 27, none, .d (.call (.f f_l1In) [(.t 26), (.c (.int .i64 1)), (.c (.int .i64 12))])⟩,
    ⟨some 28, none, .d (.mv (.t 27))⟩,
    ⟨some 29, some (28, true), .d (.fa 1 (.t 1))⟩,
    ⟨some 30, some (28, true), .d (.load false 1 (.t 29))⟩,
    ⟨some 31, some (28, true), .d (.call (.f f_l1In) [(.t 30), (.c (.int .i64 0)), (.c (.int .i64 2))])⟩,
    ⟨some 32, none, .d (.pick (.t 28) (.t 31) (.c (.bool false)))⟩,
    ⟨some 2, none, .d (.mv (.t 32))⟩])
  (.ret))), [.tmp 2]⟩
def n_l2State : Nat → Option Ann := fun _ => none
abbrev k_l2State : List Nat := [0, 1, 2, 3, 12, 23]
abbrev o_l2State : List Nat := [1]
/-- Whether a list of lies and a greatest number of lies make a state. -/
def isSt (l : List Int) (m : Int) : Bool := decide (1 ≤ (l.length : Int)) && decide ((l.length : Int) ≤ 12) && (decide (0 ≤ m) && decide (m ≤ 2)) && l.all fun x => decide (-1 ≤ x) && decide (x ≤ m)
def c_IsState : Con := pure' fun
  | [.p (.agg [.sl 1 l_, .int .i64 m])] => if isI l_ = true ∧ ((ofI l_).length ≤ 1100000) then some (.p (.bool (isSt (ofI l_) m)), []) else none
  | _ => none
theorem any_not {α : Type} (l : List α) (q : α → Bool) : (!((l.map fun x => !q x).any id)) = l.all q := by
  induction l with
  | nil => rfl
  | cons x r ih => simp only [List.map_cons, List.any_cons, List.all_cons, id]; rw [← ih]; cases q x <;> simp
theorem s_IsState {P : Program} (hm : P.follows .mixedOrders = true) {Γ : Gam} (hΓ : GS P Γ) {n : FuncId} {f_isCount : FuncId} {f_isMost : FuncId} {f_IsState1 : FuncId} {f_ContainsFunc : FuncId} (is : Is P n (a_IsState f_isCount f_isMost f_IsState1 f_ContainsFunc)) (h_isCount : Γ f_isCount = c_isCount) (h_isMost : Γ f_isMost = c_isMost) {Γ0 : Gam} (h_ContainsFunc : Γ f_ContainsFunc = c_ContainsFunc Γ0) (h_IsState1 : Γ0 f_IsState1 = c_IsState1) : Says P n c_IsState := by
  refine Says.pure fun args r fs h => ?_
  split at h
  case h_2 => cases h
  rename_i l_ m
  split at h
  case isFalse => cases h
  rename_i hc
  obtain ⟨hl_, hc⟩ := hc
  obtain ⟨l, rfl⟩ := isI_out hl_
  simp only [ofI_ints, ofBo_bools, ofAs_asks, Option.some.injEq, Prod.mk.injEq] at h hc
  obtain ⟨rfl, rfl⟩ := h
  have hask : askF Γ0 f_IsState1 [] [.cp [.sl 1 (ints l), .int .i64 m]] (ints l) = some (l.map fun x => !(decide (-1 ≤ x) && decide (x ≤ m))) := askF_eq fun x _ => by
    rw [h_IsState1]; rfl
  by_cases h1 : decide (1 ≤ (l.length : Int)) && decide ((l.length : Int) ≤ 12)
  · by_cases h2 : decide (0 ≤ m) && decide (m ≤ 2)
    · refine is.go hm hΓ k_IsState o_IsState (by simp [a_IsState]) ?_
      simp only [a_IsState, h_isCount, c_isCount, h_isMost, c_isMost, h_ContainsFunc, c_ContainsFunc, hask, hc, h1, h2, List.zipIdx_cons, List.zipIdx_nil, ↓SP, SQ, Gam.add, stepM, callC, argC, lendO, nmBy, nmC, likeL, likeB, plainOb, offs, exL, X, F, trP, trO, stepD, stepW, newA, SV.tr, SV.trL, fz, allP, Ob.tr, loadA, cellsA, SV.cells, binA, binI, eqOut, isSl, isPt, natOf, callee, snap, SV.refsL, SV.refs, thaw, fzAll, loA, hiA, elemOf, partsA, buildA, putCells, ↓reduceIte, reduceCtorEq, okCell, Nat.reduceAdd, Nat.reduceEqDiff, Nat.reduceSub, Nat.reduceMul, Nat.reduceLeDiff, Nat.reduceLT, Nat.reduceBEq, PV.scal, PV.scalL, SV.scal, SV.scalL, Ob.scal, PV.isCell, pure', resO]
      exact finA_val (by simp only [isSt, h1, h2, Bool.true_and, ← any_not]; simp [retA, rvA, mkE_cons, mk_nil, mkO_cons, mkO_nil, loadA, SV.tr, SV.trL, nmF, rn_nil, rn_cons1, rn_cons2, plainOb, SV.refsL, SV.refs, Ob.refs, X, F, List.range_succ, mkO, setO_mk]) (by simp [SV.tr])
    · have h2' : (decide (0 ≤ m) && decide (m ≤ 2)) = false := by simpa using h2
      refine is.go hm hΓ k_IsState o_IsState (by simp [a_IsState]) ?_
      simp only [a_IsState, h_isCount, c_isCount, h_isMost, c_isMost, h_ContainsFunc, c_ContainsFunc, hask, hc, h1, h2', List.zipIdx_cons, List.zipIdx_nil, ↓SP, SQ, Gam.add, stepM, callC, argC, lendO, nmBy, nmC, likeL, likeB, plainOb, offs, exL, X, F, trP, trO, stepD, stepW, newA, SV.tr, SV.trL, fz, allP, Ob.tr, loadA, cellsA, SV.cells, binA, binI, eqOut, isSl, isPt, natOf, callee, snap, SV.refsL, SV.refs, thaw, fzAll, loA, hiA, elemOf, partsA, buildA, putCells, ↓reduceIte, reduceCtorEq, okCell, Nat.reduceAdd, Nat.reduceEqDiff, Nat.reduceSub, Nat.reduceMul, Nat.reduceLeDiff, Nat.reduceLT, Nat.reduceBEq, PV.scal, PV.scalL, SV.scal, SV.scalL, Ob.scal, PV.isCell, pure', resO]
      exact finA_val (by simp only [isSt, h1, h2', Bool.and_false, Bool.false_and]; simp [retA, rvA, mkE_cons, mk_nil, mkO_cons, mkO_nil, loadA, SV.tr, SV.trL, nmF, rn_nil, rn_cons1, rn_cons2, plainOb, SV.refsL, SV.refs, Ob.refs, X, F, List.range_succ, mkO, setO_mk]) (by simp [SV.tr])
  · have h1' : (decide (1 ≤ (l.length : Int)) && decide ((l.length : Int) ≤ 12)) = false := by simpa using h1
    refine is.go hm hΓ k_IsState o_IsState (by simp [a_IsState]) ?_
    simp only [a_IsState, h_isCount, c_isCount, h_isMost, c_isMost, h_ContainsFunc, c_ContainsFunc, hask, hc, h1', List.zipIdx_cons, List.zipIdx_nil, ↓SP, SQ, Gam.add, stepM, callC, argC, lendO, nmBy, nmC, likeL, likeB, plainOb, offs, exL, X, F, trP, trO, stepD, stepW, newA, SV.tr, SV.trL, fz, allP, Ob.tr, loadA, cellsA, SV.cells, binA, binI, eqOut, isSl, isPt, natOf, callee, snap, SV.refsL, SV.refs, thaw, fzAll, loA, hiA, elemOf, partsA, buildA, putCells, ↓reduceIte, reduceCtorEq, okCell, Nat.reduceAdd, Nat.reduceEqDiff, Nat.reduceSub, Nat.reduceMul, Nat.reduceLeDiff, Nat.reduceLT, Nat.reduceBEq, PV.scal, PV.scalL, SV.scal, SV.scalL, Ob.scal, PV.isCell, pure', resO]
    exact finA_val (by simp only [isSt, h1', Bool.false_and]; simp [retA, rvA, mkE_cons, mk_nil, mkO_cons, mkO_nil, loadA, SV.tr, SV.trL, nmF, rn_nil, rn_cons1, rn_cons2, plainOb, SV.refsL, SV.refs, Ob.refs, X, F, List.range_succ, mkO, setO_mk]) (by simp [SV.tr])
theorem s_l2State {P : Program} (hm : P.follows .mixedOrders = true) {Γ : Gam} (hΓ : GS P Γ) {n : FuncId} {f_l1In : FuncId} (is : Is P n (a_l2State f_l1In)) (h_l1In : Γ f_l1In = c_in)  : Says P n c_IsState := by
  refine Says.pure fun args r fs h => ?_
  split at h
  case h_2 => cases h
  rename_i l_ m
  split at h
  case isFalse => cases h
  rename_i hc
  obtain ⟨hl_, hc⟩ := hc
  obtain ⟨l, rfl⟩ := isI_out hl_
  simp only [ofI_ints, ofBo_bools, ofAs_asks, Option.some.injEq, Prod.mk.injEq] at h hc
  obtain ⟨rfl, rfl⟩ := h
  refine is.go hm hΓ k_l2State o_l2State (by simp [a_l2State]) ?_
  simp only [a_l2State, h_l1In, c_in, List.zipIdx_cons, List.zipIdx_nil, ↓SP, SQ, Gam.add, stepM, callC, argC, lendO, nmBy, nmC, likeL, likeB, plainOb, offs, exL, X, F, trP, trO, stepD, stepW, newA, SV.tr, SV.trL, fz, allP, Ob.tr, loadA, cellsA, SV.cells, binA, binI, eqOut, isSl, isPt, natOf, callee, snap, SV.refsL, SV.refs, thaw, fzAll, loA, hiA, elemOf, partsA, buildA, putCells, ↓reduceIte, reduceCtorEq, okCell, Nat.reduceAdd, Nat.reduceEqDiff, Nat.reduceSub, Nat.reduceMul, Nat.reduceLeDiff, Nat.reduceLT, Nat.reduceBEq, PV.scal, PV.scalL, SV.scal, SV.scalL, Ob.scal, PV.isCell, pure', resO]
  refine loop_at (fun s : Nat × SV × SV => mkEnv [(0, .p (.agg [.sl 1 (ints l), .int .i64 m])), (1, .bx 1 0), (2, sb false), (3, si s.1), (12, s.2.1), (23, s.2.2)]) (fun s => mkO [(1, some (.box [.p (.sl 1 (ints l)), si m]))]) (fun s => s.1 ≤ l.length ∧ s.1 ≤ 13 ∧ ∀ j, j < s.1 → (decide (-1 ≤ l.getD j 0) && decide (l.getD j 0 ≤ m)) = true) (fun s => l.length - s.1) (0, .junk, .junk) (by simp) rfl rfl ?_
  rintro ⟨i, c1, c2⟩ ⟨hi, hi2, hp⟩ R hR hN
  simp only at hi hi2 hp
  by_cases h : i < l.length
  · have h1 : (i : Int) < l.length := by omega
    have hw := wrap_one (i := i) (by omega)
    have hg := ints_get h
    by_cases h2 : i ≤ 12
    · have h2' : (i : Int) ≤ 12 := by omega
      by_cases hq : (decide (-1 ≤ l.getD i 0) && decide (l.getD i 0 ≤ m)) = true
      · simp only [h1, h2', hw, hg, hq, h_l1In, c_in, ↓SP, SQ, Gam.add, stepM, callC, argC, lendO, nmBy, nmC, likeL, likeB, plainOb, offs, exL, X, F, trP, trO, stepD, stepW, newA, SV.tr, SV.trL, fz, allP, Ob.tr, loadA, cellsA, SV.cells, binA, binI, eqOut, isSl, isPt, natOf, callee, snap, SV.refsL, SV.refs, thaw, fzAll, loA, hiA, elemOf, partsA, buildA, putCells, ↓reduceIte, reduceCtorEq, okCell, Nat.reduceAdd, Nat.reduceEqDiff, Nat.reduceSub, Nat.reduceMul, Nat.reduceLeDiff, Nat.reduceLT, Nat.reduceBEq, PV.scal, PV.scalL, SV.scal, SV.scalL, Ob.scal, PV.isCell, pure', resO]
        refine hN (i + 1, _, _) _ _ ⟨by simp only; omega, by simp only; omega, fun j hj => ?_⟩ (by simp only; omega) rfl rfl
        simp only at hj
        by_cases hji : j = i
        · rw [hji]; exact hq
        · exact hp j (by omega)
      · have hq' : (decide (-1 ≤ l.getD i 0) && decide (l.getD i 0 ≤ m)) = false := by simpa using hq
        simp only [h1, h2', hw, hg, hq', h_l1In, c_in, ↓SP, SQ, Gam.add, stepM, callC, argC, lendO, nmBy, nmC, likeL, likeB, plainOb, offs, exL, X, F, trP, trO, stepD, stepW, newA, SV.tr, SV.trL, fz, allP, Ob.tr, loadA, cellsA, SV.cells, binA, binI, eqOut, isSl, isPt, natOf, callee, snap, SV.refsL, SV.refs, thaw, fzAll, loA, hiA, elemOf, partsA, buildA, putCells, ↓reduceIte, reduceCtorEq, okCell, Nat.reduceAdd, Nat.reduceEqDiff, Nat.reduceSub, Nat.reduceMul, Nat.reduceLeDiff, Nat.reduceLT, Nat.reduceBEq, PV.scal, PV.scalL, SV.scal, SV.scalL, Ob.scal, PV.isCell, pure', resO]
        refine hR _ _ _ (by intro h; cases h) ?_
        simp only [↓SP, SQ, Gam.add, stepM, callC, argC, lendO, nmBy, nmC, likeL, likeB, plainOb, offs, exL, X, F, trP, trO, stepD, stepW, newA, SV.tr, SV.trL, fz, allP, Ob.tr, loadA, cellsA, SV.cells, binA, binI, eqOut, isSl, isPt, natOf, callee, snap, SV.refsL, SV.refs, thaw, fzAll, loA, hiA, elemOf, partsA, buildA, putCells, ↓reduceIte, reduceCtorEq, okCell, Nat.reduceAdd, Nat.reduceEqDiff, Nat.reduceSub, Nat.reduceMul, Nat.reduceLeDiff, Nat.reduceLT, Nat.reduceBEq, PV.scal, PV.scalL, SV.scal, SV.scalL, Ob.scal, PV.isCell, pure', resO]
        have hst : isSt l m = false := by
          have : (l.all fun x => decide (-1 ≤ x) && decide (x ≤ m)) = false := by
            rw [Bool.eq_false_iff]; intro e
            have := List.all_eq_true.1 e (l.getD i 0) (by rw [getD_lt h]; exact List.getElem_mem h)
            rw [hq'] at this; cases this
          simp [isSt, this]
        exact finA_val (by simp [hst, retA, rvA, mkE_cons, mk_nil, mkO_cons, mkO_nil, loadA, SV.tr, SV.trL, nmF, rn_nil, rn_cons1, rn_cons2, plainOb, SV.refsL, SV.refs, Ob.refs, X, F, List.range_succ, mkO, setO_mk]) (by simp [SV.tr, SV.trL])
    · have h2' : ¬ (i : Int) ≤ 12 := by omega
      have h3 : decide ((l.length : Int) ≤ 12) = false := by simp; omega
      simp only [h1, h2', h3, ↓SP, SQ, Gam.add, stepM, callC, argC, lendO, nmBy, nmC, likeL, likeB, plainOb, offs, exL, X, F, trP, trO, stepD, stepW, newA, SV.tr, SV.trL, fz, allP, Ob.tr, loadA, cellsA, SV.cells, binA, binI, eqOut, isSl, isPt, natOf, callee, snap, SV.refsL, SV.refs, thaw, fzAll, loA, hiA, elemOf, partsA, buildA, putCells, ↓reduceIte, reduceCtorEq, okCell, Nat.reduceAdd, Nat.reduceEqDiff, Nat.reduceSub, Nat.reduceMul, Nat.reduceLeDiff, Nat.reduceLT, Nat.reduceBEq, PV.scal, PV.scalL, SV.scal, SV.scalL, Ob.scal, PV.isCell, pure', resO]
      refine hR _ _ _ (by intro h; cases h) ?_
      simp only [h_l1In, c_in, h3, ↓SP, SQ, Gam.add, stepM, callC, argC, lendO, nmBy, nmC, likeL, likeB, plainOb, offs, exL, X, F, trP, trO, stepD, stepW, newA, SV.tr, SV.trL, fz, allP, Ob.tr, loadA, cellsA, SV.cells, binA, binI, eqOut, isSl, isPt, natOf, callee, snap, SV.refsL, SV.refs, thaw, fzAll, loA, hiA, elemOf, partsA, buildA, putCells, ↓reduceIte, reduceCtorEq, okCell, Nat.reduceAdd, Nat.reduceEqDiff, Nat.reduceSub, Nat.reduceMul, Nat.reduceLeDiff, Nat.reduceLT, Nat.reduceBEq, PV.scal, PV.scalL, SV.scal, SV.scalL, Ob.scal, PV.isCell, pure', resO]
      exact finA_val (by simp [isSt, h3, retA, rvA, mkE_cons, mk_nil, mkO_cons, mkO_nil, loadA, SV.tr, SV.trL, nmF, rn_nil, rn_cons1, rn_cons2, plainOb, SV.refsL, SV.refs, Ob.refs, X, F, List.range_succ, mkO, setO_mk]) (by simp [SV.tr, SV.trL])
  · have he : i = l.length := by omega
    have h1 : ¬ (i : Int) < l.length := by omega
    have hall : (l.all fun x => decide (-1 ≤ x) && decide (x ≤ m)) = true := by
      rw [List.all_eq_true]; intro x hx
      obtain ⟨j, hj, e⟩ := List.getElem_of_mem hx
      have := hp j (by omega)
      rwa [getD_lt hj, e] at this
    simp only [h1, ↓SP, SQ, Gam.add, stepM, callC, argC, lendO, nmBy, nmC, likeL, likeB, plainOb, offs, exL, X, F, trP, trO, stepD, stepW, newA, SV.tr, SV.trL, fz, allP, Ob.tr, loadA, cellsA, SV.cells, binA, binI, eqOut, isSl, isPt, natOf, callee, snap, SV.refsL, SV.refs, thaw, fzAll, loA, hiA, elemOf, partsA, buildA, putCells, ↓reduceIte, reduceCtorEq, okCell, Nat.reduceAdd, Nat.reduceEqDiff, Nat.reduceSub, Nat.reduceMul, Nat.reduceLeDiff, Nat.reduceLT, Nat.reduceBEq, PV.scal, PV.scalL, SV.scal, SV.scalL, Ob.scal, PV.isCell, pure', resO]
    refine hR _ _ _ (by intro h; cases h) ?_
    by_cases g1 : decide (1 ≤ (l.length : Int)) && decide ((l.length : Int) ≤ 12)
    · simp only [h_l1In, c_in, g1, ↓SP, SQ, Gam.add, stepM, callC, argC, lendO, nmBy, nmC, likeL, likeB, plainOb, offs, exL, X, F, trP, trO, stepD, stepW, newA, SV.tr, SV.trL, fz, allP, Ob.tr, loadA, cellsA, SV.cells, binA, binI, eqOut, isSl, isPt, natOf, callee, snap, SV.refsL, SV.refs, thaw, fzAll, loA, hiA, elemOf, partsA, buildA, putCells, ↓reduceIte, reduceCtorEq, okCell, Nat.reduceAdd, Nat.reduceEqDiff, Nat.reduceSub, Nat.reduceMul, Nat.reduceLeDiff, Nat.reduceLT, Nat.reduceBEq, PV.scal, PV.scalL, SV.scal, SV.scalL, Ob.scal, PV.isCell, pure', resO]
      exact finA_val (by simp only [isSt, g1, hall, Bool.true_and, Bool.and_true]; simp [retA, rvA, mkE_cons, mk_nil, mkO_cons, mkO_nil, loadA, SV.tr, SV.trL, nmF, rn_nil, rn_cons1, rn_cons2, plainOb, SV.refsL, SV.refs, Ob.refs, X, F, List.range_succ, mkO, setO_mk]) (by simp [SV.tr])
    · have g1' : (decide (1 ≤ (l.length : Int)) && decide ((l.length : Int) ≤ 12)) = false := by simpa using g1
      simp only [h_l1In, c_in, g1', ↓SP, SQ, Gam.add, stepM, callC, argC, lendO, nmBy, nmC, likeL, likeB, plainOb, offs, exL, X, F, trP, trO, stepD, stepW, newA, SV.tr, SV.trL, fz, allP, Ob.tr, loadA, cellsA, SV.cells, binA, binI, eqOut, isSl, isPt, natOf, callee, snap, SV.refsL, SV.refs, thaw, fzAll, loA, hiA, elemOf, partsA, buildA, putCells, ↓reduceIte, reduceCtorEq, okCell, Nat.reduceAdd, Nat.reduceEqDiff, Nat.reduceSub, Nat.reduceMul, Nat.reduceLeDiff, Nat.reduceLT, Nat.reduceBEq, PV.scal, PV.scalL, SV.scal, SV.scalL, Ob.scal, PV.isCell, pure', resO]
      exact finA_val (by simp only [isSt, g1', Bool.false_and]; simp [retA, rvA, mkE_cons, mk_nil, mkO_cons, mkO_nil, loadA, SV.tr, SV.trL, nmF, rn_nil, rn_cons1, rn_cons2, plainOb, SV.refsL, SV.refs, Ob.refs, X, F, List.range_succ, mkO, setO_mk]) (by simp [SV.tr])

/-- What a number's lies become behind an answer that is false for it. -/
def afterF (f : Nat → Bool) (m : Int) (l : List Int) (i : Nat) : Int := if 0 ≤ l.getD i 0 ∧ f i = true then (if m < l.getD i 0 + 1 then -1 else l.getD i 0 + 1) else l.getD i 0
def afterL (f : Nat → Bool) (m : Int) (l : List Int) : List Int := (List.range l.length).map (afterF f m l)
theorem afterL_len (f : Nat → Bool) (m : Int) (l : List Int) : (afterL f m l).length = l.length := by simp [afterL]
/-- The numbers from 0 on. -/
def upto (n : Nat) : List PV := ints ((List.range n).map fun i : Nat => (i : Int))
theorem upto_get {n i : Nat} (h : i < n) : (upto n)[i]? = some (.int .i64 i) := by
  simp [upto, ints, h]
theorem upto_len (n : Nat) : (upto n).length = n := by simp [upto, ints]
def a_after (f_Clone : FuncId) : AFn := ⟨2, 
  .seq (.reg [⟨some 2, none, .w (.box 2 (.t 0))⟩,
    ⟨some 4, none, .w (.alloc [.nilsl, .int .i64 0])⟩])
  (.seq (.dreg [10, 5] [([10, 5], ⟨some 8, none, .d (.fa 0 (.t 2))⟩),
    ([10, 5], ⟨some 9, none, .d (.load false 1 (.t 8))⟩),
    ([5], ⟨some 10, none, .w (.callL (.f f_Clone) [(.t 9)] [] 1 false)⟩),
    ([10, 5], ⟨some 11, none, .d (.fa 1 (.t 2))⟩),
    ([10, 5], ⟨some 12, none, .d (.load false 1 (.t 11))⟩),
    ([5], ⟨some 13, none, .d (.build [.nilsl, .int .i64 0] [(0, 1, (.t 10)), (1, 1, (.t 12))])⟩),
    ([10], ⟨some 5, none, .w (.alloc [.nilsl, .int .i64 0])⟩)] [⟨none, none, .w (.store 2 (.t 5) (.t 13))⟩])
  (.seq (.seq (.reg [⟨some 14, none, .d (.fa 0 (.t 5))⟩,
    ⟨some 15, none, .d (.load false 1 (.t 14))⟩,
    ⟨some 16, none, .d (.len (.t 15))⟩,
    ⟨some 17, none, .d (.mv (.c (.int .i64 0)))⟩])
  (.block 0 (.loop (.seq (.reg [⟨some 18, none, .d (.bin .arith .lss (.t 17) (.t 16))⟩])
    (.seq (.cond (.t 18) (.skip) (.exit 0))
    (.seq (.block 1 (.seq (.reg [⟨some 19, none, .d (.mv (.t 17))⟩,
       ⟨some 20, none, .d (.ia 1 (.t 15) (.t 17))⟩,
       ⟨some 21, none, .d (.load false 1 (.t 20))⟩,
       ⟨some 6, none, .d (.mv (.t 19))⟩,
       ⟨some 7, none, .d (.mv (.t 21))⟩])
     (.seq (.reg [⟨some 22, none, .d (.mv (.t 7))⟩,
       ⟨some 23, none, .d (.bin .arith .geq (.t 22) (.c (.int .i64 0)))⟩,
       ⟨some 24, none, .d (.mv (.t 23))⟩,
       ⟨some 25, some (24, true), .d (.mv (.t 1))⟩,
       ⟨some 26, some (24, true), .d (.mv (.t 6))⟩,
       ⟨some 27, some (24, true), .d (.call (.t 25) [(.t 26)])⟩,
       ⟨some 28, none, .d (.pick (.t 24) (.t 27) (.c (.bool false)))⟩])
     (.cond (.t 28) (.seq (.reg [⟨some 29, none, .d (.fa 0 (.t 5))⟩,
        ⟨some 30, none, .d (.load false 1 (.t 29))⟩,
        ⟨some 31, none, .d (.mv (.t 6))⟩,
        ⟨some 32, none, .d (.ia 1 (.t 30) (.t 31))⟩,
        ⟨some 33, none, .d (.load false 1 (.t 32))⟩,
        ⟨some 34, none, .d (.bin .arith .add (.t 33) (.c (.int .i64 1)))⟩,
        ⟨some 35, none, .d (.ia 1 (.t 30) (.t 31))⟩,
        ⟨none, none, .w (.store 1 (.t 35) (.t 34))⟩])
      (.seq (.dreg [] [([], ⟨some 36, none, .d (.fa 0 (.t 5))⟩),
        ([], ⟨some 37, none, .d (.load false 1 (.t 36))⟩),
        ([], ⟨some 38, none, .d (.mv (.t 6))⟩),
        ([], ⟨some 39, none, .d (.ia 1 (.t 37) (.t 38))⟩),
        ([], ⟨some 40, none, .d (.load false 1 (.t 39))⟩),
        ([], ⟨some 41, none, .d (.fa 1 (.t 2))⟩),
        ([], ⟨some 42, none, .d (.load false 1 (.t 41))⟩)] [⟨some 43, none, .d (.bin .arith .gtr (.t 40) (.t 42))⟩])
      (.cond (.t 43) (.reg [⟨some 44, none, .d (.fa 0 (.t 5))⟩,
         ⟨some 45, none, .d (.load false 1 (.t 44))⟩,
         ⟨some 46, none, .d (.mv (.t 6))⟩,
         ⟨some 47, none, .d (.ia 1 (.t 45) (.t 46))⟩,
         ⟨none, none, .w (.store 1 (.t 47) (.c (.int .i64 (-1))))⟩]) (.skip)))) (.skip)))))
    (.reg [⟨some 48, none, .d (.bin .arith .add (.t 17) (.c (.int .i64 1)))⟩,
      ⟨some 17, none, .d (.mv (.t 48))⟩])))))))
  (.seq (.reg [⟨some 49, none, .d (.load true 2 (.t 5))⟩,
    ⟨none, none, .w (.store 2 (.t 4) (.t 49))⟩])
  (.ret)))), [.cell 4 2 true]⟩
def n_after : Nat → Option Ann := fun d => if d = 10 then some ⟨[], 1, false⟩ else none
abbrev k_after : List Nat := [0, 1, 2, 4, 5, 6, 7, 15, 16, 17, 18, 28, 43]
abbrev o_after : List Nat := [2, 4, 5, 10]
def c_after (Γ0 : Gam) : Con := pure' fun
  | [.p (.agg [.sl 1 xs, .int .i64 m]), .p (.fn g a b)] => if isI xs = true ∧ xs.length ≤ 1100000 ∧ ((ofI xs).all fun x => decide (x ≤ 1000)) = true then (match askF Γ0 g a b (upto xs.length) with
    | some bs => some (.ag [.ar 2000000, .p (.int .i64 m)], [.arr 1 (ints (afterL (fun i => bs.getD i false) m (ofI xs)))])
    | none => none) else none
  | _ => none
theorem dec_t {p : Prop} [Decidable p] (h : p) : decide p = true := by simpa using h
theorem dec_f {p : Prop} [Decidable p] (h : ¬ p) : decide p = false := by simpa using h
theorem s_after {P : Program} (hm : P.follows .mixedOrders = true) {Γ : Gam} (hΓ : GS P Γ) {n : FuncId} {f_Clone : FuncId} (is : Is P n (a_after f_Clone)) (h_Clone : Γ f_Clone = c_Clone)  : Says P n (c_after Γ) := by
  refine Says.pure fun args r fs h => ?_
  split at h
  case h_2 => cases h
  rename_i xs m g a b
  split at h
  case isFalse => cases h
  rename_i hc
  obtain ⟨hx, hlen, hsm⟩ := hc
  obtain ⟨l, rfl⟩ := isI_out hx
  rw [ints_len] at hlen
  rw [ofI_ints] at hsm
  split at h
  case h_2 => cases h
  rename_i bs hbs
  simp only [Option.some.injEq, Prod.mk.injEq, ofI_ints] at h
  obtain ⟨rfl, rfl⟩ := h
  rw [ints_len] at hbs
  generalize hf : (fun i => bs.getD i false) = f
  have hbl := askF_len hbs
  rw [upto_len] at hbl
  refine is.go hm hΓ k_after o_after (by simp [a_after]) ?_
  simp only [a_after, h_Clone, c_Clone, hlen, List.zipIdx_cons, List.zipIdx_nil, ↓SP, SQ, Gam.add, stepM, callC, argC, lendO, nmBy, nmC, likeL, likeB, plainOb, offs, exL, X, F, trP, trO, stepD, stepW, newA, SV.tr, SV.trL, fz, allP, Ob.tr, loadA, cellsA, SV.cells, binA, binI, eqOut, isSl, isPt, natOf, callee, snap, SV.refsL, SV.refs, thaw, fzAll, loA, hiA, elemOf, partsA, buildA, putCells, ↓reduceIte, reduceCtorEq, okCell, Nat.reduceAdd, Nat.reduceEqDiff, Nat.reduceSub, Nat.reduceMul, Nat.reduceLeDiff, Nat.reduceLT, Nat.reduceBEq, PV.scal, PV.scalL, SV.scal, SV.scalL, Ob.scal, PV.isCell, pure', resO]
  refine loop_at (fun s : Nat × SV × SV × SV × SV × SV => mkEnv [(0, .p (.agg [.sl 1 (ints l), .int .i64 m])), (1, .p (.fn g a b)), (2, .bx 2 0), (4, .bx 4 0), (5, .bx 5 0), (6, s.2.1), (7, s.2.2.1), (15, .ar 10), (16, si l.length), (17, si s.1), (18, s.2.2.2.1), (28, s.2.2.2.2.1), (43, s.2.2.2.2.2)]) (fun s => mkO [(2, some (.box [.p (.sl 1 (ints l)), si m])), (4, some (.box [.p .nilsl, si 0])), (5, some (.box [.ar 10, si m])), (10, some (.arr 1 (ints (fillL (afterF f m l) l s.1))))]) (fun s => s.1 ≤ l.length) (fun s => l.length - s.1) (0, .junk, .junk, .junk, .junk, .junk) (by simp) rfl (by simp only [fill_0]) ?_
  rintro ⟨i, c1, c2, c3, c4, c5⟩ hi R hR hN
  simp only at hi
  have hfl := fill_len (afterF f m l) l hi
  by_cases h : i < l.length
  · have h1 : (i : Int) < l.length := by omega
    have hw := wrap_one (i := i) (by omega)
    have hg : (ints (fillL (afterF f m l) l i))[i]? = some (.int .i64 (l.getD i 0)) := by rw [ints_get (by omega), fill_get _ _ _ h]
    have hq := askF_get hbs (upto_get h)
    have hxs : l.getD i 0 ≤ 1000 := by
      have := List.all_eq_true.1 hsm (l.getD i 0) (by rw [getD_lt h]; exact List.getElem_mem h)
      simpa using this
    have hfi : bs.getD i false = f i := by rw [← hf]
    rw [hfi] at hq
    by_cases hx0 : 0 ≤ l.getD i 0
    · cases hb : f i with
      | false =>
        rw [hb] at hq
        have hs : fillL (afterF f m l) l (i + 1) = fillL (afterF f m l) l i := fill_same _ _ 0 h (by simp [afterF, hb])
        simp only [h1, hw, hg, hfl, h, call_ps, refs_ps, hq, hx0, ↓SP, SQ, Gam.add, stepM, callC, argC, lendO, nmBy, nmC, likeL, likeB, plainOb, offs, exL, X, F, trP, trO, stepD, stepW, newA, SV.tr, SV.trL, fz, allP, Ob.tr, loadA, cellsA, SV.cells, binA, binI, eqOut, isSl, isPt, natOf, callee, snap, SV.refsL, SV.refs, thaw, fzAll, loA, hiA, elemOf, partsA, buildA, putCells, ↓reduceIte, reduceCtorEq, okCell, Nat.reduceAdd, Nat.reduceEqDiff, Nat.reduceSub, Nat.reduceMul, Nat.reduceLeDiff, Nat.reduceLT, Nat.reduceBEq, PV.scal, PV.scalL, SV.scal, SV.scalL, Ob.scal, PV.isCell, pure', resO]
        rw [← hs]
        exact hN (i + 1, _, _, _, _, _) _ _ (by simp only; omega) (by simp only; omega) rfl rfl
      | true =>
        rw [hb] at hq
        have hwx : IntKind.i64.wrap (l.getD i 0 + 1) = l.getD i 0 + 1 := wrap64 (by omega) (by omega)
        have hlt : i < (fillL (afterF f m l) l i).length := by omega
        have hg2 : (ints ((fillL (afterF f m l) l i).set i (l.getD i 0 + 1)))[i]? = some (.int .i64 (l.getD i 0 + 1)) := by
          rw [ints_get (by simpa using hlt), getD_lt (by simpa using hlt)]; simp
        by_cases hm1 : m < l.getD i 0 + 1
        · have hs : ((fillL (afterF f m l) l i).set i (l.getD i 0 + 1)).set i (-1) = fillL (afterF f m l) l (i + 1) := by
            rw [List.set_set]; exact fill_set _ _ h (by simp only [afterF, hx0, hb, hm1, and_self, if_true])
          simp only [h1, hw, hg, hfl, h, call_ps, refs_ps, hq, hx0, hwx, ints_set, hg2, hm1, List.length_set, hs, ↓SP, SQ, Gam.add, stepM, callC, argC, lendO, nmBy, nmC, likeL, likeB, plainOb, offs, exL, X, F, trP, trO, stepD, stepW, newA, SV.tr, SV.trL, fz, allP, Ob.tr, loadA, cellsA, SV.cells, binA, binI, eqOut, isSl, isPt, natOf, callee, snap, SV.refsL, SV.refs, thaw, fzAll, loA, hiA, elemOf, partsA, buildA, putCells, ↓reduceIte, reduceCtorEq, okCell, Nat.reduceAdd, Nat.reduceEqDiff, Nat.reduceSub, Nat.reduceMul, Nat.reduceLeDiff, Nat.reduceLT, Nat.reduceBEq, PV.scal, PV.scalL, SV.scal, SV.scalL, Ob.scal, PV.isCell, pure', resO]
          exact hN (i + 1, _, _, _, _, _) _ _ (by simp only; omega) (by simp only; omega) rfl rfl
        · have hs : (fillL (afterF f m l) l i).set i (l.getD i 0 + 1) = fillL (afterF f m l) l (i + 1) := fill_set _ _ h (by simp only [afterF, hx0, hb, hm1, and_self, if_true, if_false])
          rw [hs] at hg2
          have hfl2 := fill_len (afterF f m l) l (i := i + 1) (by omega)
          simp only [h1, hw, hg, hfl, h, call_ps, refs_ps, hq, hx0, hwx, ints_set, hg2, hm1, hs, hfl2, ↓SP, SQ, Gam.add, stepM, callC, argC, lendO, nmBy, nmC, likeL, likeB, plainOb, offs, exL, X, F, trP, trO, stepD, stepW, newA, SV.tr, SV.trL, fz, allP, Ob.tr, loadA, cellsA, SV.cells, binA, binI, eqOut, isSl, isPt, natOf, callee, snap, SV.refsL, SV.refs, thaw, fzAll, loA, hiA, elemOf, partsA, buildA, putCells, ↓reduceIte, reduceCtorEq, okCell, Nat.reduceAdd, Nat.reduceEqDiff, Nat.reduceSub, Nat.reduceMul, Nat.reduceLeDiff, Nat.reduceLT, Nat.reduceBEq, PV.scal, PV.scalL, SV.scal, SV.scalL, Ob.scal, PV.isCell, pure', resO]
          exact hN (i + 1, _, _, _, _, _) _ _ (by simp only; omega) (by simp only; omega) rfl rfl
    · have hs : fillL (afterF f m l) l (i + 1) = fillL (afterF f m l) l i := fill_same _ _ 0 h (by simp only [afterF, hx0, false_and, if_false])
      simp only [h1, hw, hg, hfl, h, hx0, ↓SP, SQ, Gam.add, stepM, callC, argC, lendO, nmBy, nmC, likeL, likeB, plainOb, offs, exL, X, F, trP, trO, stepD, stepW, newA, SV.tr, SV.trL, fz, allP, Ob.tr, loadA, cellsA, SV.cells, binA, binI, eqOut, isSl, isPt, natOf, callee, snap, SV.refsL, SV.refs, thaw, fzAll, loA, hiA, elemOf, partsA, buildA, putCells, ↓reduceIte, reduceCtorEq, okCell, Nat.reduceAdd, Nat.reduceEqDiff, Nat.reduceSub, Nat.reduceMul, Nat.reduceLeDiff, Nat.reduceLT, Nat.reduceBEq, PV.scal, PV.scalL, SV.scal, SV.scalL, Ob.scal, PV.isCell, pure', resO]
      rw [← hs]
      exact hN (i + 1, _, _, _, _, _) _ _ (by simp only; omega) (by simp only; omega) rfl rfl
  · have he : i = l.length := by omega
    have h1 : ¬ (i : Int) < l.length := by omega
    simp only [h1, ↓SP, SQ, Gam.add, stepM, callC, argC, lendO, nmBy, nmC, likeL, likeB, plainOb, offs, exL, X, F, trP, trO, stepD, stepW, newA, SV.tr, SV.trL, fz, allP, Ob.tr, loadA, cellsA, SV.cells, binA, binI, eqOut, isSl, isPt, natOf, callee, snap, SV.refsL, SV.refs, thaw, fzAll, loA, hiA, elemOf, partsA, buildA, putCells, ↓reduceIte, reduceCtorEq, okCell, Nat.reduceAdd, Nat.reduceEqDiff, Nat.reduceSub, Nat.reduceMul, Nat.reduceLeDiff, Nat.reduceLT, Nat.reduceBEq, PV.scal, PV.scalL, SV.scal, SV.scalL, Ob.scal, PV.isCell, pure', resO]
    refine hR _ _ _ (by intro h; cases h) ?_
    simp only [↓SP, SQ, Gam.add, stepM, callC, argC, lendO, nmBy, nmC, likeL, likeB, plainOb, offs, exL, X, F, trP, trO, stepD, stepW, newA, SV.tr, SV.trL, fz, allP, Ob.tr, loadA, cellsA, SV.cells, binA, binI, eqOut, isSl, isPt, natOf, callee, snap, SV.refsL, SV.refs, thaw, fzAll, loA, hiA, elemOf, partsA, buildA, putCells, ↓reduceIte, reduceCtorEq, okCell, Nat.reduceAdd, Nat.reduceEqDiff, Nat.reduceSub, Nat.reduceMul, Nat.reduceLeDiff, Nat.reduceLT, Nat.reduceBEq, PV.scal, PV.scalL, SV.scal, SV.scalL, Ob.scal, PV.isCell, pure', resO]
    subst he
    have hfe := fill_end (afterF f m l) l
    refine finA_gen [10] trivial (by simp [retA, rvA, mkE_cons, mk_nil, mkO_cons, mkO_nil, loadA, SV.tr, SV.trL, nmF, rn_nil, rn_cons1, rn_cons2, plainOb, SV.refsL, SV.refs, Ob.refs, X, F, List.range_succ, mkO, setO_mk]; rfl) ?_ ?_ ?_ ?_ ?_ ?_ ?_ <;> simp [hfe, afterL, retA, rvA, mkE_cons, mk_nil, mkO_cons, mkO_nil, loadA, SV.tr, SV.trL, nmF, rn_nil, rn_cons1, rn_cons2, plainOb, SV.refsL, SV.refs, Ob.refs, X, F, List.range_succ, mkO, setO_mk]
def a_l2After (f_l1Own : FuncId) (f_l2False : FuncId) : AFn := ⟨3, 
  .seq (.reg [⟨some 3, none, .w (.box 2 (.t 0))⟩,
    ⟨some 6, none, .w (.alloc [.nilsl, .int .i64 0])⟩])
  (.seq (.dreg [11, 7] [([11, 7], ⟨some 9, none, .d (.fa 0 (.t 3))⟩),
    ([11, 7], ⟨some 10, none, .d (.load false 1 (.t 9))⟩),
    ([7], ⟨some 11, none, .w (.callL (.f f_l1Own) [(.t 10)] [] 1 false)⟩),
    ([11, 7], ⟨some 12, none, .d (.fa 1 (.t 3))⟩),
    ([11, 7], ⟨some 13, none, .d (.load false 1 (.t 12))⟩),
    ([7], ⟨some 14, none, .d (.build [.nilsl, .int .i64 0] [(0, 1, (.t 11)), (1, 1, (.t 13))])⟩),
    ([11], ⟨some 7, none, .w (.alloc [.nilsl, .int .i64 0])⟩)] [⟨none, none, .w (.store 2 (.t 7) (.t 14))⟩])
  (.seq (.seq (.reg [⟨some 8, none, .d (.mv (.c (.int .i64 0)))⟩])
  (.block 0 (.loop (.seq (.seq (.reg [⟨some 15, none, .d (.mv (.t 8))⟩,
      ⟨some 16, none, .d (.fa 0 (.t 7))⟩,
      ⟨some 17, none, .d (.load false 1 (.t 16))⟩,
      ⟨some 18, none, .d (.len (.t 17))⟩,
      ⟨some 19, none, .d (.bin .arith .lss (.t 15) (.t 18))⟩])
    (.cond (.t 19) (.skip) (.exit 0)))
    (.seq (.block 1 (.seq (.reg [⟨some 22, none, .d (.fa 0 (.t 7))⟩,
       ⟨some 23, none, .d (.load false 1 (.t 22))⟩,
       ⟨some 24, none, .d (.mv (.t 8))⟩,
       ⟨some 25, none, .d (.ia 1 (.t 23) (.t 24))⟩,
       ⟨some 26, none, .d (.load false 1 (.t 25))⟩,
       ⟨some 27, none, .d (.bin .arith .geq (.t 26) (.c (.int .i64 0)))⟩,
       ⟨some 28, none, .d (.mv (.t 27))⟩,
       ⟨some 29, some (28, true), .d (.mv (.t 1))⟩,
       ⟨some 30, some (28, true), .d (.mv (.t 2))⟩,
       ⟨some 31, some (28, true), .d (.mv (.t 8))⟩,
       ⟨some 32, some (28, true), .d (.call (.f f_l2False) [(.t 29), (.t 30), (.t 31)])⟩,
       ⟨some 33, none, .d (.pick (.t 28) (.t 32) (.c (.bool false)))⟩])
     (.cond (.t 33) (.seq (.reg [⟨some 34, none, .d (.fa 0 (.t 7))⟩,
        ⟨some 35, none, .d (.load false 1 (.t 34))⟩,
        ⟨some 36, none, .d (.mv (.t 8))⟩,
        ⟨some 37, none, .d (.ia 1 (.t 35) (.t 36))⟩,
        ⟨some 38, none, .d (.load false 1 (.t 37))⟩,
        ⟨some 39, none, .d (.bin .arith .add (.t 38) (.c (.int .i64 1)))⟩,
        ⟨some 40, none, .d (.ia 1 (.t 35) (.t 36))⟩,
        ⟨none, none, .w (.store 1 (.t 40) (.t 39))⟩])
      (.seq (.dreg [] [([], ⟨some 41, none, .d (.fa 0 (.t 7))⟩),
        ([], ⟨some 42, none, .d (.load false 1 (.t 41))⟩),
        ([], ⟨some 43, none, .d (.mv (.t 8))⟩),
        ([], ⟨some 44, none, .d (.ia 1 (.t 42) (.t 43))⟩),
        ([], ⟨some 45, none, .d (.load false 1 (.t 44))⟩),
        ([], ⟨some 46, none, .d (.fa 1 (.t 3))⟩),
        ([], ⟨some 47, none, .d (.load false 1 (.t 46))⟩)] [⟨some 48, none, .d (.bin .arith .gtr (.t 45) (.t 47))⟩])
      (.cond (.t 48) (.reg [⟨some 49, none, .d (.fa 0 (.t 7))⟩,
         ⟨some 50, none, .d (.load false 1 (.t 49))⟩,
         ⟨some 51, none, .d (.mv (.t 8))⟩,
         ⟨some 52, none, .d (.ia 1 (.t 50) (.t 51))⟩,
         ⟨none, none, .w (.store 1 (.t 52) (.c (.int .i64 (-1))))⟩]) (.skip)))) (.skip))))
    (.reg [⟨some 20, none, .d (.mv (.t 8))⟩,
      ⟨some 21, none, .d (.bin .arith .add (.t 20) (.c (.int .i64 1)))⟩,
      ⟨some 8, none, .d (.mv (.t 21))⟩]))))))
  (.seq (.reg [⟨some 53, none, .d (.load true 2 (.t 7))⟩,
    ⟨none, none, .w (.store 2 (.t 6) (.t 53))⟩])
  (.ret)))), [.cell 6 2 true]⟩
def n_l2After : Nat → Option Ann := fun d => if d = 11 then some ⟨[], 1, false⟩ else none
abbrev k_l2After : List Nat := [0, 1, 2, 3, 6, 7, 8, 19, 33, 48]
abbrev o_l2After : List Nat := [3, 6, 7, 11]
def c_l2After : Con := pure' fun
  | [.p (.agg [.sl 1 l_, .int .i64 m]), .p (.int .i64 q), .p (.bool y)] => if isI l_ = true ∧ ((ofI l_).length ≤ 1100000 ∧ ((ofI l_).all fun x => decide (x ≤ 1000)) = true) then some (.ag [.ar 2000000, .p (.int .i64 m)], [.arr 1 (ints (afterL (fun i => (bitW q i == 1) != y) m (ofI l_)))]) else none
  | _ => none
theorem s_l2After {P : Program} (hm : P.follows .mixedOrders = true) {Γ : Gam} (hΓ : GS P Γ) {n : FuncId} {f_l1Own : FuncId} {f_l2False : FuncId} (is : Is P n (a_l2After f_l1Own f_l2False)) (h_l1Own : Γ f_l1Own = c_Clone) (h_l2False : Γ f_l2False = c_l2False)  : Says P n c_l2After := by
  refine Says.pure fun args r fs h => ?_
  split at h
  case h_2 => cases h
  rename_i l_ m q y
  split at h
  case isFalse => cases h
  rename_i hc
  obtain ⟨hl_, hc⟩ := hc
  obtain ⟨l, rfl⟩ := isI_out hl_
  simp only [ofI_ints, ofBo_bools, ofAs_asks, Option.some.injEq, Prod.mk.injEq] at h hc
  obtain ⟨rfl, rfl⟩ := h
  obtain ⟨hlen, hsm⟩ := hc
  generalize hf : (fun i : Nat => (bitW q i == 1) != y) = f
  refine is.go hm hΓ k_l2After o_l2After (by simp [a_l2After]) ?_
  simp only [a_l2After, h_l1Own, c_Clone, h_l2False, c_l2False, hlen, List.zipIdx_cons, List.zipIdx_nil, ↓SP, SQ, Gam.add, stepM, callC, argC, lendO, nmBy, nmC, likeL, likeB, plainOb, offs, exL, X, F, trP, trO, stepD, stepW, newA, SV.tr, SV.trL, fz, allP, Ob.tr, loadA, cellsA, SV.cells, binA, binI, eqOut, isSl, isPt, natOf, callee, snap, SV.refsL, SV.refs, thaw, fzAll, loA, hiA, elemOf, partsA, buildA, putCells, ↓reduceIte, reduceCtorEq, okCell, Nat.reduceAdd, Nat.reduceEqDiff, Nat.reduceSub, Nat.reduceMul, Nat.reduceLeDiff, Nat.reduceLT, Nat.reduceBEq, PV.scal, PV.scalL, SV.scal, SV.scalL, Ob.scal, PV.isCell, pure', resO]
  refine loop_at (fun s : Nat × SV × SV × SV => mkEnv [(0, .p (.agg [.sl 1 (ints l), .int .i64 m])), (1, si q), (2, sb y), (3, .bx 3 0), (6, .bx 6 0), (7, .bx 7 0), (8, si s.1), (19, s.2.1), (33, s.2.2.1), (48, s.2.2.2)]) (fun s => mkO [(3, some (.box [.p (.sl 1 (ints l)), si m])), (6, some (.box [.p .nilsl, si 0])), (7, some (.box [.ar 11, si m])), (11, some (.arr 1 (ints (fillL (afterF f m l) l s.1))))]) (fun s => s.1 ≤ l.length) (fun s => l.length - s.1) (0, .junk, .junk, .junk) (by simp) rfl (by simp only [fill_0]) ?_
  rintro ⟨i, c1, c2, c3⟩ hi R hR hN
  simp only at hi
  have hfl := fill_len (afterF f m l) l hi
  by_cases h : i < l.length
  · have h1 : (i : Int) < l.length := by omega
    have hw := wrap_one (i := i) (by omega)
    have hg : (ints (fillL (afterF f m l) l i))[i]? = some (.int .i64 (l.getD i 0)) := by rw [ints_get (by omega), fill_get _ _ _ h]
    have hxs : l.getD i 0 ≤ 1000 := by
      have := List.all_eq_true.1 hsm (l.getD i 0) (by rw [getD_lt h]; exact List.getElem_mem h)
      simpa using this
    have hi0 : (0 : Int) ≤ i := by omega
    have hfi : ((bitW q i == 1) != y) = f i := by rw [← hf]
    by_cases hx0 : 0 ≤ l.getD i 0
    · cases hb : f i with
      | false =>
        rw [hb] at hfi
        have hs : fillL (afterF f m l) l (i + 1) = fillL (afterF f m l) l i := fill_same _ _ 0 h (by simp [afterF, hb])
        simp only [h1, hw, hg, hfl, h, hfi, hi0, hx0, h_l2False, c_l2False, ↓SP, SQ, Gam.add, stepM, callC, argC, lendO, nmBy, nmC, likeL, likeB, plainOb, offs, exL, X, F, trP, trO, stepD, stepW, newA, SV.tr, SV.trL, fz, allP, Ob.tr, loadA, cellsA, SV.cells, binA, binI, eqOut, isSl, isPt, natOf, callee, snap, SV.refsL, SV.refs, thaw, fzAll, loA, hiA, elemOf, partsA, buildA, putCells, ↓reduceIte, reduceCtorEq, okCell, Nat.reduceAdd, Nat.reduceEqDiff, Nat.reduceSub, Nat.reduceMul, Nat.reduceLeDiff, Nat.reduceLT, Nat.reduceBEq, PV.scal, PV.scalL, SV.scal, SV.scalL, Ob.scal, PV.isCell, pure', resO]
        rw [← hs]
        exact hN (i + 1, _, _, _) _ _ (by simp only; omega) (by simp only; omega) rfl rfl
      | true =>
        rw [hb] at hfi
        have hwx : IntKind.i64.wrap (l.getD i 0 + 1) = l.getD i 0 + 1 := wrap64 (by omega) (by omega)
        have hlt : i < (fillL (afterF f m l) l i).length := by omega
        have hg2 : (ints ((fillL (afterF f m l) l i).set i (l.getD i 0 + 1)))[i]? = some (.int .i64 (l.getD i 0 + 1)) := by
          rw [ints_get (by simpa using hlt), getD_lt (by simpa using hlt)]; simp
        by_cases hm1 : m < l.getD i 0 + 1
        · have hs : ((fillL (afterF f m l) l i).set i (l.getD i 0 + 1)).set i (-1) = fillL (afterF f m l) l (i + 1) := by
            rw [List.set_set]; exact fill_set _ _ h (by simp only [afterF, hx0, hb, hm1, and_self, if_true])
          simp only [h1, hw, hg, hfl, h, hfi, hi0, hx0, h_l2False, c_l2False, hwx, ints_set, hg2, hm1, List.length_set, hs, ↓SP, SQ, Gam.add, stepM, callC, argC, lendO, nmBy, nmC, likeL, likeB, plainOb, offs, exL, X, F, trP, trO, stepD, stepW, newA, SV.tr, SV.trL, fz, allP, Ob.tr, loadA, cellsA, SV.cells, binA, binI, eqOut, isSl, isPt, natOf, callee, snap, SV.refsL, SV.refs, thaw, fzAll, loA, hiA, elemOf, partsA, buildA, putCells, ↓reduceIte, reduceCtorEq, okCell, Nat.reduceAdd, Nat.reduceEqDiff, Nat.reduceSub, Nat.reduceMul, Nat.reduceLeDiff, Nat.reduceLT, Nat.reduceBEq, PV.scal, PV.scalL, SV.scal, SV.scalL, Ob.scal, PV.isCell, pure', resO]
          exact hN (i + 1, _, _, _) _ _ (by simp only; omega) (by simp only; omega) rfl rfl
        · have hs : (fillL (afterF f m l) l i).set i (l.getD i 0 + 1) = fillL (afterF f m l) l (i + 1) := fill_set _ _ h (by simp only [afterF, hx0, hb, hm1, and_self, if_true, if_false])
          rw [hs] at hg2
          have hfl2 := fill_len (afterF f m l) l (i := i + 1) (by omega)
          simp only [h1, hw, hg, hfl, h, hfi, hi0, hx0, h_l2False, c_l2False, hwx, ints_set, hg2, hm1, hs, hfl2, ↓SP, SQ, Gam.add, stepM, callC, argC, lendO, nmBy, nmC, likeL, likeB, plainOb, offs, exL, X, F, trP, trO, stepD, stepW, newA, SV.tr, SV.trL, fz, allP, Ob.tr, loadA, cellsA, SV.cells, binA, binI, eqOut, isSl, isPt, natOf, callee, snap, SV.refsL, SV.refs, thaw, fzAll, loA, hiA, elemOf, partsA, buildA, putCells, ↓reduceIte, reduceCtorEq, okCell, Nat.reduceAdd, Nat.reduceEqDiff, Nat.reduceSub, Nat.reduceMul, Nat.reduceLeDiff, Nat.reduceLT, Nat.reduceBEq, PV.scal, PV.scalL, SV.scal, SV.scalL, Ob.scal, PV.isCell, pure', resO]
          exact hN (i + 1, _, _, _) _ _ (by simp only; omega) (by simp only; omega) rfl rfl
    · have hs : fillL (afterF f m l) l (i + 1) = fillL (afterF f m l) l i := fill_same _ _ 0 h (by simp only [afterF, hx0, false_and, if_false])
      simp only [h1, hw, hg, hfl, h, hx0, ↓SP, SQ, Gam.add, stepM, callC, argC, lendO, nmBy, nmC, likeL, likeB, plainOb, offs, exL, X, F, trP, trO, stepD, stepW, newA, SV.tr, SV.trL, fz, allP, Ob.tr, loadA, cellsA, SV.cells, binA, binI, eqOut, isSl, isPt, natOf, callee, snap, SV.refsL, SV.refs, thaw, fzAll, loA, hiA, elemOf, partsA, buildA, putCells, ↓reduceIte, reduceCtorEq, okCell, Nat.reduceAdd, Nat.reduceEqDiff, Nat.reduceSub, Nat.reduceMul, Nat.reduceLeDiff, Nat.reduceLT, Nat.reduceBEq, PV.scal, PV.scalL, SV.scal, SV.scalL, Ob.scal, PV.isCell, pure', resO]
      rw [← hs]
      exact hN (i + 1, _, _, _) _ _ (by simp only; omega) (by simp only; omega) rfl rfl
  · have he : i = l.length := by omega
    have h1 : ¬ (i : Int) < l.length := by omega
    simp only [h1, hfl, ↓SP, SQ, Gam.add, stepM, callC, argC, lendO, nmBy, nmC, likeL, likeB, plainOb, offs, exL, X, F, trP, trO, stepD, stepW, newA, SV.tr, SV.trL, fz, allP, Ob.tr, loadA, cellsA, SV.cells, binA, binI, eqOut, isSl, isPt, natOf, callee, snap, SV.refsL, SV.refs, thaw, fzAll, loA, hiA, elemOf, partsA, buildA, putCells, ↓reduceIte, reduceCtorEq, okCell, Nat.reduceAdd, Nat.reduceEqDiff, Nat.reduceSub, Nat.reduceMul, Nat.reduceLeDiff, Nat.reduceLT, Nat.reduceBEq, PV.scal, PV.scalL, SV.scal, SV.scalL, Ob.scal, PV.isCell, pure', resO]
    refine hR _ _ _ (by intro h; cases h) ?_
    simp only [↓SP, SQ, Gam.add, stepM, callC, argC, lendO, nmBy, nmC, likeL, likeB, plainOb, offs, exL, X, F, trP, trO, stepD, stepW, newA, SV.tr, SV.trL, fz, allP, Ob.tr, loadA, cellsA, SV.cells, binA, binI, eqOut, isSl, isPt, natOf, callee, snap, SV.refsL, SV.refs, thaw, fzAll, loA, hiA, elemOf, partsA, buildA, putCells, ↓reduceIte, reduceCtorEq, okCell, Nat.reduceAdd, Nat.reduceEqDiff, Nat.reduceSub, Nat.reduceMul, Nat.reduceLeDiff, Nat.reduceLT, Nat.reduceBEq, PV.scal, PV.scalL, SV.scal, SV.scalL, Ob.scal, PV.isCell, pure', resO]
    subst he
    have hfe := fill_end (afterF f m l) l
    refine finA_gen [11] trivial (by simp [retA, rvA, mkE_cons, mk_nil, mkO_cons, mkO_nil, loadA, SV.tr, SV.trL, nmF, rn_nil, rn_cons1, rn_cons2, plainOb, SV.refsL, SV.refs, Ob.refs, X, F, List.range_succ, mkO, setO_mk]; rfl) ?_ ?_ ?_ ?_ ?_ ?_ ?_ <;> simp [hfe, afterL, retA, rvA, mkE_cons, mk_nil, mkO_cons, mkO_nil, loadA, SV.tr, SV.trL, nmF, rn_nil, rn_cons1, rn_cons2, plainOb, SV.refsL, SV.refs, Ob.refs, X, F, List.range_succ, mkO, setO_mk]
theorem afterL_congr {f g : Nat → Bool} {m : Int} {l : List Int} (h : ∀ i, i < l.length → f i = g i) : afterL f m l = afterL g m l :=
  List.map_congr_left fun i hi => by simp only [afterF, h i (List.mem_range.1 hi)]
theorem upto_map (n : Nat) : upto n = (List.range n).map fun i : Nat => PV.int .i64 (i : Int) := by simp [upto, ints]
theorem map_getD {n i : Nat} (f : Nat → Bool) (h : i < n) : ((List.range n).map f).getD i false = f i := by simp [h]
def a_answered (f_isFalse : FuncId) (f_after : FuncId) : AFn := ⟨2, 
  .seq (.reg [⟨some 2, none, .w (.box 2 (.t 0))⟩,
    ⟨some 3, none, .w (.box 2 (.t 1))⟩,
    ⟨some 4, none, .w (.alloc [.nilsl, .int .i64 0])⟩])
  (.seq (.reg [⟨some 5, none, .d (.load true 2 (.t 2))⟩,
    ⟨some 6, none, .d (.load true 2 (.t 3))⟩,
    ⟨some 7, none, .d (.mkfn f_isFalse [(.t 6)] [])⟩,
    ⟨some 8, none, .w (.callL (.f f_after) [(.t 5), (.t 7)] [] 1 false)⟩,
    ⟨none, none, .w (.store 2 (.t 4) (.t 8))⟩])
  (.ret)), [.cell 4 2 true]⟩
def n_answered : Nat → Option Ann := fun d => if d = 8 then some ⟨[], 1, false⟩ else none
abbrev k_answered : List Nat := [0, 1, 2, 3, 4]
abbrev o_answered : List Nat := [2, 3, 4, 8]
def c_answered : Con := pure' fun
  | [.p (.agg [.sl 1 l_, .int .i64 m]), .p (.agg [.int .i64 q, .bool y])] => if isI l_ = true ∧ ((ofI l_).length ≤ 1100000 ∧ ((ofI l_).all fun x => decide (x ≤ 1000)) = true) then some (.ag [.ar 2000000, .p (.int .i64 m)], [.arr 1 (ints (afterL (fun i => (bitW q i == 1) != y) m (ofI l_)))]) else none
  | _ => none
theorem s_answered {P : Program} (hm : P.follows .mixedOrders = true) {Γ : Gam} (hΓ : GS P Γ) {n : FuncId} {f_isFalse : FuncId} {f_after : FuncId} (is : Is P n (a_answered f_isFalse f_after)) {Γ0 : Gam} (h_after : Γ f_after = c_after Γ0) (h_isFalse : Γ0 f_isFalse = c_isFalse) : Says P n c_answered := by
  refine Says.pure fun args r fs h => ?_
  split at h
  case h_2 => cases h
  rename_i l_ m q y
  split at h
  case isFalse => cases h
  rename_i hc
  obtain ⟨hl_, hc⟩ := hc
  obtain ⟨l, rfl⟩ := isI_out hl_
  simp only [ofI_ints, ofBo_bools, ofAs_asks, Option.some.injEq, Prod.mk.injEq] at h hc
  obtain ⟨rfl, rfl⟩ := h
  have hask : askF Γ0 f_isFalse [.agg [.int .i64 q, .bool y]] [] (upto l.length) = some ((List.range l.length).map fun i : Nat => (bitW q i == 1) != y) := by
    rw [upto_map]
    exact askF_eq fun i _ => by
      rw [h_isFalse]
      simp [c_isFalse, pure']
  have hcg : afterL (fun i => ((List.range l.length).map fun i : Nat => (bitW q i == 1) != y).getD i false) m l = afterL (fun i => (bitW q i == 1) != y) m l := afterL_congr fun i hi => map_getD _ hi
  refine is.go hm hΓ k_answered o_answered (by simp [a_answered]) ?_
  simp only [a_answered, h_after, c_after, hc, hask, hcg, List.zipIdx_cons, List.zipIdx_nil, ↓SP, SQ, Gam.add, stepM, callC, argC, lendO, nmBy, nmC, likeL, likeB, plainOb, offs, exL, X, F, trP, trO, stepD, stepW, newA, SV.tr, SV.trL, fz, allP, Ob.tr, loadA, cellsA, SV.cells, binA, binI, eqOut, isSl, isPt, natOf, callee, snap, SV.refsL, SV.refs, thaw, fzAll, loA, hiA, elemOf, partsA, buildA, putCells, ↓reduceIte, reduceCtorEq, okCell, Nat.reduceAdd, Nat.reduceEqDiff, Nat.reduceSub, Nat.reduceMul, Nat.reduceLeDiff, Nat.reduceLT, Nat.reduceBEq, PV.scal, PV.scalL, SV.scal, SV.scalL, Ob.scal, PV.isCell, pure', resO]
  refine finA_gen [8] trivial (by simp [retA, rvA, mkE_cons, mk_nil, mkO_cons, mkO_nil, loadA, SV.tr, SV.trL, nmF, rn_nil, rn_cons1, rn_cons2, plainOb, SV.refsL, SV.refs, Ob.refs, X, F, List.range_succ, mkO, setO_mk]; rfl) ?_ ?_ ?_ ?_ ?_ ?_ ?_ <;> simp [retA, rvA, mkE_cons, mk_nil, mkO_cons, mkO_nil, loadA, SV.tr, SV.trL, nmF, rn_nil, rn_cons1, rn_cons2, plainOb, SV.refsL, SV.refs, Ob.refs, X, F, List.range_succ, mkO, setO_mk]
theorem slI_lenP {v : PV} {l : List Int} (h : slI v = some l) : lenP v = some l.length := by
  rcases slI_out h with rfl | ⟨rfl, rfl⟩ <;> simp [lenP, ints_len]
/-- The lies behind answers, one after the other. -/
def allL (st : List Int → Int × Bool → List Int) (l : List Int) (as : List (Int × Bool)) : List Int := as.foldl st l
def st2 (m : Int) (l : List Int) (a : Int × Bool) : List Int := afterL (fun i => (bitW a.1 i == 1) != a.2) m l
/-- Lies that are small enough to be counted on. -/
def smallL (m : Int) (l : List Int) : Prop := ∀ x ∈ l, x ≤ m ∨ x ≤ 0
theorem afterL_small (f : Nat → Bool) {m : Int} {l : List Int} (h : smallL m l) : smallL m (afterL f m l) := by
  intro x hx
  simp only [afterL, List.mem_map, List.mem_range] at hx
  obtain ⟨i, hi, rfl⟩ := hx
  have := h (l.getD i 0) (by rw [getD_lt hi]; exact List.getElem_mem hi)
  simp only [afterF]
  split
  · split <;> omega
  · exact this
theorem small_1000 {m : Int} {l : List Int} (h : smallL m l) (hm : m ≤ 1000) : (l.all fun x => decide (x ≤ 1000)) = true := by
  rw [List.all_eq_true]; intro x hx
  have := h x hx
  simp; omega
theorem allL_one (st : List Int → Int × Bool → List Int) (l : List Int) (as : List (Int × Bool)) (i : Nat) (h : i < as.length) : allL st l (as.take (i + 1)) = st (allL st l (as.take i)) (as.getD i (0, false)) := foldl_one st l as i (0, false) h
theorem allL_ok {st : List Int → Int × Bool → List Int} {m : Int} (h1 : ∀ l a, (st l a).length = l.length) (h2 : ∀ l a, smallL m l → smallL m (st l a)) {l : List Int} (hl : smallL m l) (as : List (Int × Bool)) : (allL st l as).length = l.length ∧ smallL m (allL st l as) := by
  unfold allL
  induction as generalizing l with
  | nil => exact ⟨rfl, hl⟩
  | cons a r ih =>
    obtain ⟨g1, g2⟩ := ih (h2 l a hl)
    exact ⟨by rw [List.foldl_cons, g1, h1], by rw [List.foldl_cons]; exact g2⟩

theorem st2_len {m : Int} (l : List Int) (a : Int × Bool) : (st2 m l a).length = l.length := afterL_len _ _ _
theorem st2_small {m : Int} (l : List Int) (a : Int × Bool) (h : smallL m l) : smallL m (st2 m l a) := afterL_small _ h
end Go.Proofs.Ytnonkjcklgihhaa.Pam
