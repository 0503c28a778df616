/- A part of the proof that stands in this folder: a small machine whose steps are shown to be the steps of the model, or walks of functions by it. No condition of its own. -/
import Derived.Test.YtmbljmolegalhaaPamZ
set_option linter.unusedVariables false
set_option linter.unusedSimpArgs false
namespace Go.Proofs.Ytmbljmolegalhaa.Pam
open Go
def a_in : AFn := ⟨3, 
  .seq (.reg [⟨some 6, none, .d (.mv (.c (.bool false)))⟩])
  (.seq (.reg [⟨some 7, none, .d (.mv (.t 1))⟩,
    ⟨some 8, none, .d (.mv (.t 0))⟩,
    ⟨some 9, none, .d (.bin .arith .leq (.t 7) (.t 8))⟩,
    ⟨some 10, none, .d (.mv (.t 9))⟩,
    ⟨some 11, some (10, true), .d (.mv (.t 0))⟩,
    ⟨some 12, some (10, true), .d (.mv (.t 2))⟩,
    ⟨some 13, some (10, true), .d (.bin .arith .leq (.t 11) (.t 12))⟩,
    ⟨some 14, none, .d (.pick (.t 10) (.t 13) (.c (.bool false)))⟩,
    ⟨some 6, none, .d (.mv (.t 14))⟩])
  (.ret)), [.tmp 6]⟩
def n_in : Nat → Option Ann := fun _ => none
abbrev k_in : List Nat := [0, 1, 2, 6]
abbrev o_in : List Nat := []
def a_l1In : AFn := ⟨3, 
  .seq (.reg [⟨some 6, none, .d (.mv (.c (.bool false)))⟩])
  (.seq (.reg [⟨some 7, none, .d (.mv (.t 0))⟩,
    ⟨some 8, none, .d (.mv (.t 1))⟩,
    ⟨some 9, none, .d (.bin .arith .geq (.t 7) (.t 8))⟩,
    ⟨some 10, none, .d (.mv (.t 9))⟩,
    ⟨some 11, some (10, true), .d (.mv (.t 0))⟩,
    ⟨some 12, some (10, true), .d (.mv (.t 2))⟩,
    ⟨some 13, some (10, true), .d (.bin .arith .leq (.t 11) (.t 12))⟩,
    ⟨some 14, none, .d (.pick (.t 10) (.t 13) (.c (.bool false)))⟩,
    ⟨some 6, none, .d (.mv (.t 14))⟩])
  (.ret)), [.tmp 6]⟩
def n_l1In : Nat → Option Ann := fun _ => none
abbrev k_l1In : List Nat := [0, 1, 2, 6]
abbrev o_l1In : List Nat := []
def c_in : Con := pure' fun
  | [.p (.int .i64 x), .p (.int .i64 a), .p (.int .i64 b)] => if (True) then some (.p (.bool (decide (a ≤ x) && decide (x ≤ b))), []) else none
  | _ => none
theorem s_in {P : Program} (hm : P.follows .mixedOrders = true) {Γ : Gam} (hΓ : GS P Γ) {n : FuncId} (is : Is P n a_in)  : Says P n c_in := by
  refine Says.pure fun args r fs h => ?_
  split at h
  case h_2 => cases h
  rename_i x a b
  split at h
  case isFalse => cases h
  rename_i hc
  simp only [ofI_ints, ofBo_bools, ofAs_asks, Option.some.injEq, Prod.mk.injEq] at h hc
  obtain ⟨rfl, rfl⟩ := h
  refine is.go hm hΓ k_in o_in (by simp [a_in]) ?_
  simp only [a_in, List.zipIdx_cons, List.zipIdx_nil, ↓SP, SQ, Gam.add, stepM, callC, argC, lendO, nmBy, nmC, likeL, likeB, plainOb, offs, exL, X, F, trP, trO, stepD, stepW, newA, SV.tr, SV.trL, fz, allP, Ob.tr, loadA, cellsA, SV.cells, binA, binI, eqOut, isSl, isPt, natOf, callee, snap, SV.refsL, SV.refs, thaw, fzAll, loA, hiA, elemOf, partsA, buildA, putCells, ↓reduceIte, reduceCtorEq, okCell, Nat.reduceAdd, Nat.reduceEqDiff, Nat.reduceSub, Nat.reduceMul, Nat.reduceLeDiff, Nat.reduceLT, Nat.reduceBEq, PV.scal, PV.scalL, SV.scal, SV.scalL, Ob.scal, PV.isCell, pure', resO]
  cases decide (a ≤ x) <;> simp only [↓SP, SQ, Gam.add, stepM, callC, argC, lendO, nmBy, nmC, likeL, likeB, plainOb, offs, exL, X, F, trP, trO, stepD, stepW, newA, SV.tr, SV.trL, fz, allP, Ob.tr, loadA, cellsA, SV.cells, binA, binI, eqOut, isSl, isPt, natOf, callee, snap, SV.refsL, SV.refs, thaw, fzAll, loA, hiA, elemOf, partsA, buildA, putCells, ↓reduceIte, reduceCtorEq, okCell, Nat.reduceAdd, Nat.reduceEqDiff, Nat.reduceSub, Nat.reduceMul, Nat.reduceLeDiff, Nat.reduceLT, Nat.reduceBEq, PV.scal, PV.scalL, SV.scal, SV.scalL, Ob.scal, PV.isCell, pure', resO] <;> exact finA_val (by simp [retA, rvA, mkE_cons, mk_nil, mkO_cons, mkO_nil, loadA, SV.tr, SV.trL, nmF, rn_nil, rn_cons1, rn_cons2, plainOb, SV.refsL, SV.refs, Ob.refs, X, F, List.range_succ, mkO, setO_mk]) (by simp [SV.tr])
theorem s_l1In {P : Program} (hm : P.follows .mixedOrders = true) {Γ : Gam} (hΓ : GS P Γ) {n : FuncId} (is : Is P n a_l1In)  : Says P n c_in := by
  refine Says.pure fun args r fs h => ?_
  split at h
  case h_2 => cases h
  rename_i x a b
  split at h
  case isFalse => cases h
  rename_i hc
  simp only [ofI_ints, ofBo_bools, ofAs_asks, Option.some.injEq, Prod.mk.injEq] at h hc
  obtain ⟨rfl, rfl⟩ := h
  refine is.go hm hΓ k_l1In o_l1In (by simp [a_l1In]) ?_
  simp only [a_l1In, List.zipIdx_cons, List.zipIdx_nil, ↓SP, SQ, Gam.add, stepM, callC, argC, lendO, nmBy, nmC, likeL, likeB, plainOb, offs, exL, X, F, trP, trO, stepD, stepW, newA, SV.tr, SV.trL, fz, allP, Ob.tr, loadA, cellsA, SV.cells, binA, binI, eqOut, isSl, isPt, natOf, callee, snap, SV.refsL, SV.refs, thaw, fzAll, loA, hiA, elemOf, partsA, buildA, putCells, ↓reduceIte, reduceCtorEq, okCell, Nat.reduceAdd, Nat.reduceEqDiff, Nat.reduceSub, Nat.reduceMul, Nat.reduceLeDiff, Nat.reduceLT, Nat.reduceBEq, PV.scal, PV.scalL, SV.scal, SV.scalL, Ob.scal, PV.isCell, pure', resO]
  cases decide (a ≤ x) <;> simp only [↓SP, SQ, Gam.add, stepM, callC, argC, lendO, nmBy, nmC, likeL, likeB, plainOb, offs, exL, X, F, trP, trO, stepD, stepW, newA, SV.tr, SV.trL, fz, allP, Ob.tr, loadA, cellsA, SV.cells, binA, binI, eqOut, isSl, isPt, natOf, callee, snap, SV.refsL, SV.refs, thaw, fzAll, loA, hiA, elemOf, partsA, buildA, putCells, ↓reduceIte, reduceCtorEq, okCell, Nat.reduceAdd, Nat.reduceEqDiff, Nat.reduceSub, Nat.reduceMul, Nat.reduceLeDiff, Nat.reduceLT, Nat.reduceBEq, PV.scal, PV.scalL, SV.scal, SV.scalL, Ob.scal, PV.isCell, pure', resO] <;> exact finA_val (by simp [retA, rvA, mkE_cons, mk_nil, mkO_cons, mkO_nil, loadA, SV.tr, SV.trL, nmF, rn_nil, rn_cons1, rn_cons2, plainOb, SV.refsL, SV.refs, Ob.refs, X, F, List.range_succ, mkO, setO_mk]) (by simp [SV.tr])
def a_isCount (f_in : FuncId) : AFn := ⟨1, 
  .seq (.reg [⟨some 2, none, .d (.mv (.c (.bool false)))⟩])
  (.seq (.reg [⟨some 3, none, .d (.mv (.t 0))⟩,
    ⟨some 4, none, .d (.call (.f f_in) [(.t 3), (.c (.int .i64 1)), (.c (.int .i64 12))])⟩,
    ⟨some 2, none, .d (.mv (.t 4))⟩])
  (.ret)), [.tmp 2]⟩
def n_isCount : Nat → Option Ann := fun _ => none
abbrev k_isCount : List Nat := [0, 2]
abbrev o_isCount : List Nat := []
def a_l2Numbers (f_l1In : FuncId) : AFn := ⟨1, 
  .seq (.reg [⟨some 2, none, .d (.mv (.c (.bool false)))⟩])
  (.seq (.reg [⟨some 3, none, .d (.mv (.t 0))⟩,
    ⟨some 4, none, .d (.call (.f f_l1In) [(.t 3), (.c (.int .i64 1)), (.c (.int .i64 12))])⟩,
    ⟨some 2, none, .d (.mv (.t 4))⟩])
  (.ret)), [.tmp 2]⟩
def n_l2Numbers : Nat → Option Ann := fun _ => none
abbrev k_l2Numbers : List Nat := [0, 2]
abbrev o_l2Numbers : List Nat := []
def c_isCount : Con := pure' fun
  | [.p (.int .i64 x)] => if (True) then some (.p (.bool (decide (1 ≤ x) && decide (x ≤ 12))), []) else none
  | _ => none
theorem s_isCount {P : Program} (hm : P.follows .mixedOrders = true) {Γ : Gam} (hΓ : GS P Γ) {n : FuncId} {f_in : FuncId} (is : Is P n (a_isCount f_in)) (h_in : Γ f_in = c_in)  : Says P n c_isCount := by
  refine Says.pure fun args r fs h => ?_
  split at h
  case h_2 => cases h
  rename_i x
  split at h
  case isFalse => cases h
  rename_i hc
  simp only [ofI_ints, ofBo_bools, ofAs_asks, Option.some.injEq, Prod.mk.injEq] at h hc
  obtain ⟨rfl, rfl⟩ := h
  refine is.go hm hΓ k_isCount o_isCount (by simp [a_isCount]) ?_
  simp only [a_isCount, h_in, c_in, List.zipIdx_cons, List.zipIdx_nil, ↓SP, SQ, Gam.add, stepM, callC, argC, lendO, nmBy, nmC, likeL, likeB, plainOb, offs, exL, X, F, trP, trO, stepD, stepW, newA, SV.tr, SV.trL, fz, allP, Ob.tr, loadA, cellsA, SV.cells, binA, binI, eqOut, isSl, isPt, natOf, callee, snap, SV.refsL, SV.refs, thaw, fzAll, loA, hiA, elemOf, partsA, buildA, putCells, ↓reduceIte, reduceCtorEq, okCell, Nat.reduceAdd, Nat.reduceEqDiff, Nat.reduceSub, Nat.reduceMul, Nat.reduceLeDiff, Nat.reduceLT, Nat.reduceBEq, PV.scal, PV.scalL, SV.scal, SV.scalL, Ob.scal, PV.isCell, pure', resO]
  exact finA_val (by simp [retA, rvA, mkE_cons, mk_nil, mkO_cons, mkO_nil, loadA, SV.tr, SV.trL, nmF, rn_nil, rn_cons1, rn_cons2, plainOb, SV.refsL, SV.refs, Ob.refs, X, F, List.range_succ, mkO, setO_mk]) (by simp [SV.tr, SV.trL])
theorem s_l2Numbers {P : Program} (hm : P.follows .mixedOrders = true) {Γ : Gam} (hΓ : GS P Γ) {n : FuncId} {f_l1In : FuncId} (is : Is P n (a_l2Numbers f_l1In)) (h_l1In : Γ f_l1In = c_in)  : Says P n c_isCount := by
  refine Says.pure fun args r fs h => ?_
  split at h
  case h_2 => cases h
  rename_i x
  split at h
  case isFalse => cases h
  rename_i hc
  simp only [ofI_ints, ofBo_bools, ofAs_asks, Option.some.injEq, Prod.mk.injEq] at h hc
  obtain ⟨rfl, rfl⟩ := h
  refine is.go hm hΓ k_l2Numbers o_l2Numbers (by simp [a_l2Numbers]) ?_
  simp only [a_l2Numbers, h_l1In, c_in, List.zipIdx_cons, List.zipIdx_nil, ↓SP, SQ, Gam.add, stepM, callC, argC, lendO, nmBy, nmC, likeL, likeB, plainOb, offs, exL, X, F, trP, trO, stepD, stepW, newA, SV.tr, SV.trL, fz, allP, Ob.tr, loadA, cellsA, SV.cells, binA, binI, eqOut, isSl, isPt, natOf, callee, snap, SV.refsL, SV.refs, thaw, fzAll, loA, hiA, elemOf, partsA, buildA, putCells, ↓reduceIte, reduceCtorEq, okCell, Nat.reduceAdd, Nat.reduceEqDiff, Nat.reduceSub, Nat.reduceMul, Nat.reduceLeDiff, Nat.reduceLT, Nat.reduceBEq, PV.scal, PV.scalL, SV.scal, SV.scalL, Ob.scal, PV.isCell, pure', resO]
  exact finA_val (by simp [retA, rvA, mkE_cons, mk_nil, mkO_cons, mkO_nil, loadA, SV.tr, SV.trL, nmF, rn_nil, rn_cons1, rn_cons2, plainOb, SV.refsL, SV.refs, Ob.refs, X, F, List.range_succ, mkO, setO_mk]) (by simp [SV.tr, SV.trL])
def a_isQuestion (f_isCount : FuncId) (f_in : FuncId) : AFn := ⟨2, 
  .seq (.reg [⟨some 4, none, .d (.mv (.c (.bool false)))⟩])
  (.seq (.reg [⟨some 5, none, .d (.mv (.t 0))⟩,
    ⟨some 6, none, .d (.call (.f f_isCount) [(.t 5)])⟩,
    ⟨some 7, none, .d (.mv (.t 6))⟩,
    ⟨some 8, some (7, true), .d (.mv (.t 1))⟩,
    ⟨some 9, some (7, true), .d (.mv (.t 0))⟩,
    ⟨some 10, some (7, true), .d (.bin .arith .shl (.c (.int .i64 1)) (.t 9))⟩,
    ⟨some 11, some (7, true), .d (.bin .arith .sub (.t 10) (.c (.int .i64 1)))⟩,
    ⟨some 12, some (7, true), .d (.call (.f f_in) [(.t 8), (.c (.int .i64 0)), (.t 11)])⟩,
    ⟨some 13, none, .d (.pick (.t 7) (.t 12) (.c (.bool false)))⟩,
    ⟨some 4, none, .d (.mv (.t 13))⟩])
  (.ret)), [.tmp 4]⟩
def n_isQuestion : Nat → Option Ann := fun _ => none
abbrev k_isQuestion : List Nat := [0, 1, 4]
abbrev o_isQuestion : List Nat := []
def a_l2Asks (f_l2Numbers : FuncId) (f_l1In : FuncId) : AFn := ⟨2, 
  .seq (.reg [⟨some 4, none, .d (.mv (.c (.bool false)))⟩])
  (.seq (.reg [⟨some 5, none, .d (.mv (.t 0))⟩,
    ⟨some 6, none, .d (.call (.f f_l2Numbers) [(.t 5)])⟩,
    ⟨some 7, none, .d (.mv (.t 6))⟩,
    ⟨some 8, some (7, true), .d (.mv (.t 1))⟩,
    ⟨some 9, some (7, true), .d (.mv (.t 0))⟩,
    ⟨some 10, some (7, true), .d (.bin .arith .shl (.c (.int .i64 1)) (.t 9))⟩,
    ⟨some 11, some (7, true), .d (.bin .arith .sub (.t 10) (.c (.int .i64 1)))⟩,
    ⟨some 12, some (7, true), .d (.call (.f f_l1In) [(.t 8), (.c (.int .i64 0)), (.t 11)])⟩,
    ⟨some 13, none, .d (.pick (.t 7) (.t 12) (.c (.bool false)))⟩,
    ⟨some 4, none, .d (.mv (.t 13))⟩])
  (.ret)), [.tmp 4]⟩
def n_l2Asks : Nat → Option Ann := fun _ => none
abbrev k_l2Asks : List Nat := [0, 1, 4]
abbrev o_l2Asks : List Nat := []
/-- Whether a number is a question of n numbers. -/
def isQ (n q : Int) : Bool := decide (1 ≤ n) && decide (n ≤ 12) && (decide (0 ≤ q) && decide (q ≤ 2 ^ n.toNat - 1))
def c_isQuestion : Con := pure' fun
  | [.p (.int .i64 n), .p (.int .i64 q)] => if (True) then some (.p (.bool (isQ n q)), []) else none
  | _ => none
theorem s_isQuestion {P : Program} (hm : P.follows .mixedOrders = true) {Γ : Gam} (hΓ : GS P Γ) {n : FuncId} {f_isCount : FuncId} {f_in : FuncId} (is : Is P n (a_isQuestion f_isCount f_in)) (h_isCount : Γ f_isCount = c_isCount) (h_in : Γ f_in = c_in)  : Says P n c_isQuestion := by
  refine Says.pure fun args r fs h => ?_
  split at h
  case h_2 => cases h
  rename_i n q
  split at h
  case isFalse => cases h
  rename_i hc
  simp only [ofI_ints, ofBo_bools, ofAs_asks, Option.some.injEq, Prod.mk.injEq] at h hc
  obtain ⟨rfl, rfl⟩ := h
  by_cases h : 1 ≤ n ∧ n ≤ 12
  · obtain ⟨s1, s2⟩ := shl12 h.1 h.2
    have d : (decide (1 ≤ n) && decide (n ≤ 12)) = true := by simp [h.1, h.2]
    have hn : ¬ n < 0 := by omega
    refine is.go hm hΓ k_isQuestion o_isQuestion (by simp [a_isQuestion]) ?_
    simp only [a_isQuestion, h_isCount, c_isCount, h_in, c_in, d, s1, s2, hn, List.zipIdx_cons, List.zipIdx_nil, ↓SP, SQ, Gam.add, stepM, callC, argC, lendO, nmBy, nmC, likeL, likeB, plainOb, offs, exL, X, F, trP, trO, stepD, stepW, newA, SV.tr, SV.trL, fz, allP, Ob.tr, loadA, cellsA, SV.cells, binA, binI, eqOut, isSl, isPt, natOf, callee, snap, SV.refsL, SV.refs, thaw, fzAll, loA, hiA, elemOf, partsA, buildA, putCells, ↓reduceIte, reduceCtorEq, okCell, Nat.reduceAdd, Nat.reduceEqDiff, Nat.reduceSub, Nat.reduceMul, Nat.reduceLeDiff, Nat.reduceLT, Nat.reduceBEq, PV.scal, PV.scalL, SV.scal, SV.scalL, Ob.scal, PV.isCell, pure', resO]
    exact finA_val (by simp [isQ, h.1, h.2, retA, rvA, mkE_cons, mk_nil, mkO_cons, mkO_nil, loadA, SV.tr, SV.trL, nmF, rn_nil, rn_cons1, rn_cons2, plainOb, SV.refsL, SV.refs, Ob.refs, X, F, List.range_succ, mkO, setO_mk]) (by simp [SV.tr, SV.trL])
  · have d : (decide (1 ≤ n) && decide (n ≤ 12)) = false := by simp; omega
    refine is.go hm hΓ k_isQuestion o_isQuestion (by simp [a_isQuestion]) ?_
    simp only [a_isQuestion, h_isCount, c_isCount, h_in, c_in, d, List.zipIdx_cons, List.zipIdx_nil, ↓SP, SQ, Gam.add, stepM, callC, argC, lendO, nmBy, nmC, likeL, likeB, plainOb, offs, exL, X, F, trP, trO, stepD, stepW, newA, SV.tr, SV.trL, fz, allP, Ob.tr, loadA, cellsA, SV.cells, binA, binI, eqOut, isSl, isPt, natOf, callee, snap, SV.refsL, SV.refs, thaw, fzAll, loA, hiA, elemOf, partsA, buildA, putCells, ↓reduceIte, reduceCtorEq, okCell, Nat.reduceAdd, Nat.reduceEqDiff, Nat.reduceSub, Nat.reduceMul, Nat.reduceLeDiff, Nat.reduceLT, Nat.reduceBEq, PV.scal, PV.scalL, SV.scal, SV.scalL, Ob.scal, PV.isCell, pure', resO]
    exact finA_val (by simp [isQ, d, retA, rvA, mkE_cons, mk_nil, mkO_cons, mkO_nil, loadA, SV.tr, SV.trL, nmF, rn_nil, rn_cons1, rn_cons2, plainOb, SV.refsL, SV.refs, Ob.refs, X, F, List.range_succ, mkO, setO_mk]) (by simp [SV.tr, SV.trL])
theorem s_l2Asks {P : Program} (hm : P.follows .mixedOrders = true) {Γ : Gam} (hΓ : GS P Γ) {n : FuncId} {f_l2Numbers : FuncId} {f_l1In : FuncId} (is : Is P n (a_l2Asks f_l2Numbers f_l1In)) (h_l2Numbers : Γ f_l2Numbers = c_isCount) (h_l1In : Γ f_l1In = c_in)  : Says P n c_isQuestion := by
  refine Says.pure fun args r fs h => ?_
  split at h
  case h_2 => cases h
  rename_i n q
  split at h
  case isFalse => cases h
  rename_i hc
  simp only [ofI_ints, ofBo_bools, ofAs_asks, Option.some.injEq, Prod.mk.injEq] at h hc
  obtain ⟨rfl, rfl⟩ := h
  by_cases h : 1 ≤ n ∧ n ≤ 12
  · obtain ⟨s1, s2⟩ := shl12 h.1 h.2
    have d : (decide (1 ≤ n) && decide (n ≤ 12)) = true := by simp [h.1, h.2]
    have hn : ¬ n < 0 := by omega
    refine is.go hm hΓ k_l2Asks o_l2Asks (by simp [a_l2Asks]) ?_
    simp only [a_l2Asks, h_l2Numbers, c_isCount, h_l1In, c_in, d, s1, s2, hn, List.zipIdx_cons, List.zipIdx_nil, ↓SP, SQ, Gam.add, stepM, callC, argC, lendO, nmBy, nmC, likeL, likeB, plainOb, offs, exL, X, F, trP, trO, stepD, stepW, newA, SV.tr, SV.trL, fz, allP, Ob.tr, loadA, cellsA, SV.cells, binA, binI, eqOut, isSl, isPt, natOf, callee, snap, SV.refsL, SV.refs, thaw, fzAll, loA, hiA, elemOf, partsA, buildA, putCells, ↓reduceIte, reduceCtorEq, okCell, Nat.reduceAdd, Nat.reduceEqDiff, Nat.reduceSub, Nat.reduceMul, Nat.reduceLeDiff, Nat.reduceLT, Nat.reduceBEq, PV.scal, PV.scalL, SV.scal, SV.scalL, Ob.scal, PV.isCell, pure', resO]
    exact finA_val (by simp [isQ, h.1, h.2, retA, rvA, mkE_cons, mk_nil, mkO_cons, mkO_nil, loadA, SV.tr, SV.trL, nmF, rn_nil, rn_cons1, rn_cons2, plainOb, SV.refsL, SV.refs, Ob.refs, X, F, List.range_succ, mkO, setO_mk]) (by simp [SV.tr, SV.trL])
  · have d : (decide (1 ≤ n) && decide (n ≤ 12)) = false := by simp; omega
    refine is.go hm hΓ k_l2Asks o_l2Asks (by simp [a_l2Asks]) ?_
    simp only [a_l2Asks, h_l2Numbers, c_isCount, h_l1In, c_in, d, List.zipIdx_cons, List.zipIdx_nil, ↓SP, SQ, Gam.add, stepM, callC, argC, lendO, nmBy, nmC, likeL, likeB, plainOb, offs, exL, X, F, trP, trO, stepD, stepW, newA, SV.tr, SV.trL, fz, allP, Ob.tr, loadA, cellsA, SV.cells, binA, binI, eqOut, isSl, isPt, natOf, callee, snap, SV.refsL, SV.refs, thaw, fzAll, loA, hiA, elemOf, partsA, buildA, putCells, ↓reduceIte, reduceCtorEq, okCell, Nat.reduceAdd, Nat.reduceEqDiff, Nat.reduceSub, Nat.reduceMul, Nat.reduceLeDiff, Nat.reduceLT, Nat.reduceBEq, PV.scal, PV.scalL, SV.scal, SV.scalL, Ob.scal, PV.isCell, pure', resO]
    exact finA_val (by simp [isQ, d, retA, rvA, mkE_cons, mk_nil, mkO_cons, mkO_nil, loadA, SV.tr, SV.trL, nmF, rn_nil, rn_cons1, rn_cons2, plainOb, SV.refsL, SV.refs, Ob.refs, X, F, List.range_succ, mkO, setO_mk]) (by simp [SV.tr, SV.trL])
def a_has : AFn := ⟨2, 
  .seq (.reg [⟨some 4, none, .d (.mv (.c (.bool false)))⟩])
  (.seq (.reg [⟨some 5, none, .d (.mv (.t 0))⟩,
    ⟨some 6, none, .d (.mv (.t 1))⟩,
    ⟨some 7, none, .d (.bin .arith .shr (.t 5) (.t 6))⟩,
    ⟨some 8, none, .d (.bin .arith .and (.t 7) (.c (.int .i64 1)))⟩,
    ⟨some 9, none, .d (.bin .arith .eql (.t 8) (.c (.int .i64 1)))⟩,
    ⟨some 4, none, .d (.mv (.t 9))⟩])
  (.ret)), [.tmp 4]⟩
def n_has : Nat → Option Ann := fun _ => none
abbrev k_has : List Nat := [0, 1, 4]
abbrev o_has : List Nat := []
def c_has : Con := pure' fun
  | [.p (.int .i64 q), .p (.int .i64 k)] => if (0 ≤ k) then some (.p (.bool (bitW q k == 1)), []) else none
  | _ => none
theorem s_has {P : Program} (hm : P.follows .mixedOrders = true) {Γ : Gam} (hΓ : GS P Γ) {n : FuncId} (is : Is P n a_has)  : Says P n c_has := by
  refine Says.pure fun args r fs h => ?_
  split at h
  case h_2 => cases h
  rename_i q k
  split at h
  case isFalse => cases h
  rename_i hc
  simp only [ofI_ints, ofBo_bools, ofAs_asks, Option.some.injEq, Prod.mk.injEq] at h hc
  obtain ⟨rfl, rfl⟩ := h
  have hk : ¬ k < 0 := by omega
  refine is.go hm hΓ k_has o_has (by simp [a_has]) ?_
  simp only [a_has, hk, bitA_and, bitW_def, List.zipIdx_cons, List.zipIdx_nil, ↓SP, SQ, Gam.add, stepM, callC, argC, lendO, nmBy, nmC, likeL, likeB, plainOb, offs, exL, X, F, trP, trO, stepD, stepW, newA, SV.tr, SV.trL, fz, allP, Ob.tr, loadA, cellsA, SV.cells, binA, binI, eqOut, isSl, isPt, natOf, callee, snap, SV.refsL, SV.refs, thaw, fzAll, loA, hiA, elemOf, partsA, buildA, putCells, ↓reduceIte, reduceCtorEq, okCell, Nat.reduceAdd, Nat.reduceEqDiff, Nat.reduceSub, Nat.reduceMul, Nat.reduceLeDiff, Nat.reduceLT, Nat.reduceBEq, PV.scal, PV.scalL, SV.scal, SV.scalL, Ob.scal, PV.isCell, pure', resO]
  exact finA_val (by simp [retA, rvA, mkE_cons, mk_nil, mkO_cons, mkO_nil, loadA, SV.tr, SV.trL, nmF, rn_nil, rn_cons1, rn_cons2, plainOb, SV.refsL, SV.refs, Ob.refs, X, F, List.range_succ, mkO, setO_mk]) (by simp [SV.tr, SV.trL])
def a_IndexFunc : AFn := ⟨2, 
  .seq (.reg [⟨some 4, none, .d (.mv (.c (.int .i64 0)))⟩])
  (.seq (.seq (.reg [⟨some 6, none, .d (.mv (.t 0))⟩,
    ⟨some 7, none, .d (.len (.t 6))⟩,
    ⟨some 8, none, .d (.mv (.c (.int .i64 0)))⟩])
  (.block 0 (.loop (.seq (.reg [⟨some 9, none, .d (.bin .arith .lss (.t 8) (.t 7))⟩])
    (.seq (.cond (.t 9) (.skip) (.exit 0))
    (.seq (.block 1 (.seq (.reg [⟨some 10, none, .d (.mv (.t 8))⟩,
       ⟨some 5, none, .d (.mv (.t 10))⟩])
     (.seq (.reg [⟨some 11, none, .d (.mv (.t 1))⟩,
       ⟨some 12, none, .d (.mv (.t 0))⟩,
       ⟨some 13, none, .d (.mv (.t 5))⟩,
       ⟨some 14, none, .d (.ia 1 (.t 12) (.t 13))⟩,
       ⟨some 15, none, .d (.load false 1 (.t 14))⟩,
       ⟨some 16, none, .d (.call (.t 11) [(.t 15)])⟩])
     (.cond (.t 16) (.seq (.reg [⟨some 17, none, .d (.mv (.t 5))⟩,
        ⟨some 4, none, .d (.mv (.t 17))⟩])
      (.ret)) (.skip)))))
    (.reg [⟨some 18, none, .d (.bin .arith .add (.t 8) (.c (.int .i64 1)))⟩,
      ⟨some 8, none, .d (.mv (.t 18))⟩])))))))
  (.seq (.reg [⟨some 4, none, .d (.mv (.c (.int .i64 (-1))))⟩])
  (.ret))), [.tmp 4]⟩
def n_IndexFunc : Nat → Option Ann := fun _ => none
abbrev k_IndexFunc : List Nat := [0, 1, 4, 5, 7, 8, 9, 16]
abbrev o_IndexFunc : List Nat := []
/-- The place of the first yes. -/
def firstT : List Bool → Int
  | [] => -1
  | b :: r => if b then 0 else if firstT r = -1 then -1 else firstT r + 1
theorem firstT_ge (bs : List Bool) : -1 ≤ firstT bs := by
  induction bs with
  | nil => simp [firstT]
  | cons b r ih => simp only [firstT]; split; omega; split <;> omega
theorem firstT_none : ∀ {bs : List Bool}, (∀ j, j < bs.length → bs.getD j false = false) → firstT bs = -1
  | [], _ => rfl
  | b :: r, h => by
    have h0 := h 0 (by simp)
    simp at h0; subst h0
    have := firstT_none (bs := r) fun j hj => by have := h (j + 1) (by simp; omega); simpa using this
    simp [firstT, this]
theorem firstT_some : ∀ {bs : List Bool} {i : Nat}, i < bs.length → (∀ j, j < i → bs.getD j false = false) → bs.getD i false = true → firstT bs = i
  | [], i, h, _, _ => by simp at h
  | b :: r, 0, _, _, h => by simp at h; subst h; simp [firstT]
  | b :: r, i + 1, h, hp, ht => by
    have h0 := hp 0 (by omega)
    simp at h0; subst h0
    have := firstT_some (bs := r) (i := i) (by simpa using h) (fun j hj => by have := hp (j + 1) (by omega); simpa using this) (by simpa using ht)
    simp only [firstT, this, Bool.false_eq_true, if_false]
    split <;> omega
theorem firstT_any (bs : List Bool) : decide (0 ≤ firstT bs) = bs.any id := by
  induction bs with
  | nil => rfl
  | cons b r ih =>
    cases b with
    | true => simp [firstT]
    | false =>
      have := firstT_ge r
      simp only [firstT, List.any_cons, Bool.false_eq_true, if_false, id, Bool.false_or]
      rw [← ih]
      split
      · rename_i e; simp [e]
      · by_cases h0 : 0 ≤ firstT r
        · rw [decide_eq_true h0, decide_eq_true (by omega)]
        · rw [decide_eq_false h0, decide_eq_false (by omega)]
def c_IndexFunc (Γ0 : Gam) : Con := pure' fun
  | [.p (.sl 1 xs), .p (.fn g a b)] => if isI xs = true ∧ xs.length ≤ 1100000 then (match askF Γ0 g a b xs with | some bs => some (.p (.int .i64 (firstT bs)), []) | none => none) else none
  | _ => none
theorem s_IndexFunc {P : Program} (hm : P.follows .mixedOrders = true) {Γ : Gam} (hΓ : GS P Γ) {n : FuncId} (is : Is P n a_IndexFunc)  : Says P n (c_IndexFunc Γ) := by
  refine Says.pure fun args r fs h => ?_
  split at h
  case h_2 => cases h
  rename_i xs g a b
  split at h
  case isFalse => cases h
  rename_i hc
  obtain ⟨hx, hc⟩ := hc
  obtain ⟨l, rfl⟩ := isI_out hx
  rw [ints_len] at hc
  split at h
  case h_2 => cases h
  rename_i bs hbs
  simp only [Option.some.injEq, Prod.mk.injEq] at h
  obtain ⟨rfl, rfl⟩ := h
  have hbl := askF_len hbs
  rw [ints_len] at hbl
  refine is.go hm hΓ k_IndexFunc o_IndexFunc (by simp [a_IndexFunc]) ?_
  simp only [a_IndexFunc, List.zipIdx_cons, List.zipIdx_nil, ↓SP, SQ, Gam.add, stepM, callC, argC, lendO, nmBy, nmC, likeL, likeB, plainOb, offs, exL, X, F, trP, trO, stepD, stepW, newA, SV.tr, SV.trL, fz, allP, Ob.tr, loadA, cellsA, SV.cells, binA, binI, eqOut, isSl, isPt, natOf, callee, snap, SV.refsL, SV.refs, thaw, fzAll, loA, hiA, elemOf, partsA, buildA, putCells, ↓reduceIte, reduceCtorEq, okCell, Nat.reduceAdd, Nat.reduceEqDiff, Nat.reduceSub, Nat.reduceMul, Nat.reduceLeDiff, Nat.reduceLT, Nat.reduceBEq, PV.scal, PV.scalL, SV.scal, SV.scalL, Ob.scal, PV.isCell, pure', resO]
  refine loop_at (fun s : Nat × SV × SV × SV => mkEnv [(0, .p (.sl 1 (ints l))), (1, .p (.fn g a b)), (4, si 0), (5, s.2.1), (7, si l.length), (8, si s.1), (9, s.2.2.1), (16, s.2.2.2)]) (fun s => mkO []) (fun s => s.1 ≤ l.length ∧ ∀ j, j < s.1 → bs.getD j false = false) (fun s => l.length - s.1) (0, .junk, .junk, .junk) (by simp) rfl rfl ?_
  rintro ⟨i, c1, c2, c3⟩ ⟨hi, hp⟩ R hR hN
  simp only at hi hp
  by_cases h : i < l.length
  · have h1 : (i : Int) < l.length := by omega
    have hw := wrap_one (i := i) (by omega)
    have hg := ints_get h
    have hq := askF_get hbs hg
    cases hb : bs.getD i false with
    | false =>
      rw [hb] at hq
      simp only [h1, hw, hg, call_ps, refs_ps, hq, ↓SP, SQ, Gam.add, stepM, callC, argC, lendO, nmBy, nmC, likeL, likeB, plainOb, offs, exL, X, F, trP, trO, stepD, stepW, newA, SV.tr, SV.trL, fz, allP, Ob.tr, loadA, cellsA, SV.cells, binA, binI, eqOut, isSl, isPt, natOf, callee, snap, SV.refsL, SV.refs, thaw, fzAll, loA, hiA, elemOf, partsA, buildA, putCells, ↓reduceIte, reduceCtorEq, okCell, Nat.reduceAdd, Nat.reduceEqDiff, Nat.reduceSub, Nat.reduceMul, Nat.reduceLeDiff, Nat.reduceLT, Nat.reduceBEq, PV.scal, PV.scalL, SV.scal, SV.scalL, Ob.scal, PV.isCell, pure', resO]
      refine hN (i + 1, _, _, _) _ _ ⟨by simp only; omega, fun j hj => ?_⟩ (by simp only; omega) rfl rfl
      simp only at hj
      by_cases hji : j = i
      · rw [hji]; exact hb
      · exact hp j (by omega)
    | true =>
      rw [hb] at hq
      have hf := firstT_some (by omega) hp hb
      simp only [h1, hw, hg, call_ps, refs_ps, hq, hf, ↓SP, SQ, Gam.add, stepM, callC, argC, lendO, nmBy, nmC, likeL, likeB, plainOb, offs, exL, X, F, trP, trO, stepD, stepW, newA, SV.tr, SV.trL, fz, allP, Ob.tr, loadA, cellsA, SV.cells, binA, binI, eqOut, isSl, isPt, natOf, callee, snap, SV.refsL, SV.refs, thaw, fzAll, loA, hiA, elemOf, partsA, buildA, putCells, ↓reduceIte, reduceCtorEq, okCell, Nat.reduceAdd, Nat.reduceEqDiff, Nat.reduceSub, Nat.reduceMul, Nat.reduceLeDiff, Nat.reduceLT, Nat.reduceBEq, PV.scal, PV.scalL, SV.scal, SV.scalL, Ob.scal, PV.isCell, pure', resO]
      refine hR _ _ _ (by intro h; cases h) ?_
      simp only [↓SP, SQ, Gam.add, stepM, callC, argC, lendO, nmBy, nmC, likeL, likeB, plainOb, offs, exL, X, F, trP, trO, stepD, stepW, newA, SV.tr, SV.trL, fz, allP, Ob.tr, loadA, cellsA, SV.cells, binA, binI, eqOut, isSl, isPt, natOf, callee, snap, SV.refsL, SV.refs, thaw, fzAll, loA, hiA, elemOf, partsA, buildA, putCells, ↓reduceIte, reduceCtorEq, okCell, Nat.reduceAdd, Nat.reduceEqDiff, Nat.reduceSub, Nat.reduceMul, Nat.reduceLeDiff, Nat.reduceLT, Nat.reduceBEq, PV.scal, PV.scalL, SV.scal, SV.scalL, Ob.scal, PV.isCell, pure', resO]
      exact finA_val (by simp [hf, retA, rvA, mkE_cons, mk_nil, mkO_cons, mkO_nil, loadA, SV.tr, SV.trL, nmF, rn_nil, rn_cons1, rn_cons2, plainOb, SV.refsL, SV.refs, Ob.refs, X, F, List.range_succ, mkO, setO_mk]) (by simp [SV.tr, SV.trL])
  · have he : i = l.length := by omega
    have h1 : ¬ (i : Int) < l.length := by omega
    have hf : firstT bs = -1 := firstT_none fun j hj => hp j (by omega)
    simp only [h1, hf, ↓SP, SQ, Gam.add, stepM, callC, argC, lendO, nmBy, nmC, likeL, likeB, plainOb, offs, exL, X, F, trP, trO, stepD, stepW, newA, SV.tr, SV.trL, fz, allP, Ob.tr, loadA, cellsA, SV.cells, binA, binI, eqOut, isSl, isPt, natOf, callee, snap, SV.refsL, SV.refs, thaw, fzAll, loA, hiA, elemOf, partsA, buildA, putCells, ↓reduceIte, reduceCtorEq, okCell, Nat.reduceAdd, Nat.reduceEqDiff, Nat.reduceSub, Nat.reduceMul, Nat.reduceLeDiff, Nat.reduceLT, Nat.reduceBEq, PV.scal, PV.scalL, SV.scal, SV.scalL, Ob.scal, PV.isCell, pure', resO]
    refine hR _ _ _ (by intro h; cases h) ?_
    simp only [↓SP, SQ, Gam.add, stepM, callC, argC, lendO, nmBy, nmC, likeL, likeB, plainOb, offs, exL, X, F, trP, trO, stepD, stepW, newA, SV.tr, SV.trL, fz, allP, Ob.tr, loadA, cellsA, SV.cells, binA, binI, eqOut, isSl, isPt, natOf, callee, snap, SV.refsL, SV.refs, thaw, fzAll, loA, hiA, elemOf, partsA, buildA, putCells, ↓reduceIte, reduceCtorEq, okCell, Nat.reduceAdd, Nat.reduceEqDiff, Nat.reduceSub, Nat.reduceMul, Nat.reduceLeDiff, Nat.reduceLT, Nat.reduceBEq, PV.scal, PV.scalL, SV.scal, SV.scalL, Ob.scal, PV.isCell, pure', resO]
    exact finA_val (by simp [hf, retA, rvA, mkE_cons, mk_nil, mkO_cons, mkO_nil, loadA, SV.tr, SV.trL, nmF, rn_nil, rn_cons1, rn_cons2, plainOb, SV.refsL, SV.refs, Ob.refs, X, F, List.range_succ, mkO, setO_mk]) (by simp [SV.tr, SV.trL])
def a_ContainsFunc (f_IndexFunc : FuncId) : AFn := ⟨2, 
  .seq (.reg [⟨some 4, none, .d (.mv (.c (.bool false)))⟩])
  (.seq (.reg [⟨some 5, none, .d (.mv (.t 0))⟩,
    ⟨some 6, none, .d (.mv (.t 1))⟩,
    ⟨some 7, none, .d (.call (.f f_IndexFunc) [(.t 5), (.t 6)])⟩,
    ⟨some 8, none, .d (.bin .arith .geq (.t 7) (.c (.int .i64 0)))⟩,
    ⟨some 4, none, .d (.mv (.t 8))⟩])
  (.ret)), [.tmp 4]⟩
def n_ContainsFunc : Nat → Option Ann := fun _ => none
abbrev k_ContainsFunc : List Nat := [0, 1, 4]
abbrev o_ContainsFunc : List Nat := []
def c_ContainsFunc (Γ0 : Gam) : Con := pure' fun
  | [.p (.sl 1 xs), .p (.fn g a b)] => if isI xs = true ∧ xs.length ≤ 1100000 then (match askF Γ0 g a b xs with | some bs => some (.p (.bool (bs.any id)), []) | none => none) else none
  | _ => none
theorem s_ContainsFunc {P : Program} (hm : P.follows .mixedOrders = true) {Γ : Gam} (hΓ : GS P Γ) {n : FuncId} {f_IndexFunc : FuncId} (is : Is P n (a_ContainsFunc f_IndexFunc)) {Γ0 : Gam} (h_IndexFunc : Γ f_IndexFunc = c_IndexFunc Γ0) : Says P n (c_ContainsFunc Γ0) := by
  refine Says.pure fun args r fs h => ?_
  split at h
  case h_2 => cases h
  rename_i xs g a b
  split at h
  case isFalse => cases h
  rename_i hc
  split at h
  case h_2 => cases h
  rename_i bs hbs
  simp only [Option.some.injEq, Prod.mk.injEq] at h
  obtain ⟨rfl, rfl⟩ := h
  have hm1 : ∀ (O : Objs) (l : List PV), (l.map SV.p).mapM (snap O 4) = some l := fun O l => by
    induction l with
    | nil => rfl
    | cons y r ih => simp only [List.map_cons, List.mapM_cons, ih]; rfl
  refine is.go hm hΓ k_ContainsFunc o_ContainsFunc (by simp [a_ContainsFunc]) ?_
  simp only [a_ContainsFunc, h_IndexFunc, c_IndexFunc, hc, hbs, firstT_any, List.zipIdx_cons, List.zipIdx_nil, ↓SP, SQ, Gam.add, stepM, callC, argC, lendO, nmBy, nmC, likeL, likeB, plainOb, offs, exL, X, F, trP, trO, stepD, stepW, newA, SV.tr, SV.trL, fz, allP, Ob.tr, loadA, cellsA, SV.cells, binA, binI, eqOut, isSl, isPt, natOf, callee, snap, SV.refsL, SV.refs, thaw, fzAll, loA, hiA, elemOf, partsA, buildA, putCells, ↓reduceIte, reduceCtorEq, okCell, Nat.reduceAdd, Nat.reduceEqDiff, Nat.reduceSub, Nat.reduceMul, Nat.reduceLeDiff, Nat.reduceLT, Nat.reduceBEq, PV.scal, PV.scalL, SV.scal, SV.scalL, Ob.scal, PV.isCell, pure', resO]
  exact finA_val (by simp [retA, rvA, mkE_cons, mk_nil, mkO_cons, mkO_nil, loadA, SV.tr, SV.trL, nmF, rn_nil, rn_cons1, rn_cons2, plainOb, SV.refsL, SV.refs, Ob.refs, X, F, List.range_succ, mkO, setO_mk]) (by simp [SV.tr, SV.trL])
theorem any_not {α : Type} (l : List α) (q : α → Bool) : (!((l.map fun x => !q x).any id)) = l.all q := by
  induction l with
  | nil => rfl
  | cons x r ih => simp only [List.map_cons, List.any_cons, List.all_cons, id]; rw [← ih]; cases q x <;> simp
theorem dec_t {p : Prop} [Decidable p] (h : p) : decide p = true := by simpa using h
theorem dec_f {p : Prop} [Decidable p] (h : ¬ p) : decide p = false := by simpa using h
/-- The ways to choose i of n, one after the other. -/
def Wn (n : Nat) : Nat → Nat
  | 0 => 1
  | i + 1 => Wn n i * (n - i) / (i + 1)
theorem Wn_le : ∀ n, n < 21 → ∀ i, i < 23 → Wn n i ≤ 200000 := by decide +kernel
theorem W_sub {n i : Nat} (h : i ≤ n) (hn : n < 21) : IntKind.i64.wrap ((n : Int) - (i : Int)) = ((n - i : Nat) : Int) := by rw [wrap64 (by omega) (by omega)]; omega
theorem W_mul {n i : Nat} (h : i ≤ n) (hn : n < 21) : IntKind.i64.wrap ((Wn n i : Int) * ((n - i : Nat) : Int)) = ((Wn n i * (n - i) : Nat) : Int) := by
  have h1 := Wn_le n hn i (by omega)
  have h2 : Wn n i * (n - i) ≤ 200000 * 21 := Nat.mul_le_mul h1 (by omega)
  rw [← Int.natCast_mul]
  exact wrap64 (by omega) (by omega)
theorem W_div {n i : Nat} (h : i ≤ n) (hn : n < 21) : IntKind.i64.wrap (((Wn n i * (n - i) : Nat) : Int).tdiv ((i + 1 : Nat) : Int)) = (Wn n (i + 1) : Int) := by
  have h1 := Wn_le n hn i (by omega)
  have h2 : Wn n i * (n - i) ≤ 200000 * 21 := Nat.mul_le_mul h1 (by omega)
  have h3 : Wn n i * (n - i) / (i + 1) ≤ Wn n i * (n - i) := Nat.div_le_self _ _
  have h4 : Wn n (i + 1) = Wn n i * (n - i) / (i + 1) := rfl
  rw [← Int.ofNat_tdiv, h4]
  generalize Wn n i * (n - i) / (i + 1) = q at *
  generalize Wn n i * (n - i) = p at *
  exact wrap64 (by omega) (by omega)
def a_ways : AFn := ⟨2, 
  .seq (.reg [⟨some 4, none, .d (.mv (.c (.int .i64 0)))⟩])
  (.seq (.reg [⟨some 5, none, .d (.mv (.c (.int .i64 1)))⟩])
  (.seq (.seq (.reg [⟨some 7, none, .d (.mv (.t 1))⟩,
    ⟨some 8, none, .d (.mv (.c (.int .i64 0)))⟩])
  (.block 0 (.loop (.seq (.reg [⟨some 9, none, .d (.bin .arith .lss (.t 8) (.t 7))⟩])
    (.seq (.cond (.t 9) (.skip) (.exit 0))
    (.seq (.block 1 (.seq (.reg [⟨some 10, none, .d (.mv (.t 8))⟩,
       ⟨some 6, none, .d (.mv (.t 10))⟩])
     (.reg [⟨some 11, none, .d (.mv (.t 5))⟩,
       ⟨some 12, none, .d (.mv (.t 0))⟩,
       ⟨some 13, none, .d (.mv (.t 6))⟩,
       ⟨some 14, none, .d (.bin .arith .sub (.t 12) (.t 13))⟩,
       ⟨some 15, none, .d (.bin .arith .mul (.t 11) (.t 14))⟩,
       ⟨some 16, none, .d (.mv (.t 6))⟩,
       ⟨some 17, none, .d (.bin .arith .add (.t 16) (.c (.int .i64 1)))⟩,
       ⟨some 18, none, .d (.bin .arith .quo (.t 15) (.t 17))⟩,
       ⟨some 5, none, .d (.mv (.t 18))⟩])))
    (.reg [⟨some 19, none, .d (.bin .arith .add (.t 8) (.c (.int .i64 1)))⟩,
      ⟨some 8, none, .d (.mv (.t 19))⟩])))))))
  (.seq (.reg [⟨some 20, none, .d (.mv (.t 5))⟩,
    ⟨some 4, none, .d (.mv (.t 20))⟩])
  (.ret)))), [.tmp 4]⟩
def n_ways : Nat → Option Ann := fun _ => none
abbrev k_ways : List Nat := [0, 1, 4, 5, 6, 7, 8, 9]
abbrev o_ways : List Nat := []
def c_ways : Con := pure' fun
  | [.p (.int .i64 n), .p (.int .i64 r)] => if (0 ≤ n ∧ n ≤ 20 ∧ 0 ≤ r ∧ r ≤ n) then some (.p (.int .i64 (Wn n.toNat r.toNat : Int)), []) else none
  | _ => none
theorem s_ways {P : Program} (hm : P.follows .mixedOrders = true) {Γ : Gam} (hΓ : GS P Γ) {n : FuncId} (is : Is P n a_ways)  : Says P n c_ways := by
  refine Says.pure fun args r fs h => ?_
  split at h
  case h_2 => cases h
  rename_i n r
  split at h
  case isFalse => cases h
  rename_i hc
  simp only [ofI_ints, ofBo_bools, ofAs_asks, Option.some.injEq, Prod.mk.injEq] at h hc
  obtain ⟨rfl, rfl⟩ := h
  obtain ⟨h0, h1, h2, h3⟩ := hc
  obtain ⟨n, rfl⟩ : ∃ j : Nat, n = j := ⟨n.toNat, by omega⟩
  obtain ⟨r, rfl⟩ : ∃ j : Nat, r = j := ⟨r.toNat, by omega⟩
  simp only [Int.toNat_natCast]
  refine is.go hm hΓ k_ways o_ways (by simp [a_ways]) ?_
  simp only [a_ways, List.zipIdx_cons, List.zipIdx_nil, ↓SP, SQ, Gam.add, stepM, callC, argC, lendO, nmBy, nmC, likeL, likeB, plainOb, offs, exL, X, F, trP, trO, stepD, stepW, newA, SV.tr, SV.trL, fz, allP, Ob.tr, loadA, cellsA, SV.cells, binA, binI, eqOut, isSl, isPt, natOf, callee, snap, SV.refsL, SV.refs, thaw, fzAll, loA, hiA, elemOf, partsA, buildA, putCells, ↓reduceIte, reduceCtorEq, okCell, Nat.reduceAdd, Nat.reduceEqDiff, Nat.reduceSub, Nat.reduceMul, Nat.reduceLeDiff, Nat.reduceLT, Nat.reduceBEq, PV.scal, PV.scalL, SV.scal, SV.scalL, Ob.scal, PV.isCell, pure', resO]
  refine loop_at (fun s : Nat × SV × SV => mkEnv [(0, si n), (1, si r), (4, si 0), (5, si (Wn n s.1)), (6, s.2.1), (7, si r), (8, si s.1), (9, s.2.2)]) (fun s => mkO []) (fun s => s.1 ≤ r) (fun s => r - s.1) (0, .junk, .junk) (by simp) rfl rfl ?_
  rintro ⟨i, c1, c2⟩ hi R hR hN
  simp only at hi
  by_cases h : i < r
  · have h1' : (i : Int) < r := by omega
    have hw := wrap_one (i := i) (by omega)
    have hz : ¬ ((i + 1 : Nat) : Int) = 0 := by omega
    simp only [h1', hw, W_sub (show i ≤ n by omega) (by omega), W_mul (show i ≤ n by omega) (by omega), W_div (show i ≤ n by omega) (by omega), hz, ↓SP, SQ, Gam.add, stepM, callC, argC, lendO, nmBy, nmC, likeL, likeB, plainOb, offs, exL, X, F, trP, trO, stepD, stepW, newA, SV.tr, SV.trL, fz, allP, Ob.tr, loadA, cellsA, SV.cells, binA, binI, eqOut, isSl, isPt, natOf, callee, snap, SV.refsL, SV.refs, thaw, fzAll, loA, hiA, elemOf, partsA, buildA, putCells, ↓reduceIte, reduceCtorEq, okCell, Nat.reduceAdd, Nat.reduceEqDiff, Nat.reduceSub, Nat.reduceMul, Nat.reduceLeDiff, Nat.reduceLT, Nat.reduceBEq, PV.scal, PV.scalL, SV.scal, SV.scalL, Ob.scal, PV.isCell, pure', resO]
    exact hN (i + 1, _, _) _ _ (by simp only; omega) (by simp only; omega) rfl rfl
  · have he : i = r := by omega
    have h1' : ¬ (i : Int) < r := by omega
    simp only [h1', ↓SP, SQ, Gam.add, stepM, callC, argC, lendO, nmBy, nmC, likeL, likeB, plainOb, offs, exL, X, F, trP, trO, stepD, stepW, newA, SV.tr, SV.trL, fz, allP, Ob.tr, loadA, cellsA, SV.cells, binA, binI, eqOut, isSl, isPt, natOf, callee, snap, SV.refsL, SV.refs, thaw, fzAll, loA, hiA, elemOf, partsA, buildA, putCells, ↓reduceIte, reduceCtorEq, okCell, Nat.reduceAdd, Nat.reduceEqDiff, Nat.reduceSub, Nat.reduceMul, Nat.reduceLeDiff, Nat.reduceLT, Nat.reduceBEq, PV.scal, PV.scalL, SV.scal, SV.scalL, Ob.scal, PV.isCell, pure', resO]
    refine hR _ _ _ (by intro h; cases h) ?_
    simp only [↓SP, SQ, Gam.add, stepM, callC, argC, lendO, nmBy, nmC, likeL, likeB, plainOb, offs, exL, X, F, trP, trO, stepD, stepW, newA, SV.tr, SV.trL, fz, allP, Ob.tr, loadA, cellsA, SV.cells, binA, binI, eqOut, isSl, isPt, natOf, callee, snap, SV.refsL, SV.refs, thaw, fzAll, loA, hiA, elemOf, partsA, buildA, putCells, ↓reduceIte, reduceCtorEq, okCell, Nat.reduceAdd, Nat.reduceEqDiff, Nat.reduceSub, Nat.reduceMul, Nat.reduceLeDiff, Nat.reduceLT, Nat.reduceBEq, PV.scal, PV.scalL, SV.scal, SV.scalL, Ob.scal, PV.isCell, pure', resO]
    subst he
    exact finA_val (by simp [retA, rvA, mkE_cons, mk_nil, mkO_cons, mkO_nil, loadA, SV.tr, SV.trL, nmF, rn_nil, rn_cons1, rn_cons2, plainOb, SV.refsL, SV.refs, Ob.refs, X, F, List.range_succ, mkO, setO_mk]) (by simp [SV.tr, SV.trL])
/-- Whether a doubt is one. -/
def isD (s o : Int) : Bool := decide (1 ≤ o) && decide (o ≤ 10) && (decide (0 ≤ s) && decide (s ≤ o))
def a_IsDoubt (f_in : FuncId) : AFn := ⟨1, 
  .seq (.reg [⟨some 1, none, .w (.box 2 (.t 0))⟩,
    ⟨some 2, none, .d (.mv (.c (.bool false)))⟩])
  (.seq (.reg [⟨some 3, none, .d (.fa 1 (.t 1))⟩,
    ⟨some 4, none, .d (.load false 1 (.t 3))⟩,
    ⟨some 5, none, .d (.call (.f f_in) [(.t 4), (.c (.int .i64 1)), (.c (.int .i64 10))])⟩,
    ⟨some 6, none, .d (.mv (.t 5))⟩,
    ⟨some 7, some (6, true), .d (.fa 0 (.t 1))⟩,
    ⟨some 8, some (6, true), .d (.load false 1 (.t 7))⟩,
    ⟨some 9, some (6, true), .d (.fa 1 (.t 1))⟩,
    ⟨some 10, some (6, true), .d (.load false 1 (.t 9))⟩,
    ⟨some 11, some (6, true), .d (.call (.f f_in) [(.t 8), (.c (.int .i64 0)), (.t 10)])⟩,
    ⟨some 12, none, .d (.pick (.t 6) (.t 11) (.c (.bool false)))⟩,
    ⟨some 2, none, .d (.mv (.t 12))⟩])
  (.ret)), [.tmp 2]⟩
def n_IsDoubt : Nat → Option Ann := fun _ => none
abbrev k_IsDoubt : List Nat := [0, 1, 2]
abbrev o_IsDoubt : List Nat := [1]
def a_l7Good (f_l1In : FuncId) : AFn := ⟨1, 
  .seq (.reg [⟨some 1, none, .w (.box 2 (.t 0))⟩,
    ⟨some 2, none, .d (.mv (.c (.bool false)))⟩])
  (.seq (.reg [⟨some 3, none, .d (.fa 1 (.t 1))⟩,
    ⟨some 4, none, .d (.load false 1 (.t 3))⟩,
    ⟨some 5, none, .d (.call (.f f_l1In) [(.t 4), (.c (.int .i64 1)), (.c (.int .i64 10))])⟩,
    ⟨some 6, none, .d (.mv (.t 5))⟩,
    ⟨some 7, some (6, true), .d (.fa 0 (.t 1))⟩,
    ⟨some 8, some (6, true), .d (.load false 1 (.t 7))⟩,
    ⟨some 9, some (6, true), .d (.fa 1 (.t 1))⟩,
    ⟨some 10, some (6, true), .d (.load false 1 (.t 9))⟩,
    ⟨some 11, some (6, true), .d (.call (.f f_l1In) [(.t 8), (.c (.int .i64 0)), (.t 10)])⟩,
    ⟨some 12, none, .d (.pick (.t 6) (.t 11) (.c (.bool false)))⟩,
    ⟨some 2, none, .d (.mv (.t 12))⟩])
  (.ret)), [.tmp 2]⟩
def n_l7Good : Nat → Option Ann := fun _ => none
abbrev k_l7Good : List Nat := [0, 1, 2]
abbrev o_l7Good : List Nat := [1]
def c_IsDoubt : Con := pure' fun
  | [.p (.agg [.int .i64 s, .int .i64 o])] => if (True) then some (.p (.bool (isD s o)), []) else none
  | _ => none
theorem s_IsDoubt {P : Program} (hm : P.follows .mixedOrders = true) {Γ : Gam} (hΓ : GS P Γ) {n : FuncId} {f_in : FuncId} (is : Is P n (a_IsDoubt f_in)) (h_in : Γ f_in = c_in)  : Says P n c_IsDoubt := by
  refine Says.pure fun args r fs h => ?_
  split at h
  case h_2 => cases h
  rename_i s o
  split at h
  case isFalse => cases h
  rename_i hc
  simp only [ofI_ints, ofBo_bools, ofAs_asks, Option.some.injEq, Prod.mk.injEq] at h hc
  obtain ⟨rfl, rfl⟩ := h
  cases h1 : (decide (1 ≤ o) && decide (o ≤ 10)) with
  | false =>
    have hb : isD s o = false := by simp only [isD, h1, Bool.false_and]
    refine is.go hm hΓ k_IsDoubt o_IsDoubt (by simp [a_IsDoubt]) ?_
    simp only [a_IsDoubt, h_in, c_in, h1, hb, List.zipIdx_cons, List.zipIdx_nil, ↓SP, SQ, Gam.add, stepM, callC, argC, lendO, nmBy, nmC, likeL, likeB, plainOb, offs, exL, X, F, trP, trO, stepD, stepW, newA, SV.tr, SV.trL, fz, allP, Ob.tr, loadA, cellsA, SV.cells, binA, binI, eqOut, isSl, isPt, natOf, callee, snap, SV.refsL, SV.refs, thaw, fzAll, loA, hiA, elemOf, partsA, buildA, putCells, ↓reduceIte, reduceCtorEq, okCell, Nat.reduceAdd, Nat.reduceEqDiff, Nat.reduceSub, Nat.reduceMul, Nat.reduceLeDiff, Nat.reduceLT, Nat.reduceBEq, PV.scal, PV.scalL, SV.scal, SV.scalL, Ob.scal, PV.isCell, pure', resO]
    exact finA_val (by simp [retA, rvA, mkE_cons, mk_nil, mkO_cons, mkO_nil, loadA, SV.tr, SV.trL, nmF, rn_nil, rn_cons1, rn_cons2, plainOb, SV.refsL, SV.refs, Ob.refs, X, F, List.range_succ, mkO, setO_mk]) (by simp [SV.tr, SV.trL])
  | true =>
    have hb : isD s o = (decide (0 ≤ s) && decide (s ≤ o)) := by simp only [isD, h1, Bool.true_and]
    refine is.go hm hΓ k_IsDoubt o_IsDoubt (by simp [a_IsDoubt]) ?_
    simp only [a_IsDoubt, h_in, c_in, h1, hb, List.zipIdx_cons, List.zipIdx_nil, ↓SP, SQ, Gam.add, stepM, callC, argC, lendO, nmBy, nmC, likeL, likeB, plainOb, offs, exL, X, F, trP, trO, stepD, stepW, newA, SV.tr, SV.trL, fz, allP, Ob.tr, loadA, cellsA, SV.cells, binA, binI, eqOut, isSl, isPt, natOf, callee, snap, SV.refsL, SV.refs, thaw, fzAll, loA, hiA, elemOf, partsA, buildA, putCells, ↓reduceIte, reduceCtorEq, okCell, Nat.reduceAdd, Nat.reduceEqDiff, Nat.reduceSub, Nat.reduceMul, Nat.reduceLeDiff, Nat.reduceLT, Nat.reduceBEq, PV.scal, PV.scalL, SV.scal, SV.scalL, Ob.scal, PV.isCell, pure', resO]
    exact finA_val (by simp [retA, rvA, mkE_cons, mk_nil, mkO_cons, mkO_nil, loadA, SV.tr, SV.trL, nmF, rn_nil, rn_cons1, rn_cons2, plainOb, SV.refsL, SV.refs, Ob.refs, X, F, List.range_succ, mkO, setO_mk]) (by simp [SV.tr, SV.trL])
theorem s_l7Good {P : Program} (hm : P.follows .mixedOrders = true) {Γ : Gam} (hΓ : GS P Γ) {n : FuncId} {f_l1In : FuncId} (is : Is P n (a_l7Good f_l1In)) (h_l1In : Γ f_l1In = c_in)  : Says P n c_IsDoubt := by
  refine Says.pure fun args r fs h => ?_
  split at h
  case h_2 => cases h
  rename_i s o
  split at h
  case isFalse => cases h
  rename_i hc
  simp only [ofI_ints, ofBo_bools, ofAs_asks, Option.some.injEq, Prod.mk.injEq] at h hc
  obtain ⟨rfl, rfl⟩ := h
  cases h1 : (decide (1 ≤ o) && decide (o ≤ 10)) with
  | false =>
    have hb : isD s o = false := by simp only [isD, h1, Bool.false_and]
    refine is.go hm hΓ k_l7Good o_l7Good (by simp [a_l7Good]) ?_
    simp only [a_l7Good, h_l1In, c_in, h1, hb, List.zipIdx_cons, List.zipIdx_nil, ↓SP, SQ, Gam.add, stepM, callC, argC, lendO, nmBy, nmC, likeL, likeB, plainOb, offs, exL, X, F, trP, trO, stepD, stepW, newA, SV.tr, SV.trL, fz, allP, Ob.tr, loadA, cellsA, SV.cells, binA, binI, eqOut, isSl, isPt, natOf, callee, snap, SV.refsL, SV.refs, thaw, fzAll, loA, hiA, elemOf, partsA, buildA, putCells, ↓reduceIte, reduceCtorEq, okCell, Nat.reduceAdd, Nat.reduceEqDiff, Nat.reduceSub, Nat.reduceMul, Nat.reduceLeDiff, Nat.reduceLT, Nat.reduceBEq, PV.scal, PV.scalL, SV.scal, SV.scalL, Ob.scal, PV.isCell, pure', resO]
    exact finA_val (by simp [retA, rvA, mkE_cons, mk_nil, mkO_cons, mkO_nil, loadA, SV.tr, SV.trL, nmF, rn_nil, rn_cons1, rn_cons2, plainOb, SV.refsL, SV.refs, Ob.refs, X, F, List.range_succ, mkO, setO_mk]) (by simp [SV.tr, SV.trL])
  | true =>
    have hb : isD s o = (decide (0 ≤ s) && decide (s ≤ o)) := by simp only [isD, h1, Bool.true_and]
    refine is.go hm hΓ k_l7Good o_l7Good (by simp [a_l7Good]) ?_
    simp only [a_l7Good, h_l1In, c_in, h1, hb, List.zipIdx_cons, List.zipIdx_nil, ↓SP, SQ, Gam.add, stepM, callC, argC, lendO, nmBy, nmC, likeL, likeB, plainOb, offs, exL, X, F, trP, trO, stepD, stepW, newA, SV.tr, SV.trL, fz, allP, Ob.tr, loadA, cellsA, SV.cells, binA, binI, eqOut, isSl, isPt, natOf, callee, snap, SV.refsL, SV.refs, thaw, fzAll, loA, hiA, elemOf, partsA, buildA, putCells, ↓reduceIte, reduceCtorEq, okCell, Nat.reduceAdd, Nat.reduceEqDiff, Nat.reduceSub, Nat.reduceMul, Nat.reduceLeDiff, Nat.reduceLT, Nat.reduceBEq, PV.scal, PV.scalL, SV.scal, SV.scalL, Ob.scal, PV.isCell, pure', resO]
    exact finA_val (by simp [retA, rvA, mkE_cons, mk_nil, mkO_cons, mkO_nil, loadA, SV.tr, SV.trL, nmF, rn_nil, rn_cons1, rn_cons2, plainOb, SV.refsL, SV.refs, Ob.refs, X, F, List.range_succ, mkO, setO_mk]) (by simp [SV.tr, SV.trL])
theorem pow_le {b e : Nat} (hb : b ≤ 10) (he : e ≤ 12) : b ^ e ≤ 10 ^ 12 := Nat.le_trans (Nat.pow_le_pow_left hb e) (Nat.pow_le_pow_right (by omega) he)
theorem pow_step {b i : Nat} (hb : b ≤ 10) (hi : i < 12) : IntKind.i64.wrap (((b ^ i : Nat) : Int) * (b : Int)) = ((b ^ (i + 1) : Nat) : Int) := by
  have h1 := pow_le (e := i + 1) hb (by omega)
  rw [← Int.natCast_mul, ← Nat.pow_succ]
  generalize b ^ (i + 1) = q at *
  exact wrap64 (by omega) (by omega)
def a_power : AFn := ⟨2, 
  .seq (.reg [⟨some 4, none, .d (.mv (.c (.int .i64 0)))⟩])
  (.seq (.reg [⟨some 5, none, .d (.mv (.c (.int .i64 1)))⟩])
  (.seq (.seq (.reg [⟨some 6, none, .d (.mv (.t 1))⟩,
    ⟨some 7, none, .d (.mv (.c (.int .i64 0)))⟩])
  (.block 0 (.loop (.seq (.reg [⟨some 8, none, .d (.bin .arith .lss (.t 7) (.t 6))⟩])
    (.seq (.cond (.t 8) (.skip) (.exit 0))
    (.seq (.block 1 (.reg [⟨some 9, none, .d (.mv (.t 5))⟩,
       ⟨some 10, none, .d (.mv (.t 0))⟩,
       ⟨some 11, none, .d (.bin .arith .mul (.t 9) (.t 10))⟩,
       ⟨some 5, none, .d (.mv (.t 11))⟩]))
    (.reg [⟨some 12, none, .d (.bin .arith .add (.t 7) (.c (.int .i64 1)))⟩,
      ⟨some 7, none, .d (.mv (.t 12))⟩])))))))
  (.seq (.reg [⟨some 13, none, .d (.mv (.t 5))⟩,
    ⟨some 4, none, .d (.mv (.t 13))⟩])
  (.ret)))), [.tmp 4]⟩
def n_power : Nat → Option Ann := fun _ => none
abbrev k_power : List Nat := [0, 1, 4, 5, 6, 7, 8]
abbrev o_power : List Nat := []
def a_l7Power : AFn := ⟨2, 
  .seq (.reg [⟨some 4, none, .d (.mv (.c (.int .i64 0)))⟩])
  (.seq (.reg [⟨some 5, none, .d (.mv (.c (.int .i64 1)))⟩])
  (.seq (.seq (.reg [⟨some 6, none, .d (.mv (.c (.int .i64 0)))⟩])
  (.block 0 (.loop (.seq (.seq (.reg [⟨some 7, none, .d (.mv (.t 6))⟩,
      ⟨some 8, none, .d (.mv (.t 1))⟩,
      ⟨some 9, none, .d (.bin .arith .lss (.t 7) (.t 8))⟩])
    (.cond (.t 9) (.skip) (.exit 0)))
    (.seq (.block 1 (.reg [⟨some 12, none, .d (.mv (.t 5))⟩,
       ⟨some 13, none, .d (.mv (.t 0))⟩,
       ⟨some 14, none, .d (.bin .arith .mul (.t 12) (.t 13))⟩,
       ⟨some 5, none, .d (.mv (.t 14))⟩]))
    (.reg [⟨some 10, none, .d (.mv (.t 6))⟩,
      ⟨some 11, none, .d (.bin .arith .add (.t 10) (.c (.int .i64 1)))⟩,
      ⟨some 6, none, .d (.mv (.t 11))⟩]))))))
  (.seq (.reg [⟨some 15, none, .d (.mv (.t 5))⟩,
    ⟨some 4, none, .d (.mv (.t 15))⟩])
  (.ret)))), [.tmp 4]⟩
def n_l7Power : Nat → Option Ann := fun _ => none
abbrev k_l7Power : List Nat := [0, 1, 4, 5, 6, 9]
abbrev o_l7Power : List Nat := []
def c_power : Con := pure' fun
  | [.p (.int .i64 b), .p (.int .i64 e)] => if (0 ≤ b ∧ b ≤ 10 ∧ 0 ≤ e ∧ e ≤ 12) then some (.p (.int .i64 ((b.toNat ^ e.toNat : Nat) : Int)), []) else none
  | _ => none
theorem s_power {P : Program} (hm : P.follows .mixedOrders = true) {Γ : Gam} (hΓ : GS P Γ) {n : FuncId} (is : Is P n a_power)  : Says P n c_power := by
  refine Says.pure fun args r fs h => ?_
  split at h
  case h_2 => cases h
  rename_i b e
  split at h
  case isFalse => cases h
  rename_i hc
  simp only [ofI_ints, ofBo_bools, ofAs_asks, Option.some.injEq, Prod.mk.injEq] at h hc
  obtain ⟨rfl, rfl⟩ := h
  obtain ⟨h0, h1, h2, h3⟩ := hc
  obtain ⟨b, rfl⟩ : ∃ j : Nat, b = j := ⟨b.toNat, by omega⟩
  obtain ⟨e, rfl⟩ : ∃ j : Nat, e = j := ⟨e.toNat, by omega⟩
  simp only [Int.toNat_natCast]
  refine is.go hm hΓ k_power o_power (by simp [a_power]) ?_
  simp only [a_power, List.zipIdx_cons, List.zipIdx_nil, ↓SP, SQ, Gam.add, stepM, callC, argC, lendO, nmBy, nmC, likeL, likeB, plainOb, offs, exL, X, F, trP, trO, stepD, stepW, newA, SV.tr, SV.trL, fz, allP, Ob.tr, loadA, cellsA, SV.cells, binA, binI, eqOut, isSl, isPt, natOf, callee, snap, SV.refsL, SV.refs, thaw, fzAll, loA, hiA, elemOf, partsA, buildA, putCells, ↓reduceIte, reduceCtorEq, okCell, Nat.reduceAdd, Nat.reduceEqDiff, Nat.reduceSub, Nat.reduceMul, Nat.reduceLeDiff, Nat.reduceLT, Nat.reduceBEq, PV.scal, PV.scalL, SV.scal, SV.scalL, Ob.scal, PV.isCell, pure', resO]
  refine loop_at (fun s : Nat × SV => mkEnv [(0, si b), (1, si e), (4, si 0), (5, si ((b ^ s.1 : Nat) : Int)), (6, si e), (7, si s.1), (8, s.2)]) (fun s => mkO []) (fun s => s.1 ≤ e) (fun s => e - s.1) (0, .junk) (by simp) rfl rfl ?_
  rintro ⟨i, c1⟩ hi R hR hN
  simp only at hi
  by_cases h : i < e
  · have h1' : (i : Int) < e := by omega
    have hw := wrap_one (i := i) (by omega)
    have hp := pow_step (b := b) (i := i) (by omega) (by omega)
    simp only [h1', hw, hp, ↓SP, SQ, Gam.add, stepM, callC, argC, lendO, nmBy, nmC, likeL, likeB, plainOb, offs, exL, X, F, trP, trO, stepD, stepW, newA, SV.tr, SV.trL, fz, allP, Ob.tr, loadA, cellsA, SV.cells, binA, binI, eqOut, isSl, isPt, natOf, callee, snap, SV.refsL, SV.refs, thaw, fzAll, loA, hiA, elemOf, partsA, buildA, putCells, ↓reduceIte, reduceCtorEq, okCell, Nat.reduceAdd, Nat.reduceEqDiff, Nat.reduceSub, Nat.reduceMul, Nat.reduceLeDiff, Nat.reduceLT, Nat.reduceBEq, PV.scal, PV.scalL, SV.scal, SV.scalL, Ob.scal, PV.isCell, pure', resO]
    exact hN (i + 1, _) _ _ (by simp only; omega) (by simp only; omega) rfl rfl
  · have he : i = e := by omega
    have h1' : ¬ (i : Int) < e := by omega
    simp only [h1', ↓SP, SQ, Gam.add, stepM, callC, argC, lendO, nmBy, nmC, likeL, likeB, plainOb, offs, exL, X, F, trP, trO, stepD, stepW, newA, SV.tr, SV.trL, fz, allP, Ob.tr, loadA, cellsA, SV.cells, binA, binI, eqOut, isSl, isPt, natOf, callee, snap, SV.refsL, SV.refs, thaw, fzAll, loA, hiA, elemOf, partsA, buildA, putCells, ↓reduceIte, reduceCtorEq, okCell, Nat.reduceAdd, Nat.reduceEqDiff, Nat.reduceSub, Nat.reduceMul, Nat.reduceLeDiff, Nat.reduceLT, Nat.reduceBEq, PV.scal, PV.scalL, SV.scal, SV.scalL, Ob.scal, PV.isCell, pure', resO]
    refine hR _ _ _ (by intro h; cases h) ?_
    simp only [↓SP, SQ, Gam.add, stepM, callC, argC, lendO, nmBy, nmC, likeL, likeB, plainOb, offs, exL, X, F, trP, trO, stepD, stepW, newA, SV.tr, SV.trL, fz, allP, Ob.tr, loadA, cellsA, SV.cells, binA, binI, eqOut, isSl, isPt, natOf, callee, snap, SV.refsL, SV.refs, thaw, fzAll, loA, hiA, elemOf, partsA, buildA, putCells, ↓reduceIte, reduceCtorEq, okCell, Nat.reduceAdd, Nat.reduceEqDiff, Nat.reduceSub, Nat.reduceMul, Nat.reduceLeDiff, Nat.reduceLT, Nat.reduceBEq, PV.scal, PV.scalL, SV.scal, SV.scalL, Ob.scal, PV.isCell, pure', resO]
    subst he
    exact finA_val (by simp [retA, rvA, mkE_cons, mk_nil, mkO_cons, mkO_nil, loadA, SV.tr, SV.trL, nmF, rn_nil, rn_cons1, rn_cons2, plainOb, SV.refsL, SV.refs, Ob.refs, X, F, List.range_succ, mkO, setO_mk]) (by simp [SV.tr, SV.trL])
theorem s_l7Power {P : Program} (hm : P.follows .mixedOrders = true) {Γ : Gam} (hΓ : GS P Γ) {n : FuncId} (is : Is P n a_l7Power)  : Says P n c_power := by
  refine Says.pure fun args r fs h => ?_
  split at h
  case h_2 => cases h
  rename_i b e
  split at h
  case isFalse => cases h
  rename_i hc
  simp only [ofI_ints, ofBo_bools, ofAs_asks, Option.some.injEq, Prod.mk.injEq] at h hc
  obtain ⟨rfl, rfl⟩ := h
  obtain ⟨h0, h1, h2, h3⟩ := hc
  obtain ⟨b, rfl⟩ : ∃ j : Nat, b = j := ⟨b.toNat, by omega⟩
  obtain ⟨e, rfl⟩ : ∃ j : Nat, e = j := ⟨e.toNat, by omega⟩
  simp only [Int.toNat_natCast]
  refine is.go hm hΓ k_l7Power o_l7Power (by simp [a_l7Power]) ?_
  simp only [a_l7Power, List.zipIdx_cons, List.zipIdx_nil, ↓SP, SQ, Gam.add, stepM, callC, argC, lendO, nmBy, nmC, likeL, likeB, plainOb, offs, exL, X, F, trP, trO, stepD, stepW, newA, SV.tr, SV.trL, fz, allP, Ob.tr, loadA, cellsA, SV.cells, binA, binI, eqOut, isSl, isPt, natOf, callee, snap, SV.refsL, SV.refs, thaw, fzAll, loA, hiA, elemOf, partsA, buildA, putCells, ↓reduceIte, reduceCtorEq, okCell, Nat.reduceAdd, Nat.reduceEqDiff, Nat.reduceSub, Nat.reduceMul, Nat.reduceLeDiff, Nat.reduceLT, Nat.reduceBEq, PV.scal, PV.scalL, SV.scal, SV.scalL, Ob.scal, PV.isCell, pure', resO]
  refine loop_at (fun s : Nat × SV => mkEnv [(0, si b), (1, si e), (4, si 0), (5, si ((b ^ s.1 : Nat) : Int)), (6, si s.1), (9, s.2)]) (fun s => mkO []) (fun s => s.1 ≤ e) (fun s => e - s.1) (0, .junk) (by simp) rfl rfl ?_
  rintro ⟨i, c1⟩ hi R hR hN
  simp only at hi
  by_cases h : i < e
  · have h1' : (i : Int) < e := by omega
    have hw := wrap_one (i := i) (by omega)
    have hp := pow_step (b := b) (i := i) (by omega) (by omega)
    simp only [h1', hw, hp, ↓SP, SQ, Gam.add, stepM, callC, argC, lendO, nmBy, nmC, likeL, likeB, plainOb, offs, exL, X, F, trP, trO, stepD, stepW, newA, SV.tr, SV.trL, fz, allP, Ob.tr, loadA, cellsA, SV.cells, binA, binI, eqOut, isSl, isPt, natOf, callee, snap, SV.refsL, SV.refs, thaw, fzAll, loA, hiA, elemOf, partsA, buildA, putCells, ↓reduceIte, reduceCtorEq, okCell, Nat.reduceAdd, Nat.reduceEqDiff, Nat.reduceSub, Nat.reduceMul, Nat.reduceLeDiff, Nat.reduceLT, Nat.reduceBEq, PV.scal, PV.scalL, SV.scal, SV.scalL, Ob.scal, PV.isCell, pure', resO]
    exact hN (i + 1, _) _ _ (by simp only; omega) (by simp only; omega) rfl rfl
  · have he : i = e := by omega
    have h1' : ¬ (i : Int) < e := by omega
    simp only [h1', ↓SP, SQ, Gam.add, stepM, callC, argC, lendO, nmBy, nmC, likeL, likeB, plainOb, offs, exL, X, F, trP, trO, stepD, stepW, newA, SV.tr, SV.trL, fz, allP, Ob.tr, loadA, cellsA, SV.cells, binA, binI, eqOut, isSl, isPt, natOf, callee, snap, SV.refsL, SV.refs, thaw, fzAll, loA, hiA, elemOf, partsA, buildA, putCells, ↓reduceIte, reduceCtorEq, okCell, Nat.reduceAdd, Nat.reduceEqDiff, Nat.reduceSub, Nat.reduceMul, Nat.reduceLeDiff, Nat.reduceLT, Nat.reduceBEq, PV.scal, PV.scalL, SV.scal, SV.scalL, Ob.scal, PV.isCell, pure', resO]
    refine hR _ _ _ (by intro h; cases h) ?_
    simp only [↓SP, SQ, Gam.add, stepM, callC, argC, lendO, nmBy, nmC, likeL, likeB, plainOb, offs, exL, X, F, trP, trO, stepD, stepW, newA, SV.tr, SV.trL, fz, allP, Ob.tr, loadA, cellsA, SV.cells, binA, binI, eqOut, isSl, isPt, natOf, callee, snap, SV.refsL, SV.refs, thaw, fzAll, loA, hiA, elemOf, partsA, buildA, putCells, ↓reduceIte, reduceCtorEq, okCell, Nat.reduceAdd, Nat.reduceEqDiff, Nat.reduceSub, Nat.reduceMul, Nat.reduceLeDiff, Nat.reduceLT, Nat.reduceBEq, PV.scal, PV.scalL, SV.scal, SV.scalL, Ob.scal, PV.isCell, pure', resO]
    subst he
    exact finA_val (by simp [retA, rvA, mkE_cons, mk_nil, mkO_cons, mkO_nil, loadA, SV.tr, SV.trL, nmF, rn_nil, rn_cons1, rn_cons2, plainOb, SV.refsL, SV.refs, Ob.refs, X, F, List.range_succ, mkO, setO_mk]) (by simp [SV.tr, SV.trL])
/-- The share of k lies among n answers. -/
def partN (s o n k : Nat) : Nat := s ^ k * (o - s) ^ (n - k)
theorem partN_le {s o n k : Nat} (h1 : s ≤ o) (h2 : o ≤ 10) (h3 : k ≤ n) (h4 : n ≤ 12) : partN s o n k ≤ 10 ^ 12 := by
  have a : s ^ k ≤ 10 ^ k := Nat.pow_le_pow_left (by omega) k
  have b : (o - s) ^ (n - k) ≤ 10 ^ (n - k) := Nat.pow_le_pow_left (by omega) (n - k)
  have c : 10 ^ k * 10 ^ (n - k) = 10 ^ n := by rw [← Nat.pow_add]; congr 1; omega
  have d : 10 ^ n ≤ 10 ^ 12 := Nat.pow_le_pow_right (by omega) h4
  exact Nat.le_trans (Nat.le_trans (Nat.mul_le_mul a b) (Nat.le_of_eq c)) d
theorem isD_out {s o : Int} (h : isD s o = true) : 1 ≤ o ∧ o ≤ 10 ∧ 0 ≤ s ∧ s ≤ o := by
  simp only [isD, Bool.and_eq_true, decide_eq_true_eq] at h; omega
def a_ofThese (f_power : FuncId) : AFn := ⟨3, 
  .seq (.reg [⟨some 3, none, .w (.box 2 (.t 0))⟩,
    ⟨some 6, none, .d (.mv (.c (.int .i64 0)))⟩])
  (.seq (.dreg [] [([], ⟨some 7, none, .d (.fa 0 (.t 3))⟩),
    ([], ⟨some 8, none, .d (.load false 1 (.t 7))⟩),
    ([], ⟨some 9, none, .d (.mv (.t 2))⟩),
    ([], ⟨some 10, none, .d (.call (.f f_power) [(.t 8), (.t 9)])⟩),
    ([], ⟨some 11, none, .d (.fa 1 (.t 3))⟩),
    ([], ⟨some 12, none, .d (.load false 1 (.t 11))⟩),
    ([], ⟨some 13, none, .d (.fa 0 (.t 3))⟩),
    ([], ⟨some 14, none, .d (.load false 1 (.t 13))⟩),
    ([], ⟨some 15, none, .d (.bin .arith .sub (.t 12) (.t 14))⟩),
    ([], ⟨some 16, none, .d (.mv (.t 1))⟩),
    ([], ⟨some 17, none, .d (.mv (.t 2))⟩),
    ([], ⟨some 18, none, .d (.bin .arith .sub (.t 16) (.t 17))⟩)] [⟨some 19, none, .d (.call (.f f_power) [(.t 15), (.t 18)])⟩,
    ⟨some 20, none, .d (.bin .arith .mul (.t 10) (.t 19))⟩,
    ⟨some 6, none, .d (.mv (.t 20))⟩])
  (.ret)), [.tmp 6]⟩
def n_ofThese : Nat → Option Ann := fun _ => none
abbrev k_ofThese : List Nat := [0, 1, 2, 3, 6]
abbrev o_ofThese : List Nat := [3]
def c_ofThese : Con := pure' fun
  | [.p (.agg [.int .i64 s, .int .i64 o]), .p (.int .i64 n), .p (.int .i64 k)] => if (isD s o = true ∧ 0 ≤ k ∧ k ≤ n ∧ n ≤ 12) then some (.p (.int .i64 (partN s.toNat o.toNat n.toNat k.toNat : Int)), []) else none
  | _ => none
theorem s_ofThese {P : Program} (hm : P.follows .mixedOrders = true) {Γ : Gam} (hΓ : GS P Γ) {n : FuncId} {f_power : FuncId} (is : Is P n (a_ofThese f_power)) (h_power : Γ f_power = c_power)  : Says P n c_ofThese := by
  refine Says.pure fun args r fs h => ?_
  split at h
  case h_2 => cases h
  rename_i s o n k
  split at h
  case isFalse => cases h
  rename_i hc
  simp only [ofI_ints, ofBo_bools, ofAs_asks, Option.some.injEq, Prod.mk.injEq] at h hc
  obtain ⟨rfl, rfl⟩ := h
  obtain ⟨hd, h2, h3, h4⟩ := hc
  obtain ⟨d1, d2, d3, d4⟩ := isD_out hd
  obtain ⟨s, rfl⟩ : ∃ j : Nat, s = j := ⟨s.toNat, by omega⟩
  obtain ⟨o, rfl⟩ : ∃ j : Nat, o = j := ⟨o.toNat, by omega⟩
  obtain ⟨n, rfl⟩ : ∃ j : Nat, n = j := ⟨n.toNat, by omega⟩
  obtain ⟨k, rfl⟩ : ∃ j : Nat, k = j := ⟨k.toNat, by omega⟩
  simp only [Int.toNat_natCast]
  have w1 : IntKind.i64.wrap ((o : Int) - s) = ((o - s : Nat) : Int) := by rw [wrap64 (by omega) (by omega)]; omega
  have w2 : IntKind.i64.wrap ((n : Int) - k) = ((n - k : Nat) : Int) := by rw [wrap64 (by omega) (by omega)]; omega
  have g1 : (0 : Int) ≤ s := by omega
  have g2 : (s : Int) ≤ 10 := by omega
  have g3 : (0 : Int) ≤ k := by omega
  have g4 : (k : Int) ≤ 12 := by omega
  have g5 : (0 : Int) ≤ ((o - s : Nat) : Int) := by omega
  have g6 : ((o - s : Nat) : Int) ≤ 10 := by omega
  have g7 : (0 : Int) ≤ ((n - k : Nat) : Int) := by omega
  have g8 : ((n - k : Nat) : Int) ≤ 12 := by omega
  have hp := partN_le (s := s) (o := o) (n := n) (k := k) (by omega) (by omega) (by omega) (by omega)
  have hmul : IntKind.i64.wrap (((s ^ k : Nat) : Int) * (((o - s) ^ (n - k) : Nat) : Int)) = (partN s o n k : Int) := by
    rw [← Int.natCast_mul]
    show IntKind.i64.wrap ((partN s o n k : Nat) : Int) = _
    exact wrap64 (by omega) (by omega)
  refine is.go hm hΓ k_ofThese o_ofThese (by simp [a_ofThese]) ?_
  simp only [a_ofThese, h_power, c_power, w1, w2, g1, g2, g3, g4, g5, g6, g7, g8, hmul, Int.toNat_natCast, List.zipIdx_cons, List.zipIdx_nil, ↓SP, SQ, Gam.add, stepM, callC, argC, lendO, nmBy, nmC, likeL, likeB, plainOb, offs, exL, X, F, trP, trO, stepD, stepW, newA, SV.tr, SV.trL, fz, allP, Ob.tr, loadA, cellsA, SV.cells, binA, binI, eqOut, isSl, isPt, natOf, callee, snap, SV.refsL, SV.refs, thaw, fzAll, loA, hiA, elemOf, partsA, buildA, putCells, ↓reduceIte, reduceCtorEq, okCell, Nat.reduceAdd, Nat.reduceEqDiff, Nat.reduceSub, Nat.reduceMul, Nat.reduceLeDiff, Nat.reduceLT, Nat.reduceBEq, PV.scal, PV.scalL, SV.scal, SV.scalL, Ob.scal, PV.isCell, pure', resO]
  exact finA_val (by simp [retA, rvA, mkE_cons, mk_nil, mkO_cons, mkO_nil, loadA, SV.tr, SV.trL, nmF, rn_nil, rn_cons1, rn_cons2, plainOb, SV.refsL, SV.refs, Ob.refs, X, F, List.range_succ, mkO, setO_mk]) (by simp [SV.tr, SV.trL])
def a_l7Parts (f_l7Power : FuncId) : AFn := ⟨3, 
  .seq (.reg [⟨some 5, none, .w (.box 2 (.t 2))⟩,
    ⟨some 6, none, .d (.mv (.c (.int .i64 0)))⟩])
  (.seq (.dreg [] [([], ⟨some 7, none, .d (.fa 0 (.t 5))⟩),
    ([], ⟨some 8, none, .d (.load false 1 (.t 7))⟩),
    ([], ⟨some 9, none, .d (.mv (.t 1))⟩),
    ([], ⟨some 10, none, .d (.call (.f f_l7Power) [(.t 8), (.t 9)])⟩),
    ([], ⟨some 11, none, .d (.fa 1 (.t 5))⟩),
    ([], ⟨some 12, none, .d (.load false 1 (.t 11))⟩),
    ([], ⟨some 13, none, .d (.fa 0 (.t 5))⟩),
    ([], ⟨some 14, none, .d (.load false 1 (.t 13))⟩),
    ([], ⟨some 15, none, .d (.bin .arith .sub (.t 12) (.t 14))⟩),
    ([], ⟨some 16, none, .d (.mv (.t 0))⟩),
    ([], ⟨some 17, none, .d (.mv (.t 1))⟩),
    ([], ⟨some 18, none, .d (.bin .arith .sub (.t 16) (.t 17))⟩)] [⟨some 19, none, .d (.call (.f f_l7Power) [(.t 15), (.t 18)])⟩,
    ⟨some 20, none, .d (.bin .arith .mul (.t 10) (.t 19))⟩,
    ⟨some 6, none, .d (.mv (.t 20))⟩])
  (.ret)), [.tmp 6]⟩
def n_l7Parts : Nat → Option Ann := fun _ => none
abbrev k_l7Parts : List Nat := [0, 1, 2, 5, 6]
abbrev o_l7Parts : List Nat := [5]
def c_l7Parts : Con := pure' fun
  | [.p (.int .i64 n), .p (.int .i64 k), .p (.agg [.int .i64 s, .int .i64 o])] => if (isD s o = true ∧ 0 ≤ k ∧ k ≤ n ∧ n ≤ 12) then some (.p (.int .i64 (partN s.toNat o.toNat n.toNat k.toNat : Int)), []) else none
  | _ => none
theorem s_l7Parts {P : Program} (hm : P.follows .mixedOrders = true) {Γ : Gam} (hΓ : GS P Γ) {n : FuncId} {f_l7Power : FuncId} (is : Is P n (a_l7Parts f_l7Power)) (h_l7Power : Γ f_l7Power = c_power)  : Says P n c_l7Parts := by
  refine Says.pure fun args r fs h => ?_
  split at h
  case h_2 => cases h
  rename_i n k s o
  split at h
  case isFalse => cases h
  rename_i hc
  simp only [ofI_ints, ofBo_bools, ofAs_asks, Option.some.injEq, Prod.mk.injEq] at h hc
  obtain ⟨rfl, rfl⟩ := h
  obtain ⟨hd, h2, h3, h4⟩ := hc
  obtain ⟨d1, d2, d3, d4⟩ := isD_out hd
  obtain ⟨s, rfl⟩ : ∃ j : Nat, s = j := ⟨s.toNat, by omega⟩
  obtain ⟨o, rfl⟩ : ∃ j : Nat, o = j := ⟨o.toNat, by omega⟩
  obtain ⟨n, rfl⟩ : ∃ j : Nat, n = j := ⟨n.toNat, by omega⟩
  obtain ⟨k, rfl⟩ : ∃ j : Nat, k = j := ⟨k.toNat, by omega⟩
  simp only [Int.toNat_natCast]
  have w1 : IntKind.i64.wrap ((o : Int) - s) = ((o - s : Nat) : Int) := by rw [wrap64 (by omega) (by omega)]; omega
  have w2 : IntKind.i64.wrap ((n : Int) - k) = ((n - k : Nat) : Int) := by rw [wrap64 (by omega) (by omega)]; omega
  have g1 : (0 : Int) ≤ s := by omega
  have g2 : (s : Int) ≤ 10 := by omega
  have g3 : (0 : Int) ≤ k := by omega
  have g4 : (k : Int) ≤ 12 := by omega
  have g5 : (0 : Int) ≤ ((o - s : Nat) : Int) := by omega
  have g6 : ((o - s : Nat) : Int) ≤ 10 := by omega
  have g7 : (0 : Int) ≤ ((n - k : Nat) : Int) := by omega
  have g8 : ((n - k : Nat) : Int) ≤ 12 := by omega
  have hp := partN_le (s := s) (o := o) (n := n) (k := k) (by omega) (by omega) (by omega) (by omega)
  have hmul : IntKind.i64.wrap (((s ^ k : Nat) : Int) * (((o - s) ^ (n - k) : Nat) : Int)) = (partN s o n k : Int) := by
    rw [← Int.natCast_mul]
    show IntKind.i64.wrap ((partN s o n k : Nat) : Int) = _
    exact wrap64 (by omega) (by omega)
  refine is.go hm hΓ k_l7Parts o_l7Parts (by simp [a_l7Parts]) ?_
  simp only [a_l7Parts, h_l7Power, c_power, w1, w2, g1, g2, g3, g4, g5, g6, g7, g8, hmul, Int.toNat_natCast, List.zipIdx_cons, List.zipIdx_nil, ↓SP, SQ, Gam.add, stepM, callC, argC, lendO, nmBy, nmC, likeL, likeB, plainOb, offs, exL, X, F, trP, trO, stepD, stepW, newA, SV.tr, SV.trL, fz, allP, Ob.tr, loadA, cellsA, SV.cells, binA, binI, eqOut, isSl, isPt, natOf, callee, snap, SV.refsL, SV.refs, thaw, fzAll, loA, hiA, elemOf, partsA, buildA, putCells, ↓reduceIte, reduceCtorEq, okCell, Nat.reduceAdd, Nat.reduceEqDiff, Nat.reduceSub, Nat.reduceMul, Nat.reduceLeDiff, Nat.reduceLT, Nat.reduceBEq, PV.scal, PV.scalL, SV.scal, SV.scalL, Ob.scal, PV.isCell, pure', resO]
  exact finA_val (by simp [retA, rvA, mkE_cons, mk_nil, mkO_cons, mkO_nil, loadA, SV.tr, SV.trL, nmF, rn_nil, rn_cons1, rn_cons2, plainOb, SV.refsL, SV.refs, Ob.refs, X, F, List.range_succ, mkO, setO_mk]) (by simp [SV.tr, SV.trL])
def a_l1Most : AFn := ⟨2, 
  .seq (.reg [⟨some 4, none, .d (.mv (.c (.int .i64 0)))⟩])
  (.seq (.seq (.reg [⟨some 5, none, .d (.mv (.t 0))⟩,
    ⟨some 6, none, .d (.mv (.t 1))⟩,
    ⟨some 7, none, .d (.bin .arith .gtr (.t 5) (.t 6))⟩])
  (.cond (.t 7) (.seq (.reg [⟨some 8, none, .d (.mv (.t 0))⟩,
     ⟨some 4, none, .d (.mv (.t 8))⟩])
   (.ret)) (.skip)))
  (.seq (.reg [⟨some 9, none, .d (.mv (.t 1))⟩,
    ⟨some 4, none, .d (.mv (.t 9))⟩])
  (.ret))), [.tmp 4]⟩
def n_l1Most : Nat → Option Ann := fun _ => none
abbrev k_l1Most : List Nat := [0, 1, 4, 7]
abbrev o_l1Most : List Nat := []
def c_l1Most : Con := pure' fun
  | [.p (.int .i64 a), .p (.int .i64 b)] => if (True) then some (.p (.int .i64 (if a > b then a else b)), []) else none
  | _ => none
theorem s_l1Most {P : Program} (hm : P.follows .mixedOrders = true) {Γ : Gam} (hΓ : GS P Γ) {n : FuncId} (is : Is P n a_l1Most)  : Says P n c_l1Most := by
  refine Says.pure fun args r fs h => ?_
  split at h
  case h_2 => cases h
  rename_i a b
  split at h
  case isFalse => cases h
  rename_i hc
  simp only [ofI_ints, ofBo_bools, ofAs_asks, Option.some.injEq, Prod.mk.injEq] at h hc
  obtain ⟨rfl, rfl⟩ := h
  by_cases h : a > b
  · refine is.go hm hΓ k_l1Most o_l1Most (by simp [a_l1Most]) ?_
    simp only [a_l1Most, h, List.zipIdx_cons, List.zipIdx_nil, ↓SP, SQ, Gam.add, stepM, callC, argC, lendO, nmBy, nmC, likeL, likeB, plainOb, offs, exL, X, F, trP, trO, stepD, stepW, newA, SV.tr, SV.trL, fz, allP, Ob.tr, loadA, cellsA, SV.cells, binA, binI, eqOut, isSl, isPt, natOf, callee, snap, SV.refsL, SV.refs, thaw, fzAll, loA, hiA, elemOf, partsA, buildA, putCells, ↓reduceIte, reduceCtorEq, okCell, Nat.reduceAdd, Nat.reduceEqDiff, Nat.reduceSub, Nat.reduceMul, Nat.reduceLeDiff, Nat.reduceLT, Nat.reduceBEq, PV.scal, PV.scalL, SV.scal, SV.scalL, Ob.scal, PV.isCell, pure', resO]
    exact finA_val (by simp [retA, rvA, mkE_cons, mk_nil, mkO_cons, mkO_nil, loadA, SV.tr, SV.trL, nmF, rn_nil, rn_cons1, rn_cons2, plainOb, SV.refsL, SV.refs, Ob.refs, X, F, List.range_succ, mkO, setO_mk]) (by simp [SV.tr, SV.trL])
  · refine is.go hm hΓ k_l1Most o_l1Most (by simp [a_l1Most]) ?_
    simp only [a_l1Most, h, List.zipIdx_cons, List.zipIdx_nil, ↓SP, SQ, Gam.add, stepM, callC, argC, lendO, nmBy, nmC, likeL, likeB, plainOb, offs, exL, X, F, trP, trO, stepD, stepW, newA, SV.tr, SV.trL, fz, allP, Ob.tr, loadA, cellsA, SV.cells, binA, binI, eqOut, isSl, isPt, natOf, callee, snap, SV.refsL, SV.refs, thaw, fzAll, loA, hiA, elemOf, partsA, buildA, putCells, ↓reduceIte, reduceCtorEq, okCell, Nat.reduceAdd, Nat.reduceEqDiff, Nat.reduceSub, Nat.reduceMul, Nat.reduceLeDiff, Nat.reduceLT, Nat.reduceBEq, PV.scal, PV.scalL, SV.scal, SV.scalL, Ob.scal, PV.isCell, pure', resO]
    exact finA_val (by simp [retA, rvA, mkE_cons, mk_nil, mkO_cons, mkO_nil, loadA, SV.tr, SV.trL, nmF, rn_nil, rn_cons1, rn_cons2, plainOb, SV.refsL, SV.refs, Ob.refs, X, F, List.range_succ, mkO, setO_mk]) (by simp [SV.tr, SV.trL])
theorem shlM {k : Nat} (h : k ≤ 12) : IntKind.i64.wrap (1 * 2 ^ min k IntKind.i64.bits) = ((2 ^ k : Nat) : Int) := by
  have : k = 0 ∨ k = 1 ∨ k = 2 ∨ k = 3 ∨ k = 4 ∨ k = 5 ∨ k = 6 ∨ k = 7 ∨ k = 8 ∨ k = 9 ∨ k = 10 ∨ k = 11 ∨ k = 12 := by omega
  rcases this with h | h | h | h | h | h | h | h | h | h | h | h | h <;> subst h <;> decide
theorem pow12 {k : Nat} (h : k ≤ 12) : 2 ^ k ≤ 4096 := Nat.pow_le_pow_right (by omega) h
def frN (a b : Nat) : Int := ((a / Nat.gcd a b : Nat) : Int)
def frD (a b : Nat) : Int := ((b / Nat.gcd a b : Nat) : Int)
def a_fraction : AFn := ⟨2, 
  .seq (.reg [⟨some 4, none, .w (.alloc [.int .i64 0, .int .i64 0])⟩])
  (.seq (.reg [⟨some 7, none, .d (.mv (.t 0))⟩,
    ⟨some 8, none, .d (.mv (.t 1))⟩,
    ⟨some 5, none, .d (.mv (.t 7))⟩,
    ⟨some 6, none, .d (.mv (.t 8))⟩])
  (.seq (.block 0 (.loop (.seq (.seq (.reg [⟨some 9, none, .d (.mv (.t 6))⟩,
      ⟨some 10, none, .d (.bin .arith .neq (.t 9) (.c (.int .i64 0)))⟩])
    (.cond (.t 10) (.skip) (.exit 0)))
    (.block 1 (.dreg [] [([], ⟨some 11, none, .d (.mv (.t 6))⟩),
       ([], ⟨some 12, none, .d (.mv (.t 5))⟩),
       ([], ⟨some 13, none, .d (.mv (.t 6))⟩),
       ([], ⟨some 14, none, .d (.bin .arith .rem (.t 12) (.t 13))⟩),
       ([], ⟨some 5, none, .d (.mv (.t 11))⟩)] [⟨some 6, none, .d (.mv (.t 14))⟩])))))
  (.seq (.dreg [] [([], ⟨some 15, none, .d (.mv (.t 0))⟩),
    ([], ⟨some 16, none, .d (.mv (.t 5))⟩),
    ([], ⟨some 17, none, .d (.bin .arith .quo (.t 15) (.t 16))⟩),
    ([], ⟨some 18, none, .d (.mv (.t 1))⟩),
    ([], ⟨some 19, none, .d (.mv (.t 5))⟩),
    ([], ⟨some 20, none, .d (.bin .arith .quo (.t 18) (.t 19))⟩)] [⟨some 21, none, .d (.build [.int .i64 0, .int .i64 0] [(0, 1, (.t 17)), (1, 1, (.t 20))])⟩,
    ⟨none, none, .w (.store 2 (.t 4) (.t 21))⟩])
  (.ret)))), [.cell 4 2 true]⟩
def n_fraction : Nat → Option Ann := fun _ => none
abbrev k_fraction : List Nat := [0, 1, 4, 5, 6, 10]
abbrev o_fraction : List Nat := [4]
def a_l7Cut (f_l1Most : FuncId) : AFn := ⟨2, 
  .seq (.reg [⟨some 4, none, .w (.alloc [.int .i64 0, .int .i64 0])⟩])
  (.seq (.reg [⟨some 7, none, .d (.mv (.t 0))⟩,
    ⟨some 8, none, .d (.mv (.t 1))⟩,
    ⟨some 5, none, .d (.mv (.t 7))⟩,
    ⟨some 6, none, .d (.mv (.t 8))⟩])
  (.seq (.block 0 (.loop (.seq (.seq (.reg [⟨some 9, none, .d (.mv (.t 6))⟩,
      ⟨some 10, none, .d (.bin .arith .gtr (.t 9) (.c (.int .i64 0)))⟩])
    (.cond (.t 10) (.skip) (.exit 0)))
    (.block 1 (.dreg [] [([], ⟨some 11, none, .d (.mv (.t 6))⟩),
       ([], ⟨some 12, none, .d (.mv (.t 5))⟩),
       ([], ⟨some 13, none, .d (.mv (.t 6))⟩),
       ([], ⟨some 14, none, .d (.bin .arith .rem (.t 12) (.t 13))⟩),
       ([], ⟨some 5, none, .d (.mv (.t 11))⟩)] [⟨some 6, none, .d (.mv (.t 14))⟩])))))
  (.seq (.dreg [] [([], ⟨some 15, none, .d (.mv (.t 0))⟩),
    ([], ⟨some 16, none, .d (.mv (.t 5))⟩),
    ([], ⟨some 17, none, .d (.call (.f f_l1Most) [(.t 16), (.c (.int .i64 1))])⟩),
    ([], ⟨some 18, none, .d (.bin .arith .quo (.t 15) (.t 17))⟩),
    ([], ⟨some 19, none, .d (.mv (.t 1))⟩),
    ([], ⟨some 20, none, .d (.mv (.t 5))⟩),
    ([], ⟨some 21, none, .d (.call (.f f_l1Most) [(.t 20), (.c (.int .i64 1))])⟩),
    ([], ⟨some 22, none, .d (.bin .arith .quo (.t 19) (.t 21))⟩)] [⟨some 23, none, .d (.build [.int .i64 0, .int .i64 0] [(0, 1, (.t 18)), (1, 1, (.t 22))])⟩,
    ⟨none, none, .w (.store 2 (.t 4) (.t 23))⟩])
  (.ret)))), [.cell 4 2 true]⟩
def n_l7Cut : Nat → Option Ann := fun _ => none
abbrev k_l7Cut : List Nat := [0, 1, 4, 5, 6, 10]
abbrev o_l7Cut : List Nat := [4]
def c_fraction : Con := pure' fun
  | [.p (.int .i64 a), .p (.int .i64 b)] => if (0 ≤ a ∧ a ≤ 4000000000000000000 ∧ 0 < b ∧ b ≤ 4000000000000000000) then some (.ag [.p (.int .i64 (frN a.toNat b.toNat)), .p (.int .i64 (frD a.toNat b.toNat))], []) else none
  | _ => none
theorem gcd_step {x y a b : Nat} (h : Nat.gcd x y = Nat.gcd a b) : Nat.gcd y (x % y) = Nat.gcd a b := by
  rw [← h, Nat.gcd_comm x y, Nat.gcd_rec y x, Nat.gcd_comm]
theorem div_wrap {a g : Nat} (h : a ≤ 4000000000000000000) : IntKind.i64.wrap ((a : Int).tdiv (g : Int)) = ((a / g : Nat) : Int) := by
  have h3 : a / g ≤ a := Nat.div_le_self _ _
  rw [← Int.ofNat_tdiv]
  generalize a / g = q at *
  exact wrap64 (by omega) (by omega)
theorem mod_wrap {a g : Nat} (h : a ≤ 4000000000000000000) : IntKind.i64.wrap ((a : Int).tmod (g : Int)) = ((a % g : Nat) : Int) := by
  have h3 : a % g ≤ a := Nat.mod_le _ _
  rw [← Int.ofNat_tmod]
  generalize a % g = q at *
  exact wrap64 (by omega) (by omega)
theorem s_fraction {P : Program} (hm : P.follows .mixedOrders = true) {Γ : Gam} (hΓ : GS P Γ) {n : FuncId} (is : Is P n a_fraction)  : Says P n c_fraction := by
  refine Says.pure fun args r fs h => ?_
  split at h
  case h_2 => cases h
  rename_i a b
  split at h
  case isFalse => cases h
  rename_i hc
  simp only [ofI_ints, ofBo_bools, ofAs_asks, Option.some.injEq, Prod.mk.injEq] at h hc
  obtain ⟨rfl, rfl⟩ := h
  obtain ⟨h0, h1, h2, h3⟩ := hc
  obtain ⟨a, rfl⟩ : ∃ j : Nat, a = j := ⟨a.toNat, by omega⟩
  obtain ⟨b, rfl⟩ : ∃ j : Nat, b = j := ⟨b.toNat, by omega⟩
  simp only [Int.toNat_natCast]
  refine is.go hm hΓ k_fraction o_fraction (by simp [a_fraction]) ?_
  simp only [a_fraction, List.zipIdx_cons, List.zipIdx_nil, ↓SP, SQ, Gam.add, stepM, callC, argC, lendO, nmBy, nmC, likeL, likeB, plainOb, offs, exL, X, F, trP, trO, stepD, stepW, newA, SV.tr, SV.trL, fz, allP, Ob.tr, loadA, cellsA, SV.cells, binA, binI, eqOut, isSl, isPt, natOf, callee, snap, SV.refsL, SV.refs, thaw, fzAll, loA, hiA, elemOf, partsA, buildA, putCells, ↓reduceIte, reduceCtorEq, okCell, Nat.reduceAdd, Nat.reduceEqDiff, Nat.reduceSub, Nat.reduceMul, Nat.reduceLeDiff, Nat.reduceLT, Nat.reduceBEq, PV.scal, PV.scalL, SV.scal, SV.scalL, Ob.scal, PV.isCell, pure', resO]
  refine loop_at (fun s : Nat × Nat × SV => mkEnv [(0, si a), (1, si b), (4, .bx 4 0), (5, si s.1), (6, si s.2.1), (10, s.2.2)]) (fun s => mkO [(4, some (.box [si 0, si 0]))]) (fun s => Nat.gcd s.1 s.2.1 = Nat.gcd a b ∧ s.1 ≤ 4000000000000000000 ∧ s.2.1 ≤ 4000000000000000000) (fun s => s.2.1) (a, b, .junk) ⟨rfl, by simp only; omega, by simp only; omega⟩ rfl rfl ?_
  rintro ⟨x, y, c1⟩ ⟨hg, hx, hy⟩ R hR hN
  simp only at hg hx hy
  by_cases h : y = 0
  · have hb : ((y : Int) != 0) = false := by rw [h]; rfl
    have hgx : x = Nat.gcd a b := by rw [← hg, h, Nat.gcd_zero_right]
    have hgp : 0 < Nat.gcd a b := Nat.gcd_pos_of_pos_right a (by omega)
    have hz : ¬ (x : Int) = 0 := by omega
    have d1 := div_wrap (a := a) (g := x) (by omega)
    have d2 := div_wrap (a := b) (g := x) (by omega)
    simp only [hb, ↓SP, SQ, Gam.add, stepM, callC, argC, lendO, nmBy, nmC, likeL, likeB, plainOb, offs, exL, X, F, trP, trO, stepD, stepW, newA, SV.tr, SV.trL, fz, allP, Ob.tr, loadA, cellsA, SV.cells, binA, binI, eqOut, isSl, isPt, natOf, callee, snap, SV.refsL, SV.refs, thaw, fzAll, loA, hiA, elemOf, partsA, buildA, putCells, ↓reduceIte, reduceCtorEq, okCell, Nat.reduceAdd, Nat.reduceEqDiff, Nat.reduceSub, Nat.reduceMul, Nat.reduceLeDiff, Nat.reduceLT, Nat.reduceBEq, PV.scal, PV.scalL, SV.scal, SV.scalL, Ob.scal, PV.isCell, pure', resO]
    refine hR _ _ _ (by intro h; cases h) ?_
    simp only [hz, d1, d2, ↓SP, SQ, Gam.add, stepM, callC, argC, lendO, nmBy, nmC, likeL, likeB, plainOb, offs, exL, X, F, trP, trO, stepD, stepW, newA, SV.tr, SV.trL, fz, allP, Ob.tr, loadA, cellsA, SV.cells, binA, binI, eqOut, isSl, isPt, natOf, callee, snap, SV.refsL, SV.refs, thaw, fzAll, loA, hiA, elemOf, partsA, buildA, putCells, ↓reduceIte, reduceCtorEq, okCell, Nat.reduceAdd, Nat.reduceEqDiff, Nat.reduceSub, Nat.reduceMul, Nat.reduceLeDiff, Nat.reduceLT, Nat.reduceBEq, PV.scal, PV.scalL, SV.scal, SV.scalL, Ob.scal, PV.isCell, pure', resO]
    rw [hgx]
    exact finA_val (by simp [frN, frD, retA, rvA, mkE_cons, mk_nil, mkO_cons, mkO_nil, loadA, SV.tr, SV.trL, nmF, rn_nil, rn_cons1, rn_cons2, plainOb, SV.refsL, SV.refs, Ob.refs, X, F, List.range_succ, mkO, setO_mk]) (by simp [SV.tr, SV.trL])
  · have hb : ((y : Int) != 0) = true := bne_iff_ne.2 (by omega)
    have hz : ¬ (y : Int) = 0 := by omega
    have m1 := mod_wrap (a := x) (g := y) hx
    have hlt : x % y < y := Nat.mod_lt _ (by omega)
    simp only [hb, hz, m1, ↓SP, SQ, Gam.add, stepM, callC, argC, lendO, nmBy, nmC, likeL, likeB, plainOb, offs, exL, X, F, trP, trO, stepD, stepW, newA, SV.tr, SV.trL, fz, allP, Ob.tr, loadA, cellsA, SV.cells, binA, binI, eqOut, isSl, isPt, natOf, callee, snap, SV.refsL, SV.refs, thaw, fzAll, loA, hiA, elemOf, partsA, buildA, putCells, ↓reduceIte, reduceCtorEq, okCell, Nat.reduceAdd, Nat.reduceEqDiff, Nat.reduceSub, Nat.reduceMul, Nat.reduceLeDiff, Nat.reduceLT, Nat.reduceBEq, PV.scal, PV.scalL, SV.scal, SV.scalL, Ob.scal, PV.isCell, pure', resO]
    exact hN (y, x % y, _) _ _ ⟨gcd_step hg, hy, by simp only; omega⟩ (by simp only; omega) rfl rfl
theorem s_l7Cut {P : Program} (hm : P.follows .mixedOrders = true) {Γ : Gam} (hΓ : GS P Γ) {n : FuncId} {f_l1Most : FuncId} (is : Is P n (a_l7Cut f_l1Most)) (h_l1Most : Γ f_l1Most = c_l1Most)  : Says P n c_fraction := by
  refine Says.pure fun args r fs h => ?_
  split at h
  case h_2 => cases h
  rename_i a b
  split at h
  case isFalse => cases h
  rename_i hc
  simp only [ofI_ints, ofBo_bools, ofAs_asks, Option.some.injEq, Prod.mk.injEq] at h hc
  obtain ⟨rfl, rfl⟩ := h
  obtain ⟨h0, h1, h2, h3⟩ := hc
  obtain ⟨a, rfl⟩ : ∃ j : Nat, a = j := ⟨a.toNat, by omega⟩
  obtain ⟨b, rfl⟩ : ∃ j : Nat, b = j := ⟨b.toNat, by omega⟩
  simp only [Int.toNat_natCast]
  refine is.go hm hΓ k_l7Cut o_l7Cut (by simp [a_l7Cut]) ?_
  simp only [a_l7Cut, h_l1Most, c_l1Most, List.zipIdx_cons, List.zipIdx_nil, ↓SP, SQ, Gam.add, stepM, callC, argC, lendO, nmBy, nmC, likeL, likeB, plainOb, offs, exL, X, F, trP, trO, stepD, stepW, newA, SV.tr, SV.trL, fz, allP, Ob.tr, loadA, cellsA, SV.cells, binA, binI, eqOut, isSl, isPt, natOf, callee, snap, SV.refsL, SV.refs, thaw, fzAll, loA, hiA, elemOf, partsA, buildA, putCells, ↓reduceIte, reduceCtorEq, okCell, Nat.reduceAdd, Nat.reduceEqDiff, Nat.reduceSub, Nat.reduceMul, Nat.reduceLeDiff, Nat.reduceLT, Nat.reduceBEq, PV.scal, PV.scalL, SV.scal, SV.scalL, Ob.scal, PV.isCell, pure', resO]
  refine loop_at (fun s : Nat × Nat × SV => mkEnv [(0, si a), (1, si b), (4, .bx 4 0), (5, si s.1), (6, si s.2.1), (10, s.2.2)]) (fun s => mkO [(4, some (.box [si 0, si 0]))]) (fun s => Nat.gcd s.1 s.2.1 = Nat.gcd a b ∧ s.1 ≤ 4000000000000000000 ∧ s.2.1 ≤ 4000000000000000000) (fun s => s.2.1) (a, b, .junk) ⟨rfl, by simp only; omega, by simp only; omega⟩ rfl rfl ?_
  rintro ⟨x, y, c1⟩ ⟨hg, hx, hy⟩ R hR hN
  simp only at hg hx hy
  by_cases h : y = 0
  · have hb : ¬ (y : Int) > 0 := by omega
    have hgx : x = Nat.gcd a b := by rw [← hg, h, Nat.gcd_zero_right]
    have hgp : 0 < Nat.gcd a b := Nat.gcd_pos_of_pos_right a (by omega)
    have hz : ¬ (x : Int) = 0 := by omega
    have hmx : (if (x : Int) > 1 then (x : Int) else 1) = (x : Int) := by split <;> omega
    have d1 := div_wrap (a := a) (g := x) (by omega)
    have d2 := div_wrap (a := b) (g := x) (by omega)
    simp only [hb, ↓SP, SQ, Gam.add, stepM, callC, argC, lendO, nmBy, nmC, likeL, likeB, plainOb, offs, exL, X, F, trP, trO, stepD, stepW, newA, SV.tr, SV.trL, fz, allP, Ob.tr, loadA, cellsA, SV.cells, binA, binI, eqOut, isSl, isPt, natOf, callee, snap, SV.refsL, SV.refs, thaw, fzAll, loA, hiA, elemOf, partsA, buildA, putCells, ↓reduceIte, reduceCtorEq, okCell, Nat.reduceAdd, Nat.reduceEqDiff, Nat.reduceSub, Nat.reduceMul, Nat.reduceLeDiff, Nat.reduceLT, Nat.reduceBEq, PV.scal, PV.scalL, SV.scal, SV.scalL, Ob.scal, PV.isCell, pure', resO]
    refine hR _ _ _ (by intro h; cases h) ?_
    simp only [h_l1Most, c_l1Most, hmx, hz, d1, d2, ↓SP, SQ, Gam.add, stepM, callC, argC, lendO, nmBy, nmC, likeL, likeB, plainOb, offs, exL, X, F, trP, trO, stepD, stepW, newA, SV.tr, SV.trL, fz, allP, Ob.tr, loadA, cellsA, SV.cells, binA, binI, eqOut, isSl, isPt, natOf, callee, snap, SV.refsL, SV.refs, thaw, fzAll, loA, hiA, elemOf, partsA, buildA, putCells, ↓reduceIte, reduceCtorEq, okCell, Nat.reduceAdd, Nat.reduceEqDiff, Nat.reduceSub, Nat.reduceMul, Nat.reduceLeDiff, Nat.reduceLT, Nat.reduceBEq, PV.scal, PV.scalL, SV.scal, SV.scalL, Ob.scal, PV.isCell, pure', resO]
    rw [hgx]
    exact finA_val (by simp [frN, frD, retA, rvA, mkE_cons, mk_nil, mkO_cons, mkO_nil, loadA, SV.tr, SV.trL, nmF, rn_nil, rn_cons1, rn_cons2, plainOb, SV.refsL, SV.refs, Ob.refs, X, F, List.range_succ, mkO, setO_mk]) (by simp [SV.tr, SV.trL])
  · have hb : (y : Int) > 0 := by omega
    have hz : ¬ (y : Int) = 0 := by omega
    have m1 := mod_wrap (a := x) (g := y) hx
    have hlt : x % y < y := Nat.mod_lt _ (by omega)
    simp only [hb, hz, m1, ↓SP, SQ, Gam.add, stepM, callC, argC, lendO, nmBy, nmC, likeL, likeB, plainOb, offs, exL, X, F, trP, trO, stepD, stepW, newA, SV.tr, SV.trL, fz, allP, Ob.tr, loadA, cellsA, SV.cells, binA, binI, eqOut, isSl, isPt, natOf, callee, snap, SV.refsL, SV.refs, thaw, fzAll, loA, hiA, elemOf, partsA, buildA, putCells, ↓reduceIte, reduceCtorEq, okCell, Nat.reduceAdd, Nat.reduceEqDiff, Nat.reduceSub, Nat.reduceMul, Nat.reduceLeDiff, Nat.reduceLT, Nat.reduceBEq, PV.scal, PV.scalL, SV.scal, SV.scalL, Ob.scal, PV.isCell, pure', resO]
    exact hN (y, x % y, _) _ _ ⟨gcd_step hg, hy, by simp only; omega⟩ (by simp only; omega) rfl rfl
theorem mulB {a b A B : Int} (h1 : 0 ≤ a) (h2 : a ≤ A) (h3 : 0 ≤ b) (h4 : b ≤ B) : 0 ≤ a * b ∧ a * b ≤ A * B :=
  ⟨Int.mul_nonneg h1 h3, Int.mul_le_mul h2 h4 h3 (by omega)⟩
end Go.Proofs.Ytmbljmolegalhaa.Pam
