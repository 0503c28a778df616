/- A part of the proof that stands in this folder: a small machine whose steps are shown to be the steps of the model, or walks of functions by it. No condition of its own. -/
import Derived.Test.YtgnclbdhpdjafaaGaLQ
set_option linter.unusedVariables false
set_option linter.unusedSimpArgs false
namespace Go.Proofs.Ytgnclbdhpdjafaa.Pam
open Go
/-- Whether a state is short. -/
def isSh (x : List Int) (m : Int) : Bool := isSt x m && decide ((x.length : Int) ≤ 5) && decide (m ≤ 1)
def a_isShort (f_IsState : FuncId) : AFn := ⟨1, 
  .seq (.reg [⟨some 1, none, .w (.box 2 (.t 0))⟩,
    ⟨some 2, none, .d (.mv (.c (.bool false)))⟩])
  (.seq (.reg [⟨some 3, none, .d (.load true 2 (.t 1))⟩,
    ⟨some 4, none, .d (.call (.f f_IsState) [(.t 3)])⟩,
    ⟨some 5, none, .d (.mv (.t 4))⟩,
    ⟨some 6, some (5, true), .d (.fa 0 (.t 1))⟩,
    ⟨some 7, some (5, true), .d (.load false 1 (.t 6))⟩,
    ⟨some 8, some (5, true), .d (.len (.t 7))⟩,
    ⟨some 9, some (5, true), .d (.bin .arith .leq (.t 8) (.c (.int .i64 5)))⟩,
    ⟨some 10, none, .d (.pick (.t 5) (.t 9) (.c (.bool false)))⟩,
    ⟨some 11, none, .d (.mv (.t 10))⟩,
    ⟨some 12, some (11, true), .d (.fa 1 (.t 1))⟩,
    ⟨some 13, some (11, true), .d (.load false 1 (.t 12))⟩,
    ⟨some 14, some (11, true), .d (.bin .arith .leq (.t 13) (.c (.int .i64 1)))⟩,
    ⟨some 15, none, .d (.pick (.t 11) (.t 14) (.c (.bool false)))⟩,
    ⟨some 2, none, .d (.mv (.t 15))⟩])
  (.ret)), [.tmp 2]⟩
def n_isShort : Nat → Option Ann := fun _ => none
abbrev k_isShort : List Nat := [0, 1, 2]
abbrev o_isShort : List Nat := [1]
def a_l6Short (f_l2State : FuncId) : AFn := ⟨1, 
  .seq (.reg [⟨some 1, none, .w (.box 2 (.t 0))⟩,
    ⟨some 2, none, .d (.mv (.c (.bool false)))⟩])
  (.seq (.reg [⟨some 3, none, .d (.load true 2 (.t 1))⟩,
    ⟨some 4, none, .d (.call (.f f_l2State) [(.t 3)])⟩,
    ⟨some 5, none, .d (.mv (.t 4))⟩,
    ⟨some 6, some (5, true), .d (.fa 0 (.t 1))⟩,
    ⟨some 7, some (5, true), .d (.load false 1 (.t 6))⟩,
    ⟨some 8, some (5, true), .d (.len (.t 7))⟩,
    ⟨some 9, some (5, true), .d (.bin .arith .leq (.t 8) (.c (.int .i64 5)))⟩,
    ⟨some 10, none, .d (.pick (.t 5) (.t 9) (.c (.bool false)))⟩,
    ⟨some 11, none, .d (.mv (.t 10))⟩,
    ⟨some 12, some (11, true), .d (.fa 1 (.t 1))⟩,
    ⟨some 13, some (11, true), .d (.load false 1 (.t 12))⟩,
    ⟨some 14, some (11, true), .d (.bin .arith .leq (.t 13) (.c (.int .i64 1)))⟩,
    ⟨some 15, none, .d (.pick (.t 11) (.t 14) (.c (.bool false)))⟩,
    ⟨some 2, none, .d (.mv (.t 15))⟩])
  (.ret)), [.tmp 2]⟩
def n_l6Short : Nat → Option Ann := fun _ => none
abbrev k_l6Short : List Nat := [0, 1, 2]
abbrev o_l6Short : List Nat := [1]
def c_isShort : Con := pure' fun
  | [.p (.agg [.sl 1 x_, .int .i64 m])] => if isI x_ = true ∧ ((ofI x_).length ≤ 1100000) then some (.p (.bool (isSh (ofI x_) m)), []) else none
  | _ => none
theorem s_isShort {P : Program} (hm : P.follows .mixedOrders = true) {Γ : Gam} (hΓ : GS P Γ) {n : FuncId} {f_IsState : FuncId} (is : Is P n (a_isShort f_IsState)) (h_IsState : Γ f_IsState = c_IsState)  : Says P n c_isShort := by
  refine Says.pure fun args r fs h => ?_
  split at h
  case h_2 => cases h
  rename_i x_ m
  split at h
  case isFalse => cases h
  rename_i hc
  obtain ⟨hx_, hc⟩ := hc
  obtain ⟨x, rfl⟩ := isI_out hx_
  simp only [ofI_ints, ofBo_bools, ofAs_asks, Option.some.injEq, Prod.mk.injEq] at h hc
  obtain ⟨rfl, rfl⟩ := h
  cases h1 : isSt x m with
  | false =>
    refine is.go hm hΓ k_isShort o_isShort (by simp [a_isShort]) ?_
    simp only [a_isShort, h_IsState, c_IsState, hc, h1, List.zipIdx_cons, List.zipIdx_nil, ↓SP, SQ, Gam.add, stepM, callC, argC, lendO, nmBy, nmC, likeL, likeB, plainOb, offs, exL, X, F, trP, trO, stepD, stepW, newA, SV.tr, SV.trL, fz, allP, Ob.tr, loadA, cellsA, SV.cells, binA, binI, eqOut, isSl, isPt, natOf, callee, snap, SV.refsL, SV.refs, thaw, fzAll, loA, hiA, elemOf, partsA, buildA, putCells, ↓reduceIte, reduceCtorEq, okCell, Nat.reduceAdd, Nat.reduceEqDiff, Nat.reduceSub, Nat.reduceMul, Nat.reduceLeDiff, Nat.reduceLT, Nat.reduceBEq, PV.scal, PV.scalL, SV.scal, SV.scalL, Ob.scal, PV.isCell, pure', resO]
    exact finA_val (by simp [isSh, h1, retA, rvA, List.mapM_cons, List.mapM_nil, Option.pure_def, Option.bind_eq_bind, Option.bind_some, Option.map_some, mkE_cons, mk_nil, mkO_cons, mkO_nil, loadA, ↓reduceIte, List.take_succ_cons, List.take_zero, List.drop_zero, List.drop_succ_cons, List.length_cons, List.length_nil, Nat.reduceAdd, Nat.reduceEqDiff, Nat.reduceLeDiff, Nat.zero_add, Nat.le_refl, reduceCtorEq, SV.tr, SV.trL, nmF, rn_nil, rn_cons1, rn_cons2, List.map_cons, List.map_nil, List.all_cons, List.all_nil, plainOb, SV.refsL, SV.refs, Ob.refs, X, F, List.range_succ, List.range_zero, List.nil_append, List.cons_append, List.isEmpty_nil, decide_true, Nat.reduceLT, Bool.and_self, Bool.and_true, and_self, and_true, List.getElem?_cons_zero, List.getElem?_cons_succ, List.nodup_cons, List.nodup_nil, List.mem_cons, List.not_mem_nil, not_false_eq_true, or_false, List.append_nil, mkO, setO_mk, List.mem_singleton]) (by simp [SV.tr, SV.trL])
  | true =>
    by_cases h2 : (x.length : Int) ≤ 5
    · refine is.go hm hΓ k_isShort o_isShort (by simp [a_isShort]) ?_
      simp only [a_isShort, h_IsState, c_IsState, hc, h1, h2, List.zipIdx_cons, List.zipIdx_nil, ↓SP, SQ, Gam.add, stepM, callC, argC, lendO, nmBy, nmC, likeL, likeB, plainOb, offs, exL, X, F, trP, trO, stepD, stepW, newA, SV.tr, SV.trL, fz, allP, Ob.tr, loadA, cellsA, SV.cells, binA, binI, eqOut, isSl, isPt, natOf, callee, snap, SV.refsL, SV.refs, thaw, fzAll, loA, hiA, elemOf, partsA, buildA, putCells, ↓reduceIte, reduceCtorEq, okCell, Nat.reduceAdd, Nat.reduceEqDiff, Nat.reduceSub, Nat.reduceMul, Nat.reduceLeDiff, Nat.reduceLT, Nat.reduceBEq, PV.scal, PV.scalL, SV.scal, SV.scalL, Ob.scal, PV.isCell, pure', resO]
      exact finA_val (by simp [isSh, h1, h2, retA, rvA, List.mapM_cons, List.mapM_nil, Option.pure_def, Option.bind_eq_bind, Option.bind_some, Option.map_some, mkE_cons, mk_nil, mkO_cons, mkO_nil, loadA, ↓reduceIte, List.take_succ_cons, List.take_zero, List.drop_zero, List.drop_succ_cons, List.length_cons, List.length_nil, Nat.reduceAdd, Nat.reduceEqDiff, Nat.reduceLeDiff, Nat.zero_add, Nat.le_refl, reduceCtorEq, SV.tr, SV.trL, nmF, rn_nil, rn_cons1, rn_cons2, List.map_cons, List.map_nil, List.all_cons, List.all_nil, plainOb, SV.refsL, SV.refs, Ob.refs, X, F, List.range_succ, List.range_zero, List.nil_append, List.cons_append, List.isEmpty_nil, decide_true, Nat.reduceLT, Bool.and_self, Bool.and_true, and_self, and_true, List.getElem?_cons_zero, List.getElem?_cons_succ, List.nodup_cons, List.nodup_nil, List.mem_cons, List.not_mem_nil, not_false_eq_true, or_false, List.append_nil, mkO, setO_mk, List.mem_singleton]) (by simp [SV.tr, SV.trL])
    · refine is.go hm hΓ k_isShort o_isShort (by simp [a_isShort]) ?_
      simp only [a_isShort, h_IsState, c_IsState, hc, h1, h2, List.zipIdx_cons, List.zipIdx_nil, ↓SP, SQ, Gam.add, stepM, callC, argC, lendO, nmBy, nmC, likeL, likeB, plainOb, offs, exL, X, F, trP, trO, stepD, stepW, newA, SV.tr, SV.trL, fz, allP, Ob.tr, loadA, cellsA, SV.cells, binA, binI, eqOut, isSl, isPt, natOf, callee, snap, SV.refsL, SV.refs, thaw, fzAll, loA, hiA, elemOf, partsA, buildA, putCells, ↓reduceIte, reduceCtorEq, okCell, Nat.reduceAdd, Nat.reduceEqDiff, Nat.reduceSub, Nat.reduceMul, Nat.reduceLeDiff, Nat.reduceLT, Nat.reduceBEq, PV.scal, PV.scalL, SV.scal, SV.scalL, Ob.scal, PV.isCell, pure', resO]
      exact finA_val (by simp [isSh, h1, h2, retA, rvA, List.mapM_cons, List.mapM_nil, Option.pure_def, Option.bind_eq_bind, Option.bind_some, Option.map_some, mkE_cons, mk_nil, mkO_cons, mkO_nil, loadA, ↓reduceIte, List.take_succ_cons, List.take_zero, List.drop_zero, List.drop_succ_cons, List.length_cons, List.length_nil, Nat.reduceAdd, Nat.reduceEqDiff, Nat.reduceLeDiff, Nat.zero_add, Nat.le_refl, reduceCtorEq, SV.tr, SV.trL, nmF, rn_nil, rn_cons1, rn_cons2, List.map_cons, List.map_nil, List.all_cons, List.all_nil, plainOb, SV.refsL, SV.refs, Ob.refs, X, F, List.range_succ, List.range_zero, List.nil_append, List.cons_append, List.isEmpty_nil, decide_true, Nat.reduceLT, Bool.and_self, Bool.and_true, and_self, and_true, List.getElem?_cons_zero, List.getElem?_cons_succ, List.nodup_cons, List.nodup_nil, List.mem_cons, List.not_mem_nil, not_false_eq_true, or_false, List.append_nil, mkO, setO_mk, List.mem_singleton]) (by simp [SV.tr, SV.trL])
theorem s_l6Short {P : Program} (hm : P.follows .mixedOrders = true) {Γ : Gam} (hΓ : GS P Γ) {n : FuncId} {f_l2State : FuncId} (is : Is P n (a_l6Short f_l2State)) (h_l2State : Γ f_l2State = c_IsState)  : Says P n c_isShort := by
  refine Says.pure fun args r fs h => ?_
  split at h
  case h_2 => cases h
  rename_i x_ m
  split at h
  case isFalse => cases h
  rename_i hc
  obtain ⟨hx_, hc⟩ := hc
  obtain ⟨x, rfl⟩ := isI_out hx_
  simp only [ofI_ints, ofBo_bools, ofAs_asks, Option.some.injEq, Prod.mk.injEq] at h hc
  obtain ⟨rfl, rfl⟩ := h
  cases h1 : isSt x m with
  | false =>
    refine is.go hm hΓ k_l6Short o_l6Short (by simp [a_l6Short]) ?_
    simp only [a_l6Short, h_l2State, c_IsState, hc, h1, List.zipIdx_cons, List.zipIdx_nil, ↓SP, SQ, Gam.add, stepM, callC, argC, lendO, nmBy, nmC, likeL, likeB, plainOb, offs, exL, X, F, trP, trO, stepD, stepW, newA, SV.tr, SV.trL, fz, allP, Ob.tr, loadA, cellsA, SV.cells, binA, binI, eqOut, isSl, isPt, natOf, callee, snap, SV.refsL, SV.refs, thaw, fzAll, loA, hiA, elemOf, partsA, buildA, putCells, ↓reduceIte, reduceCtorEq, okCell, Nat.reduceAdd, Nat.reduceEqDiff, Nat.reduceSub, Nat.reduceMul, Nat.reduceLeDiff, Nat.reduceLT, Nat.reduceBEq, PV.scal, PV.scalL, SV.scal, SV.scalL, Ob.scal, PV.isCell, pure', resO]
    exact finA_val (by simp [isSh, h1, retA, rvA, List.mapM_cons, List.mapM_nil, Option.pure_def, Option.bind_eq_bind, Option.bind_some, Option.map_some, mkE_cons, mk_nil, mkO_cons, mkO_nil, loadA, ↓reduceIte, List.take_succ_cons, List.take_zero, List.drop_zero, List.drop_succ_cons, List.length_cons, List.length_nil, Nat.reduceAdd, Nat.reduceEqDiff, Nat.reduceLeDiff, Nat.zero_add, Nat.le_refl, reduceCtorEq, SV.tr, SV.trL, nmF, rn_nil, rn_cons1, rn_cons2, List.map_cons, List.map_nil, List.all_cons, List.all_nil, plainOb, SV.refsL, SV.refs, Ob.refs, X, F, List.range_succ, List.range_zero, List.nil_append, List.cons_append, List.isEmpty_nil, decide_true, Nat.reduceLT, Bool.and_self, Bool.and_true, and_self, and_true, List.getElem?_cons_zero, List.getElem?_cons_succ, List.nodup_cons, List.nodup_nil, List.mem_cons, List.not_mem_nil, not_false_eq_true, or_false, List.append_nil, mkO, setO_mk, List.mem_singleton]) (by simp [SV.tr, SV.trL])
  | true =>
    by_cases h2 : (x.length : Int) ≤ 5
    · refine is.go hm hΓ k_l6Short o_l6Short (by simp [a_l6Short]) ?_
      simp only [a_l6Short, h_l2State, c_IsState, hc, h1, h2, List.zipIdx_cons, List.zipIdx_nil, ↓SP, SQ, Gam.add, stepM, callC, argC, lendO, nmBy, nmC, likeL, likeB, plainOb, offs, exL, X, F, trP, trO, stepD, stepW, newA, SV.tr, SV.trL, fz, allP, Ob.tr, loadA, cellsA, SV.cells, binA, binI, eqOut, isSl, isPt, natOf, callee, snap, SV.refsL, SV.refs, thaw, fzAll, loA, hiA, elemOf, partsA, buildA, putCells, ↓reduceIte, reduceCtorEq, okCell, Nat.reduceAdd, Nat.reduceEqDiff, Nat.reduceSub, Nat.reduceMul, Nat.reduceLeDiff, Nat.reduceLT, Nat.reduceBEq, PV.scal, PV.scalL, SV.scal, SV.scalL, Ob.scal, PV.isCell, pure', resO]
      exact finA_val (by simp [isSh, h1, h2, retA, rvA, List.mapM_cons, List.mapM_nil, Option.pure_def, Option.bind_eq_bind, Option.bind_some, Option.map_some, mkE_cons, mk_nil, mkO_cons, mkO_nil, loadA, ↓reduceIte, List.take_succ_cons, List.take_zero, List.drop_zero, List.drop_succ_cons, List.length_cons, List.length_nil, Nat.reduceAdd, Nat.reduceEqDiff, Nat.reduceLeDiff, Nat.zero_add, Nat.le_refl, reduceCtorEq, SV.tr, SV.trL, nmF, rn_nil, rn_cons1, rn_cons2, List.map_cons, List.map_nil, List.all_cons, List.all_nil, plainOb, SV.refsL, SV.refs, Ob.refs, X, F, List.range_succ, List.range_zero, List.nil_append, List.cons_append, List.isEmpty_nil, decide_true, Nat.reduceLT, Bool.and_self, Bool.and_true, and_self, and_true, List.getElem?_cons_zero, List.getElem?_cons_succ, List.nodup_cons, List.nodup_nil, List.mem_cons, List.not_mem_nil, not_false_eq_true, or_false, List.append_nil, mkO, setO_mk, List.mem_singleton]) (by simp [SV.tr, SV.trL])
    · refine is.go hm hΓ k_l6Short o_l6Short (by simp [a_l6Short]) ?_
      simp only [a_l6Short, h_l2State, c_IsState, hc, h1, h2, List.zipIdx_cons, List.zipIdx_nil, ↓SP, SQ, Gam.add, stepM, callC, argC, lendO, nmBy, nmC, likeL, likeB, plainOb, offs, exL, X, F, trP, trO, stepD, stepW, newA, SV.tr, SV.trL, fz, allP, Ob.tr, loadA, cellsA, SV.cells, binA, binI, eqOut, isSl, isPt, natOf, callee, snap, SV.refsL, SV.refs, thaw, fzAll, loA, hiA, elemOf, partsA, buildA, putCells, ↓reduceIte, reduceCtorEq, okCell, Nat.reduceAdd, Nat.reduceEqDiff, Nat.reduceSub, Nat.reduceMul, Nat.reduceLeDiff, Nat.reduceLT, Nat.reduceBEq, PV.scal, PV.scalL, SV.scal, SV.scalL, Ob.scal, PV.isCell, pure', resO]
      exact finA_val (by simp [isSh, h1, h2, retA, rvA, List.mapM_cons, List.mapM_nil, Option.pure_def, Option.bind_eq_bind, Option.bind_some, Option.map_some, mkE_cons, mk_nil, mkO_cons, mkO_nil, loadA, ↓reduceIte, List.take_succ_cons, List.take_zero, List.drop_zero, List.drop_succ_cons, List.length_cons, List.length_nil, Nat.reduceAdd, Nat.reduceEqDiff, Nat.reduceLeDiff, Nat.zero_add, Nat.le_refl, reduceCtorEq, SV.tr, SV.trL, nmF, rn_nil, rn_cons1, rn_cons2, List.map_cons, List.map_nil, List.all_cons, List.all_nil, plainOb, SV.refsL, SV.refs, Ob.refs, X, F, List.range_succ, List.range_zero, List.nil_append, List.cons_append, List.isEmpty_nil, decide_true, Nat.reduceLT, Bool.and_self, Bool.and_true, and_self, and_true, List.getElem?_cons_zero, List.getElem?_cons_succ, List.nodup_cons, List.nodup_nil, List.mem_cons, List.not_mem_nil, not_false_eq_true, or_false, List.append_nil, mkO, setO_mk, List.mem_singleton]) (by simp [SV.tr, SV.trL])
def a_l6Done (f_l2Open : FuncId) : AFn := ⟨1, 
  .seq (.reg [⟨some 1, none, .w (.box 2 (.t 0))⟩,
    ⟨some 2, none, .d (.mv (.c (.bool false)))⟩])
  (.seq (.reg [⟨some 3, none, .d (.load true 2 (.t 1))⟩,
    ⟨some 4, none, .d (.call (.f f_l2Open) [(.t 3)])⟩,
    ⟨some 5, none, .d (.len (.t 4))⟩,
    ⟨some 6, none, .d (.bin .arith .lss (.t 5) (.c (.int .i64 2)))⟩,
    ⟨some 2, none, .d (.mv (.t 6))⟩])
  (.ret)), [.tmp 2]⟩
def n_l6Done : Nat → Option Ann := fun _ => none
abbrev k_l6Done : List Nat := [0, 1, 2]
abbrev o_l6Done : List Nat := [1]
def c_l6Done : Con := pure' fun
  | [.p (.agg [.sl 1 x_, .int .i64 m])] => if isI x_ = true ∧ ((ofI x_).length ≤ 1100000) then some (.p (.bool (decide (((opens (ofI x_)).length : Int) < 2))), []) else none
  | _ => none
theorem s_l6Done {P : Program} (hm : P.follows .mixedOrders = true) {Γ : Gam} (hΓ : GS P Γ) {n : FuncId} {f_l2Open : FuncId} (is : Is P n (a_l6Done f_l2Open)) (h_l2Open : Γ f_l2Open = c_l2Open)  : Says P n c_l6Done := by
  refine Says.pure fun args r fs h => ?_
  split at h
  case h_2 => cases h
  rename_i x_ m
  split at h
  case isFalse => cases h
  rename_i hc
  obtain ⟨hx_, hc⟩ := hc
  obtain ⟨x, rfl⟩ := isI_out hx_
  simp only [ofI_ints, ofBo_bools, ofAs_asks, Option.some.injEq, Prod.mk.injEq] at h hc
  obtain ⟨rfl, rfl⟩ := h
  refine is.go hm hΓ k_l6Done o_l6Done (by simp [a_l6Done]) ?_
  simp only [a_l6Done, h_l2Open, c_l2Open, hc, ints_len, List.zipIdx_cons, List.zipIdx_nil, ↓SP, SQ, Gam.add, stepM, callC, argC, lendO, nmBy, nmC, likeL, likeB, plainOb, offs, exL, X, F, trP, trO, stepD, stepW, newA, SV.tr, SV.trL, fz, allP, Ob.tr, loadA, cellsA, SV.cells, binA, binI, eqOut, isSl, isPt, natOf, callee, snap, SV.refsL, SV.refs, thaw, fzAll, loA, hiA, elemOf, partsA, buildA, putCells, ↓reduceIte, reduceCtorEq, okCell, Nat.reduceAdd, Nat.reduceEqDiff, Nat.reduceSub, Nat.reduceMul, Nat.reduceLeDiff, Nat.reduceLT, Nat.reduceBEq, PV.scal, PV.scalL, SV.scal, SV.scalL, Ob.scal, PV.isCell, pure', resO]
  exact finA_val (by simp [retA, rvA, List.mapM_cons, List.mapM_nil, Option.pure_def, Option.bind_eq_bind, Option.bind_some, Option.map_some, mkE_cons, mk_nil, mkO_cons, mkO_nil, loadA, ↓reduceIte, List.take_succ_cons, List.take_zero, List.drop_zero, List.drop_succ_cons, List.length_cons, List.length_nil, Nat.reduceAdd, Nat.reduceEqDiff, Nat.reduceLeDiff, Nat.zero_add, Nat.le_refl, reduceCtorEq, SV.tr, SV.trL, nmF, rn_nil, rn_cons1, rn_cons2, List.map_cons, List.map_nil, List.all_cons, List.all_nil, plainOb, SV.refsL, SV.refs, Ob.refs, X, F, List.range_succ, List.range_zero, List.nil_append, List.cons_append, List.isEmpty_nil, decide_true, Nat.reduceLT, Bool.and_self, Bool.and_true, and_self, and_true, List.getElem?_cons_zero, List.getElem?_cons_succ, List.nodup_cons, List.nodup_nil, List.mem_cons, List.not_mem_nil, not_false_eq_true, or_false, List.append_nil, mkO, setO_mk, List.mem_singleton]) (by simp [SV.tr, SV.trL])
theorem opens_len (x : List Int) : (opens x).length ≤ x.length := opensI_len x x.length
/-- The needs of 1 to n numbers. -/
def taF (f : Nat → Int) (n : Nat) : List Int := (List.range n).map fun k => f (k + 1)
theorem taF_one (f : Nat → Int) (n : Nat) : taF f n ++ [f (n + 1)] = taF f (n + 1) := by simp [taF, List.range_succ]
theorem taF_len (f : Nat → Int) (n : Nat) : (taF f n).length = n := by simp [taF]
def nz (L : List Nat) : List Int := L.map fun n : Nat => (n : Int)
theorem nz_len (L : List Nat) : (nz L).length = L.length := by simp [nz]
theorem nz_get {L : List Nat} {i : Nat} (h : i < L.length) : (ints (nz L))[i]? = some (.int .i64 ((L.getD i 0 : Nat) : Int)) := by
  rw [ints_get (by rw [nz_len]; exact h)]
  rw [getD_lt (by rw [nz_len]; exact h), getD_lt h]; simp [nz]
theorem nz_app (L : List Nat) (n : Nat) : nz L ++ [(n : Int)] = nz (L ++ [n]) := by simp [nz]
theorem range_set {n q : Nat} {f : Nat → Int} {v : Int} : ((List.range n).map f).set q v = (List.range n).map fun x => if x = q then v else f x := by
  apply List.ext_getElem
  · simp
  · intro i h1 h2
    simp only [List.getElem_set, List.getElem_map, List.getElem_range]
    by_cases h : q = i
    · simp [h]
    · rw [if_neg h, if_neg fun e => h e.symm]
/-- The number of a list by a base, of the first i of it. -/
def kyI (b : Int) (x : List Int) : Nat → Int
  | 0 => 0
  | i + 1 => kyI b x i * b + x.getD i 0 + 1
def kyL (b : Int) (x : List Int) : Int := kyI b x x.length
/-- The list of a number. -/
def dgB (b : Nat) : Nat → Nat → List Int
  | 0, _ => []
  | n + 1, key => dgB b n (key / b) ++ [((key % b : Nat) : Int) - 1]
theorem dgB_len (b : Nat) : ∀ n key, (dgB b n key).length = n
  | 0, _ => rfl
  | n + 1, key => by simp [dgB, dgB_len b n]
def inB (b : Nat) (x : List Int) : Bool := x.all fun v => decide (-1 ≤ v) && decide (v + 1 < b)
theorem inB_get {b : Nat} {x : List Int} (h : inB b x = true) {i : Nat} (hi : i < x.length) : -1 ≤ x.getD i 0 ∧ x.getD i 0 + 1 < b := by
  have := List.all_eq_true.1 h (x.getD i 0) (by rw [getD_lt hi]; exact List.getElem_mem hi)
  simpa using this
theorem ky_dg {b : Nat} (hb : 0 < b) {x : List Int} (h : inB b x = true) : ∀ i, i ≤ x.length → 0 ≤ kyI b x i ∧ kyI b x i < (b ^ i : Nat) ∧ dgB b i (kyI b x i).toNat = x.take i
  | 0, _ => by simp [kyI, dgB]
  | i + 1, hi => by
    obtain ⟨h0, h1, h2⟩ := ky_dg hb h i (by omega)
    obtain ⟨g0, g1⟩ := inB_get h (i := i) (by omega)
    obtain ⟨k, hk⟩ : ∃ k : Nat, kyI b x i = k := ⟨(kyI b x i).toNat, by omega⟩
    obtain ⟨v, hv⟩ : ∃ v : Nat, x.getD i 0 + 1 = v := ⟨(x.getD i 0 + 1).toNat, by omega⟩
    have e : kyI b x (i + 1) = ((k * b + v : Nat) : Int) := by
      simp only [kyI, hk]
      have := Int.natCast_mul k b
      omega
    have hkb : k < b ^ i := by omega
    have hvb : v < b := by omega
    rw [e]
    refine ⟨by omega, ?_, ?_⟩
    · have : (k + 1) * b ≤ b ^ i * b := Nat.mul_le_mul_right _ hkb
      have e2 : b ^ (i + 1) = b ^ i * b := Nat.pow_succ ..
      have e3 : (k + 1) * b = k * b + b := Nat.succ_mul ..
      omega
    · rw [hk] at h2
      simp only [Int.toNat_natCast] at h2 ⊢
      simp only [dgB]
      have q1 : (k * b + v) / b = k := by
        rw [Nat.add_comm, Nat.add_mul_div_right _ _ hb, Nat.div_eq_of_lt hvb]; omega
      have q2 : (k * b + v) % b = v := by
        rw [Nat.add_comm, Nat.add_mul_mod_self_right, Nat.mod_eq_of_lt hvb]
      have e3 : (((k * b + v) % b : Nat) : Int) - 1 = x.getD i 0 := by rw [q2]; omega
      rw [q1, h2, e3, take_one x i 0 (by omega)]
theorem kyL_bd {b : Nat} (hb : 0 < b) {x : List Int} (h : inB b x = true) : 0 ≤ kyL b x ∧ kyL b x < (b ^ x.length : Nat) := by
  obtain ⟨h0, h1, _⟩ := ky_dg hb h x.length (Nat.le_refl _)
  exact ⟨h0, h1⟩
theorem dg_ky {b : Nat} (hb : 0 < b) {x : List Int} (h : inB b x = true) : dgB b x.length (kyL b x).toNat = x := by
  obtain ⟨_, _, h2⟩ := ky_dg hb h x.length (Nat.le_refl _)
  rw [kyL, h2, List.take_length]
theorem ky_inj {b : Nat} (hb : 0 < b) {x y : List Int} (hx : inB b x = true) (hy : inB b y = true) (hl : x.length = y.length) (h : kyL b x = kyL b y) : x = y := by
  rw [← dg_ky hb hx, ← dg_ky hb hy, hl, h]
/-- Short states. -/
theorem sh_out {x : List Int} {m : Int} (h : isSh x m = true) : 1 ≤ x.length ∧ x.length ≤ 5 ∧ (m = 0 ∨ m = 1) ∧ ∀ v ∈ x, -1 ≤ v ∧ v ≤ m := by
  simp only [isSh, isSt, Bool.and_eq_true, decide_eq_true_eq, List.all_eq_true] at h
  obtain ⟨⟨⟨⟨⟨h1, h2⟩, h3, h4⟩, h5⟩, h6⟩, h7⟩ := h
  exact ⟨by omega, by omega, by omega, h5⟩
theorem sh_mk {x : List Int} {m : Int} (h1 : 1 ≤ x.length) (h2 : x.length ≤ 5) (h3 : m = 0 ∨ m = 1) (h4 : ∀ v ∈ x, -1 ≤ v ∧ v ≤ m) : isSh x m = true := by
  simp only [isSh, isSt, Bool.and_eq_true, decide_eq_true_eq, List.all_eq_true]
  exact ⟨⟨⟨⟨⟨by omega, by omega⟩, by omega, by omega⟩, h4⟩, by omega⟩, by omega⟩
theorem sh_in {x : List Int} {m : Int} (h : isSh x m = true) : inB (m + 2).toNat x = true ∧ inB 3 x = true := by
  obtain ⟨_, _, hm, h4⟩ := sh_out h
  simp only [inB, List.all_eq_true, Bool.and_eq_true, decide_eq_true_eq]
  exact ⟨fun v hv => by have := h4 v hv; omega, fun v hv => by have := h4 v hv; omega⟩
/-- The state behind a comparison. -/
def aftL (m : Int) (k : Nat) (y : Bool) (x : List Int) : List Int := afterL (fun i => decide (i < k) != y) m x
theorem aftL_len (m : Int) (k : Nat) (y : Bool) (x : List Int) : (aftL m k y x).length = x.length := afterL_len ..
/-- How many answers may yet be false, of all numbers together. -/
def msL (m : Int) (x : List Int) : Nat := (x.map fun v => if 0 ≤ v then (m + 1 - v).toNat else 0).sum
/-- The less-needs of all short states. -/
def tblL (m : Int) (n : Nat) : List Int := if m = 0 then (match n with
  | 1 => [0, 0]
  | 2 => [0, 0, 0, 1]
  | 3 => [0, 0, 0, 1, 0, 1, 1, 2]
  | 4 => [0, 0, 0, 1, 0, 1, 1, 2, 0, 1, 1, 2, 1, 2, 2, 2]
  | 5 => [0, 0, 0, 1, 0, 1, 1, 2, 0, 1, 1, 2, 1, 2, 2, 2, 0, 1, 1, 2, 1, 2, 2, 2, 1, 2, 2, 2, 2, 2, 2, 3]
  | _ => []) else (match n with
  | 1 => [0, 0, 0]
  | 2 => [0, 0, 0, 0, 3, 2, 0, 2, 1]
  | 3 => [0, 0, 0, 0, 3, 2, 0, 2, 1, 0, 3, 2, 3, 5, 4, 2, 4, 3, 0, 2, 1, 2, 4, 3, 1, 3, 2]
  | 4 => [0, 0, 0, 0, 3, 2, 0, 2, 1, 0, 3, 2, 3, 5, 4, 2, 4, 3, 0, 2, 1, 2, 4, 3, 1, 3, 2, 0, 3, 2, 3, 5, 4, 2, 4, 3, 3, 5, 4, 5, 5, 5, 4, 5, 4, 2, 4, 3, 4, 5, 4, 3, 4, 3, 0, 2, 1, 2, 4, 3, 1, 3, 2, 2, 4, 3, 4, 5, 4, 3, 4, 3, 1, 3, 2, 3, 4, 3, 2, 3, 2]
  | 5 => [0, 0, 0, 0, 3, 2, 0, 2, 1, 0, 3, 2, 3, 5, 4, 2, 4, 3, 0, 2, 1, 2, 4, 3, 1, 3, 2, 0, 3, 2, 3, 5, 4, 2, 4, 3, 3, 5, 4, 5, 5, 5, 4, 5, 4, 2, 4, 3, 4, 5, 4, 3, 4, 3, 0, 2, 1, 2, 4, 3, 1, 3, 2, 2, 4, 3, 4, 5, 4, 3, 4, 3, 1, 3, 2, 3, 4, 3, 2, 3, 2, 0, 3, 2, 3, 5, 4, 2, 4, 3, 3, 5, 4, 5, 5, 5, 4, 5, 4, 2, 4, 3, 4, 5, 4, 3, 4, 3, 3, 5, 4, 5, 5, 5, 4, 5, 4, 5, 5, 5, 5, 6, 5, 5, 5, 5, 4, 5, 4, 5, 5, 5, 4, 5, 4, 2, 4, 3, 4, 5, 4, 3, 4, 3, 4, 5, 4, 5, 5, 5, 4, 5, 4, 3, 4, 3, 4, 5, 4, 3, 4, 3, 0, 2, 1, 2, 4, 3, 1, 3, 2, 2, 4, 3, 4, 5, 4, 3, 4, 3, 1, 3, 2, 3, 4, 3, 2, 3, 2, 2, 4, 3, 4, 5, 4, 3, 4, 3, 4, 5, 4, 5, 5, 5, 4, 5, 4, 3, 4, 3, 4, 5, 4, 3, 4, 3, 1, 3, 2, 3, 4, 3, 2, 3, 2, 3, 4, 3, 4, 5, 4, 3, 4, 4, 2, 3, 2, 3, 4, 3, 2, 3, 3]
  | _ => [])
def lnT (m : Int) (x : List Int) : Int := (tblL m x.length).getD (kyL (m + 2) x).toNat 0
def mxT (a b : Int) : Int := if a > b then a else b
def vldT (m : Int) (x : List Int) (k : Nat) : Bool := !decide (aftL m k false x = x) && !decide (aftL m k true x = x)
def oneT (m : Int) (x : List Int) (k : Nat) : Int := 1 + mxT (lnT m (aftL m k false x)) (lnT m (aftL m k true x))
def chS (m : Int) (x : List Int) : Bool := decide (msL m x ≤ 10) && decide (lnT m x ≤ 100) && ((List.range (x.length - 1)).all fun j => [false, true].all fun y => isSh (aftL m (j + 1) y x) m && (decide (aftL m (j + 1) y x = x) || decide (msL m (aftL m (j + 1) y x) < msL m x))) &&
  if (opens x).length < 2 then decide (lnT m x = 0) else decide (1 ≤ lnT m x) && ((List.range (x.length - 1)).all fun j => !vldT m x (j + 1) || decide (lnT m x ≤ oneT m x (j + 1))) && (List.range (x.length - 1)).any fun j => vldT m x (j + 1) && decide (lnT m x = oneT m x (j + 1))
theorem chS_0 : ([1, 2, 3, 4, 5].all fun n => (List.range (2 ^ n)).all fun key => chS 0 (dgB 2 n key)) = true := by decide +kernel
theorem chS_1 : ([1, 2, 3, 4, 5].all fun n => (List.range (3 ^ n)).all fun key => chS 1 (dgB 3 n key)) = true := by decide +kernel
theorem chS_sh {x : List Int} {m : Int} (h : isSh x m = true) : chS m x = true := by
  obtain ⟨h1, h2, hm, _⟩ := sh_out h
  have hi := (sh_in h).1
  have hn : x.length ∈ [1, 2, 3, 4, 5] := by simp; omega
  rcases hm with rfl | rfl
  · have hi2 : inB 2 x = true := hi
    have hb : 0 ≤ kyL 2 x ∧ kyL 2 x < ((2 ^ x.length : Nat) : Int) := kyL_bd (b := 2) (by omega) hi2
    have hd : dgB 2 x.length (kyL 2 x).toNat = x := dg_ky (b := 2) (by omega) hi2
    have := List.all_eq_true.1 (List.all_eq_true.1 chS_0 x.length hn) (kyL 2 x).toNat (List.mem_range.2 (by omega))
    rw [hd] at this; exact this
  · have hi2 : inB 3 x = true := hi
    have hb : 0 ≤ kyL 3 x ∧ kyL 3 x < ((3 ^ x.length : Nat) : Int) := kyL_bd (b := 3) (by omega) hi2
    have hd : dgB 3 x.length (kyL 3 x).toNat = x := dg_ky (b := 3) (by omega) hi2
    have := List.all_eq_true.1 (List.all_eq_true.1 chS_1 x.length hn) (kyL 3 x).toNat (List.mem_range.2 (by omega))
    rw [hd] at this; exact this
theorem vld_no {m : Int} {x : List Int} {k : Nat} : ¬ vldT m x k = true ↔ (aftL m k false x = x ∨ aftL m k true x = x) := by
  by_cases h1 : aftL m k false x = x
  · simp [vldT, h1]
  · by_cases h2 : aftL m k true x = x
    · simp [vldT, h2]
    · simp [vldT, h1, h2]
structure CS (m : Int) (x : List Int) : Prop where
  sh : ∀ k, 1 ≤ k → k < x.length → ∀ y, isSh (aftL m k y x) m = true
  ms : ∀ k, 1 ≤ k → k < x.length → ∀ y, aftL m k y x ≠ x → msL m (aftL m k y x) < msL m x
  le : msL m x ≤ 10
  lt : 0 ≤ lnT m x ∧ lnT m x ≤ 100
  zero : (opens x).length < 2 → lnT m x = 0
  pos : ¬ (opens x).length < 2 → 1 ≤ lnT m x
  all : ¬ (opens x).length < 2 → ∀ k, 1 ≤ k → k < x.length → vldT m x k = true → lnT m x ≤ oneT m x k
  ex : ¬ (opens x).length < 2 → ∃ k, 1 ≤ k ∧ k < x.length ∧ vldT m x k = true ∧ lnT m x = oneT m x k
theorem CS.of {x : List Int} {m : Int} (h : isSh x m = true) : CS m x := by
  have hc := chS_sh h
  simp only [chS, Bool.and_eq_true, decide_eq_true_eq, List.all_eq_true, List.mem_range] at hc
  obtain ⟨⟨⟨c1, c2⟩, c3⟩, c4⟩ := hc
  have c3' : ∀ k, 1 ≤ k → k < x.length → ∀ y, isSh (aftL m k y x) m = true ∧ (aftL m k y x = x ∨ msL m (aftL m k y x) < msL m x) := fun k h1 h2 y => by
    have := c3 (k - 1) (by omega) y (by cases y <;> simp)
    rw [show k - 1 + 1 = k by omega] at this
    simpa using this
  refine ⟨fun k h1 h2 y => (c3' k h1 h2 y).1, fun k h1 h2 y hne => (c3' k h1 h2 y).2.resolve_left hne, c1, ⟨?_, c2⟩, fun ho => ?_, fun ho => ?_, fun ho => ?_, fun ho => ?_⟩
  · by_cases ho : (opens x).length < 2
    · simp [ho] at c4; omega
    · simp [ho] at c4; omega
  · simpa [ho] using c4
  · rw [if_neg ho] at c4
    simp only [Bool.and_eq_true, decide_eq_true_eq] at c4
    exact c4.1.1
  · rw [if_neg ho] at c4
    simp only [Bool.and_eq_true, List.all_eq_true, List.mem_range] at c4
    intro k h1 h2 hv
    have := c4.1.2 (k - 1) (by omega)
    rw [show k - 1 + 1 = k by omega, hv] at this
    simpa using this
  · rw [if_neg ho] at c4
    simp only [Bool.and_eq_true, List.any_eq_true, List.mem_range] at c4
    obtain ⟨j, hj, hv, he⟩ := c4.2
    exact ⟨j + 1, by omega, by omega, hv, by simpa using he⟩
/-- What a round of the reference finds. -/
theorem rnd_any {x : List Int} {m : Int} (h : isSh x m = true) (ho : ¬ (opens x).length < 2) (r : Int) (hr : 0 ≤ r) : ((List.range (x.length - 1)).any fun j => decide (lnT m (aftL m (j + 1) true x) ≤ r) && decide (lnT m (aftL m (j + 1) false x) ≤ r)) = decide (lnT m x ≤ r + 1) := by
  have C := CS.of h
  rw [Bool.eq_iff_iff, List.any_eq_true, decide_eq_true_eq]
  constructor
  · rintro ⟨j, hj, hb⟩
    rw [List.mem_range] at hj
    simp only [Bool.and_eq_true, decide_eq_true_eq] at hb
    by_cases hv : vldT m x (j + 1) = true
    · have := C.all ho (j + 1) (by omega) (by omega) hv
      simp only [oneT, mxT] at this
      split at this <;> omega
    · rcases vld_no.1 hv with e | e
      · rw [e] at hb; omega
      · rw [e] at hb; omega
  · intro hle
    obtain ⟨k, h1, h2, hv, he⟩ := C.ex ho
    refine ⟨k - 1, List.mem_range.2 (by omega), ?_⟩
    rw [show k - 1 + 1 = k by omega]
    simp only [Bool.and_eq_true, decide_eq_true_eq]
    simp only [oneT, mxT] at he
    split at he <;> omega
def lkE (k : Int) : List (Int × Int) → Option Int
  | [] => none
  | (a, v) :: r => if k = a then some v else lkE k r
def setE (k v : Int) : List (Int × Int) → List (Int × Int)
  | [] => [(k, v)]
  | (a, w) :: r => if k = a then (k, v) :: r else (a, w) :: setE k v r
def entE (E : List (Int × Int)) : List (PV × PV) := E.map fun e => (.int .i64 e.1, .int .i64 e.2)
def isE1 : PV × PV → Bool
  | (.int .i64 _, .int .i64 _) => true
  | _ => false
def ofE1 : PV × PV → Int × Int
  | (.int _ a, .int _ b) => (a, b)
  | _ => (0, 0)
def isES (es : List (PV × PV)) : Bool := es.all isE1
def ofES (es : List (PV × PV)) : List (Int × Int) := es.map ofE1
theorem isES_out : ∀ {es : List (PV × PV)}, isES es = true → es = entE (ofES es)
  | [], _ => rfl
  | e :: r, h => by
    simp only [isES, List.all_cons, Bool.and_eq_true] at h
    have ih := isES_out (es := r) h.2
    obtain ⟨p, q⟩ := e
    have h1 := h.1
    unfold isE1 at h1
    split at h1
    · rename_i heq
      injection heq with e1 e2
      subst e1; subst e2
      simp only [entE, ofES, List.map_cons, ofE1] at ih ⊢
      rw [← ih]
    · cases h1
theorem isES_ent (E : List (Int × Int)) : isES (entE E) = true := by simp [isES, entE, isE1]
theorem ofES_ent (E : List (Int × Int)) : ofES (entE E) = E := by
  induction E with
  | nil => rfl
  | cons e r ih =>
    simp only [ofES, entE, List.map_cons, ofE1, List.map_map] at ih ⊢
    rw [ih]
theorem keyEq_int (a b : Int) : keyEq (.int .i64 a) (.int .i64 b) = some (decide (a = b)) := by
  simp only [keyEq, scalEq]
  simp
  rw [Bool.eq_iff_iff]; simp
theorem look_entE {k : Int} : ∀ {E : List (Int × Int)}, look (.int .i64 k) (entE E) = some ((lkE k E).map (PV.int .i64))
  | [] => rfl
  | (a, v) :: r => by
    have ih := look_entE (k := k) (E := r)
    simp only [entE] at ih
    simp only [entE, List.map_cons, look, keyEq_int, lkE]
    by_cases h : k = a
    · simp [h]
    · simp [h, ih]
theorem mset_entE {k v : Int} : ∀ {E : List (Int × Int)}, mset (.int .i64 k) (.int .i64 v) (entE E) = some (entE (setE k v E))
  | [] => rfl
  | (a, w) :: r => by
    have ih := mset_entE (k := k) (v := v) (E := r)
    simp only [entE] at ih
    simp only [entE, List.map_cons, mset, keyEq_int, setE]
    by_cases h : k = a
    · simp [h]
    · simp [h, ih]
theorem lkE_set {k v q : Int} : ∀ {E : List (Int × Int)}, lkE q (setE k v E) = if q = k then some v else lkE q E
  | [] => by simp [setE, lkE]
  | (a, w) :: r => by
    have ih := lkE_set (k := k) (v := v) (q := q) (E := r)
    simp only [setE]
    by_cases h : k = a
    · subst h
      simp only [if_true, lkE]
      by_cases h2 : q = k <;> simp [h2]
    · simp only [if_neg h, lkE, ih]
      by_cases h2 : q = a
      · subst h2; rw [if_pos rfl, if_pos rfl, if_neg (fun e => h (Eq.symm e))]
      · simp only [if_neg h2]
/-- A map that tells no need but the right ones. -/
def okLM (m : Int) (n : Nat) (E : List (Int × Int)) : Prop := ∀ x, isSh x m = true → x.length = n → ∀ v, lkE (kyL 3 x) E = some v → v = lnT m x
theorem okLM_nil (m : Int) (n : Nat) : okLM m n [] := fun x _ _ v h => by cases h
theorem okLM_set {m : Int} {n : Nat} {E : List (Int × Int)} (h : okLM m n E) {x : List Int} (hx : isSh x m = true) (hn : x.length = n) : okLM m n (setE (kyL 3 x) (lnT m x) E) := by
  intro y hy hl v hv
  rw [lkE_set] at hv
  split at hv
  · rename_i e
    have := ky_inj (b := 3) (by omega) (sh_in hy).2 (sh_in hx).2 (by omega) e
    subst this
    injection hv with hv; exact hv.symm
  · exact h y hy hl v hv
abbrev ES := List (Int × Int)
def ofG (N : List Int → ES → Int × ES) (m : Int) (x : List Int) (k : Nat) (E : ES) : Option Int × ES :=
  if aftL m k false x = x ∨ aftL m k true x = x then (none, E) else
    (some (1 + mxT (N (aftL m k false x) E).1 (N (aftL m k true x) (N (aftL m k false x) E).2).1), (N (aftL m k true x) (N (aftL m k false x) E).2).2)
def betT (own best : Int) : Int := if best < 0 ∨ own < best then own else best
def lpG (N : List Int → ES → Int × ES) (m : Int) (x : List Int) (E : ES) : Nat → Int × ES
  | 0 => (-1, E)
  | j + 1 => match (ofG N m x (j + 1) (lpG N m x E j).2).1 with
    | some own => (betT own (lpG N m x E j).1, (ofG N m x (j + 1) (lpG N m x E j).2).2)
    | none => ((lpG N m x E j).1, (ofG N m x (j + 1) (lpG N m x E j).2).2)
def needM (m : Int) : Nat → List Int → ES → Int × ES
  | 0, _, E => (0, E)
  | f + 1, x, E => if (opens x).length < 2 then (0, E) else match lkE (kyL 3 x) E with
    | some v => (v, E)
    | none => ((lpG (needM m f) m x E (x.length - 1)).1, setE (kyL 3 x) (lpG (needM m f) m x E (x.length - 1)).1 (lpG (needM m f) m x E (x.length - 1)).2)
theorem mxT_comm (a b : Int) : mxT a b = mxT b a := by simp only [mxT]; split <;> split <;> omega
/-- What a way of telling needs must do, of states that have less to come. -/
def goodN (N : List Int → ES → Int × ES) (m : Int) (n s : Nat) : Prop := ∀ x, isSh x m = true → x.length = n → msL m x < s → ∀ E, okLM m n E → (N x E).1 = lnT m x ∧ okLM m n (N x E).2
theorem ofG_good {N : List Int → ES → Int × ES} {m : Int} {x : List Int} {n : Nat} (hx : isSh x m = true) (hn : x.length = n) (hN : goodN N m n (msL m x)) {k : Nat} (h1 : 1 ≤ k) (h2 : k < x.length) {E : ES} (hE : okLM m n E) : (ofG N m x k E).1 = (if vldT m x k = true then some (oneT m x k) else none) ∧ okLM m n (ofG N m x k E).2 := by
  have C := CS.of hx
  unfold ofG
  by_cases h : aftL m k false x = x ∨ aftL m k true x = x
  · have hv : ¬ vldT m x k = true := vld_no.2 h
    rw [if_pos h, if_neg hv]; exact ⟨rfl, hE⟩
  · have hv : vldT m x k = true := Decidable.byContradiction fun e => h (vld_no.1 e)
    rw [if_neg h, if_pos hv]
    obtain ⟨n1, n2⟩ := not_or.1 h
    obtain ⟨a1, a2⟩ := hN _ (C.sh k h1 h2 false) (by rw [aftL_len]; exact hn) (C.ms k h1 h2 false n1) E hE
    obtain ⟨b1, b2⟩ := hN _ (C.sh k h1 h2 true) (by rw [aftL_len]; exact hn) (C.ms k h1 h2 true n2) _ a2
    simp only [a1, b1, oneT]
    exact ⟨trivial, b2⟩
/-- The best of the first j comparisons. -/
def bstJ (m : Int) (x : List Int) : Nat → Int
  | 0 => -1
  | j + 1 => if vldT m x (j + 1) = true then betT (oneT m x (j + 1)) (bstJ m x j) else bstJ m x j
theorem lpG_good {N : List Int → ES → Int × ES} {m : Int} {x : List Int} {n : Nat} (hx : isSh x m = true) (hn : x.length = n) (hN : goodN N m n (msL m x)) {E : ES} (hE : okLM m n E) : ∀ j, j < x.length → (lpG N m x E j).1 = bstJ m x j ∧ okLM m n (lpG N m x E j).2
  | 0, _ => ⟨rfl, hE⟩
  | j + 1, h => by
    obtain ⟨i1, i2⟩ := lpG_good hx hn hN hE j (by omega)
    obtain ⟨o1, o2⟩ := ofG_good hx hn hN (k := j + 1) (by omega) h i2
    simp only [lpG, bstJ, o1, i1]
    by_cases hv : vldT m x (j + 1) = true
    · simp only [if_pos hv]; exact ⟨trivial, o2⟩
    · simp only [if_neg hv]; exact ⟨trivial, o2⟩
theorem bst_end {m : Int} {x : List Int} (hx : isSh x m = true) (ho : ¬ (opens x).length < 2) : bstJ m x (x.length - 1) = lnT m x := by
  have C := CS.of hx
  have hp := C.pos ho
  have key : ∀ j, j < x.length → (bstJ m x j = -1 ∨ lnT m x ≤ bstJ m x j) ∧ ((∃ k, 1 ≤ k ∧ k ≤ j ∧ vldT m x k = true ∧ lnT m x = oneT m x k) → bstJ m x j = lnT m x) := by
    intro j
    induction j with
    | zero => intro _; exact ⟨.inl rfl, fun ⟨k, h1, h2, _⟩ => by omega⟩
    | succ j ih =>
      intro hj
      obtain ⟨g1, g2⟩ := ih (by omega)
      simp only [bstJ]
      by_cases hv : vldT m x (j + 1) = true
      · have ha := C.all ho (j + 1) (by omega) hj hv
        simp only [if_pos hv, betT]
        refine ⟨?_, fun ⟨k, h1, h2, h3, h4⟩ => ?_⟩
        · split <;> omega
        · by_cases hk : k = j + 1
          · subst hk
            split
            · omega
            · rcases g1 with g | g <;> omega
          · have := g2 ⟨k, h1, by omega, h3, h4⟩
            split <;> omega
      · simp only [if_neg hv]
        refine ⟨g1, fun ⟨k, h1, h2, h3, h4⟩ => g2 ⟨k, h1, ?_, h3, h4⟩⟩
        have : k ≠ j + 1 := fun e => hv (e ▸ h3)
        omega
  obtain ⟨k, h1, h2, h3, h4⟩ := C.ex ho
  have hl := (sh_out hx).1
  exact (key (x.length - 1) (by omega)).2 ⟨k, h1, by omega, h3, h4⟩
theorem needM_good (m : Int) (n : Nat) : ∀ f, goodN (needM m f) m n f
  | 0 => fun x _ _ h => absurd h (Nat.not_lt_zero _)
  | f + 1 => fun x hx hn hs E hE => by
    have C := CS.of hx
    have ih : goodN (needM m f) m n (msL m x) := fun y hy hl hm => needM_good m n f y hy hl (by omega)
    simp only [needM]
    by_cases ho : (opens x).length < 2
    · rw [if_pos ho]; exact ⟨(C.zero ho).symm, hE⟩
    · rw [if_neg ho]
      cases hl : lkE (kyL 3 x) E with
      | some v => exact ⟨hE x hx hn v hl, hE⟩
      | none =>
        have hl1 := (sh_out hx).1
        obtain ⟨i1, i2⟩ := lpG_good hx hn ih hE (x.length - 1) (by omega)
        rw [bst_end hx ho] at i1
        simp only [i1]
        exact ⟨trivial, okLM_set i2 hx hn⟩
theorem ofG_congr {N N' : List Int → ES → Int × ES} {m : Int} {x : List Int} (hx : isSh x m = true) (h : ∀ y, isSh y m = true → msL m y < msL m x → ∀ E, N y E = N' y E) {k : Nat} (h1 : 1 ≤ k) (h2 : k < x.length) (E : ES) : ofG N m x k E = ofG N' m x k E := by
  have C := CS.of hx
  unfold ofG
  by_cases hq : aftL m k false x = x ∨ aftL m k true x = x
  · rw [if_pos hq, if_pos hq]
  · rw [if_neg hq, if_neg hq]
    obtain ⟨n1, n2⟩ := not_or.1 hq
    rw [h _ (C.sh k h1 h2 false) (C.ms k h1 h2 false n1), h _ (C.sh k h1 h2 true) (C.ms k h1 h2 true n2)]
theorem lpG_congr {N N' : List Int → ES → Int × ES} {m : Int} {x : List Int} (hx : isSh x m = true) (h : ∀ y, isSh y m = true → msL m y < msL m x → ∀ E, N y E = N' y E) (E : ES) : ∀ j, j < x.length → lpG N m x E j = lpG N' m x E j
  | 0, _ => rfl
  | j + 1, hj => by
    simp only [lpG, lpG_congr hx h E j (by omega), ofG_congr hx h (k := j + 1) (by omega) hj]
theorem needM_fuel (m : Int) : ∀ f x, isSh x m = true → msL m x < f → ∀ E, needM m (f + 1) x E = needM m f x E
  | 0, _, _, h, _ => absurd h (Nat.not_lt_zero _)
  | f + 1, x, hx, hs, E => by
    have hl := (sh_out hx).1
    have e := lpG_congr (N := needM m (f + 1)) (N' := needM m f) hx (fun y hy hm E => needM_fuel m f y hy (by omega) E) E (x.length - 1) (by omega)
    rw [needM, needM, e]
/-- The way by the map, and what it makes of the map. -/
def needE (m : Int) : List Int → ES → Int × ES := needM m 12
theorem needE_step {m : Int} {x : List Int} (hx : isSh x m = true) (E : ES) : needE m x E = if (opens x).length < 2 then (0, E) else match lkE (kyL 3 x) E with
    | some v => (v, E)
    | none => ((lpG (needE m) m x E (x.length - 1)).1, setE (kyL 3 x) (lpG (needE m) m x E (x.length - 1)).1 (lpG (needE m) m x E (x.length - 1)).2) := by
  have C := CS.of hx
  have h := needM_fuel m 12 x hx (by have := C.le; omega) E
  rw [needE, ← h, needM]
theorem needE_good {m : Int} {x : List Int} {E : ES} (hx : isSh x m = true) (hE : okLM m x.length E) : (needE m x E).1 = lnT m x ∧ okLM m x.length (needE m x E).2 :=
  needM_good m x.length 12 x hx rfl (by have := (CS.of hx).le; omega) E hE
theorem needE_goodN {m : Int} {x : List Int} (hx : isSh x m = true) : goodN (needE m) m x.length (msL m x) := fun y hy hl hm E hE => by
  rw [← hl] at hE ⊢
  exact needE_good hy hE
def ofE' (m : Int) (x : List Int) (k : Nat) (E : ES) : Option Int × ES := ofG (needE m) m x k E
def lpE (m : Int) (x : List Int) (E : ES) (j : Nat) : Int × ES := lpG (needE m) m x E j
theorem ofE_good {m : Int} {x : List Int} {k : Nat} {E : ES} (hx : isSh x m = true) (h1 : 1 ≤ k) (h2 : k < x.length) (hE : okLM m x.length E) : (ofE' m x k E).1 = (if vldT m x k = true then some (oneT m x k) else none) ∧ okLM m x.length (ofE' m x k E).2 :=
  ofG_good hx rfl (needE_goodN hx) h1 h2 hE
theorem lpE_good {m : Int} {x : List Int} {E : ES} (hx : isSh x m = true) (hE : okLM m x.length E) {j : Nat} (h : j < x.length) : (lpE m x E j).1 = bstJ m x j ∧ okLM m x.length (lpE m x E j).2 :=
  lpG_good hx rfl (needE_goodN hx) hE j h
end Go.Proofs.Ytgnclbdhpdjafaa.Pam
