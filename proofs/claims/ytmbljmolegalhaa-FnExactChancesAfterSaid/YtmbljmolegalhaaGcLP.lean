/- A part of the proof that stands in this folder: a small machine whose steps are shown to be the steps of the model, or walks of functions by it. No condition of its own. -/
import Derived.Test.YtmbljmolegalhaaGcLH
set_option linter.unusedVariables false
set_option linter.unusedSimpArgs false
namespace Go.Proofs.Ytmbljmolegalhaa.Pam
open Go
/-- Whether a doubt is one. -/
def isD (s o : Int) : Bool := decide (1 ≤ o) && decide (o ≤ 10) && (decide (0 ≤ s) && decide (s ≤ o))
def a_IsDoubt (f_in : FuncId) : AFn := ⟨1, 
  .seq (.reg [⟨some 1, none, .w (.box 2 (.t 0))⟩,
    ⟨some 2, none, .d (.mv (.c (.bool false)))⟩])
  (.seq (.reg [⟨some 3, none, .d (.fa 1 (.t 1))⟩,
    ⟨some 4, none, .d (.load false 1 (.t 3))⟩,
    ⟨some 5, none, .d (.call (.f f_in) [(.t 4), (.c (.int .i64 1)), (.c (.int .i64 10))])⟩,
    ⟨some 6, none, .d (.mv (.t 5))⟩,
    ⟨some 7, some (6, true), .d (.fa 0 (.t 1))⟩,
    ⟨some 8, some (6, true), .d (.load false 1 (.t 7))⟩,
    ⟨some 9, some (6, true), .d (.fa 1 (.t 1))⟩,
    ⟨some 10, some (6, true), .d (.load false 1 (.t 9))⟩,
    ⟨some 11, some (6, true), .d (.call (.f f_in) [(.t 8), (.c (.int .i64 0)), (.t 10)])⟩,
    ⟨some 12, none, .d (.pick (.t 6) (.t 11) (.c (.bool false)))⟩,
    ⟨some 2, none, .d (.mv (.t 12))⟩])
  (.ret)), [.tmp 2]⟩
def n_IsDoubt : Nat → Option Ann := fun _ => none
abbrev k_IsDoubt : List Nat := [0, 1, 2]
abbrev o_IsDoubt : List Nat := [1]
def a_l7Good (f_l1In : FuncId) : AFn := ⟨1, 
  .seq (.reg [⟨some 1, none, .w (.box 2 (.t 0))⟩,
    ⟨some 2, none, .d (.mv (.c (.bool false)))⟩])
  (.seq (.reg [⟨some 3, none, .d (.fa 1 (.t 1))⟩,
    ⟨some 4, none, .d (.load false 1 (.t 3))⟩,
    ⟨some 5, none, .d (.call (.f f_l1In) [(.t 4), (.c (.int .i64 1)), (.c (.int .i64 10))])⟩,
    ⟨some 6, none, .d (.mv (.t 5))⟩,
    ⟨some 7, some (6, true), .d (.fa 0 (.t 1))⟩,
    ⟨some 8, some (6, true), .d (.load false 1 (.t 7))⟩,
    ⟨some 9, some (6, true), .d (.fa 1 (.t 1))⟩,
    ⟨some 10, some (6, true), .d (.load false 1 (.t 9))⟩,
    ⟨some 11, some (6, true), .d (.call (.f f_l1In) [(.t 8), (.c (.int .i64 0)), (.t 10)])⟩,
    ⟨some 12, none, .d (.pick (.t 6) (.t 11) (.c (.bool false)))⟩,
    ⟨some 2, none, .d (.mv (.t 12))⟩])
  (.ret)), [.tmp 2]⟩
def n_l7Good : Nat → Option Ann := fun _ => none
abbrev k_l7Good : List Nat := [0, 1, 2]
abbrev o_l7Good : List Nat := [1]
def c_IsDoubt : Con := pure' fun
  | [.p (.agg [.int .i64 s, .int .i64 o])] => if (True) then some (.p (.bool (isD s o)), []) else none
  | _ => none
theorem s_IsDoubt {P : Program} (hm : P.follows .mixedOrders = true) {Γ : Gam} (hΓ : GS P Γ) {n : FuncId} {f_in : FuncId} (is : Is P n (a_IsDoubt f_in)) (h_in : Γ f_in = c_in)  : Says P n c_IsDoubt := by
  refine Says.pure fun args r fs h => ?_
  split at h
  case h_2 => cases h
  rename_i s o
  split at h
  case isFalse => cases h
  rename_i hc
  simp only [ofI_ints, ofBo_bools, ofAs_asks, Option.some.injEq, Prod.mk.injEq] at h hc
  obtain ⟨rfl, rfl⟩ := h
  cases h1 : (decide (1 ≤ o) && decide (o ≤ 10)) with
  | false =>
    have hb : isD s o = false := by simp only [isD, h1, Bool.false_and]
    refine is.go hm hΓ k_IsDoubt o_IsDoubt (by simp [a_IsDoubt]) ?_
    simp only [a_IsDoubt, h_in, c_in, h1, hb, List.zipIdx_cons, List.zipIdx_nil, ↓SP, SQ, Gam.add, stepM, callC, argC, lendO, nmBy, nmC, likeL, likeB, plainOb, offs, X, F, trP, trO, stepD, stepW, newA, SV.tr, SV.trL, fz, allP, Ob.tr, loadA, cellsA, SV.cells, binA, binI, eqOut, isSl, isPt, natOf, callee, snap, SV.refsL, SV.refs, thaw, fzAll, loA, hiA, elemOf, partsA, buildA, putCells, ↓reduceIte, reduceCtorEq, okCell, Nat.reduceAdd, Nat.reduceEqDiff, Nat.reduceSub, Nat.reduceMul, Nat.reduceLeDiff, Nat.reduceLT, Nat.reduceBEq, PV.scal, PV.scalL, SV.scal, SV.scalL, Ob.scal, PV.isCell, pure', resO]
    exact finA_val (by simp [retA, rvA, List.mapM_cons, List.mapM_nil, Option.pure_def, Option.bind_eq_bind, Option.bind_some, Option.map_some, mkE_cons, mk_nil, mkO_cons, mkO_nil, loadA, ↓reduceIte, List.take_succ_cons, List.take_zero, List.drop_zero, List.drop_succ_cons, List.length_cons, List.length_nil, Nat.reduceAdd, Nat.reduceEqDiff, Nat.reduceLeDiff, Nat.zero_add, Nat.le_refl, reduceCtorEq, SV.tr, SV.trL, nmF, rn_nil, rn_cons1, rn_cons2, List.map_cons, List.map_nil, List.all_cons, List.all_nil, plainOb, SV.refsL, SV.refs, Ob.refs, X, F, List.range_succ, List.range_zero, List.nil_append, List.cons_append, List.isEmpty_nil, decide_true, Nat.reduceLT, Bool.and_self, Bool.and_true, and_self, and_true, List.getElem?_cons_zero, List.getElem?_cons_succ, List.nodup_cons, List.nodup_nil, List.mem_cons, List.not_mem_nil, not_false_eq_true, or_false, List.append_nil, mkO, setO_mk, List.mem_singleton]) (by simp [SV.tr, SV.trL])
  | true =>
    have hb : isD s o = (decide (0 ≤ s) && decide (s ≤ o)) := by simp only [isD, h1, Bool.true_and]
    refine is.go hm hΓ k_IsDoubt o_IsDoubt (by simp [a_IsDoubt]) ?_
    simp only [a_IsDoubt, h_in, c_in, h1, hb, List.zipIdx_cons, List.zipIdx_nil, ↓SP, SQ, Gam.add, stepM, callC, argC, lendO, nmBy, nmC, likeL, likeB, plainOb, offs, X, F, trP, trO, stepD, stepW, newA, SV.tr, SV.trL, fz, allP, Ob.tr, loadA, cellsA, SV.cells, binA, binI, eqOut, isSl, isPt, natOf, callee, snap, SV.refsL, SV.refs, thaw, fzAll, loA, hiA, elemOf, partsA, buildA, putCells, ↓reduceIte, reduceCtorEq, okCell, Nat.reduceAdd, Nat.reduceEqDiff, Nat.reduceSub, Nat.reduceMul, Nat.reduceLeDiff, Nat.reduceLT, Nat.reduceBEq, PV.scal, PV.scalL, SV.scal, SV.scalL, Ob.scal, PV.isCell, pure', resO]
    exact finA_val (by simp [retA, rvA, List.mapM_cons, List.mapM_nil, Option.pure_def, Option.bind_eq_bind, Option.bind_some, Option.map_some, mkE_cons, mk_nil, mkO_cons, mkO_nil, loadA, ↓reduceIte, List.take_succ_cons, List.take_zero, List.drop_zero, List.drop_succ_cons, List.length_cons, List.length_nil, Nat.reduceAdd, Nat.reduceEqDiff, Nat.reduceLeDiff, Nat.zero_add, Nat.le_refl, reduceCtorEq, SV.tr, SV.trL, nmF, rn_nil, rn_cons1, rn_cons2, List.map_cons, List.map_nil, List.all_cons, List.all_nil, plainOb, SV.refsL, SV.refs, Ob.refs, X, F, List.range_succ, List.range_zero, List.nil_append, List.cons_append, List.isEmpty_nil, decide_true, Nat.reduceLT, Bool.and_self, Bool.and_true, and_self, and_true, List.getElem?_cons_zero, List.getElem?_cons_succ, List.nodup_cons, List.nodup_nil, List.mem_cons, List.not_mem_nil, not_false_eq_true, or_false, List.append_nil, mkO, setO_mk, List.mem_singleton]) (by simp [SV.tr, SV.trL])
theorem s_l7Good {P : Program} (hm : P.follows .mixedOrders = true) {Γ : Gam} (hΓ : GS P Γ) {n : FuncId} {f_l1In : FuncId} (is : Is P n (a_l7Good f_l1In)) (h_l1In : Γ f_l1In = c_in)  : Says P n c_IsDoubt := by
  refine Says.pure fun args r fs h => ?_
  split at h
  case h_2 => cases h
  rename_i s o
  split at h
  case isFalse => cases h
  rename_i hc
  simp only [ofI_ints, ofBo_bools, ofAs_asks, Option.some.injEq, Prod.mk.injEq] at h hc
  obtain ⟨rfl, rfl⟩ := h
  cases h1 : (decide (1 ≤ o) && decide (o ≤ 10)) with
  | false =>
    have hb : isD s o = false := by simp only [isD, h1, Bool.false_and]
    refine is.go hm hΓ k_l7Good o_l7Good (by simp [a_l7Good]) ?_
    simp only [a_l7Good, h_l1In, c_in, h1, hb, List.zipIdx_cons, List.zipIdx_nil, ↓SP, SQ, Gam.add, stepM, callC, argC, lendO, nmBy, nmC, likeL, likeB, plainOb, offs, X, F, trP, trO, stepD, stepW, newA, SV.tr, SV.trL, fz, allP, Ob.tr, loadA, cellsA, SV.cells, binA, binI, eqOut, isSl, isPt, natOf, callee, snap, SV.refsL, SV.refs, thaw, fzAll, loA, hiA, elemOf, partsA, buildA, putCells, ↓reduceIte, reduceCtorEq, okCell, Nat.reduceAdd, Nat.reduceEqDiff, Nat.reduceSub, Nat.reduceMul, Nat.reduceLeDiff, Nat.reduceLT, Nat.reduceBEq, PV.scal, PV.scalL, SV.scal, SV.scalL, Ob.scal, PV.isCell, pure', resO]
    exact finA_val (by simp [retA, rvA, List.mapM_cons, List.mapM_nil, Option.pure_def, Option.bind_eq_bind, Option.bind_some, Option.map_some, mkE_cons, mk_nil, mkO_cons, mkO_nil, loadA, ↓reduceIte, List.take_succ_cons, List.take_zero, List.drop_zero, List.drop_succ_cons, List.length_cons, List.length_nil, Nat.reduceAdd, Nat.reduceEqDiff, Nat.reduceLeDiff, Nat.zero_add, Nat.le_refl, reduceCtorEq, SV.tr, SV.trL, nmF, rn_nil, rn_cons1, rn_cons2, List.map_cons, List.map_nil, List.all_cons, List.all_nil, plainOb, SV.refsL, SV.refs, Ob.refs, X, F, List.range_succ, List.range_zero, List.nil_append, List.cons_append, List.isEmpty_nil, decide_true, Nat.reduceLT, Bool.and_self, Bool.and_true, and_self, and_true, List.getElem?_cons_zero, List.getElem?_cons_succ, List.nodup_cons, List.nodup_nil, List.mem_cons, List.not_mem_nil, not_false_eq_true, or_false, List.append_nil, mkO, setO_mk, List.mem_singleton]) (by simp [SV.tr, SV.trL])
  | true =>
    have hb : isD s o = (decide (0 ≤ s) && decide (s ≤ o)) := by simp only [isD, h1, Bool.true_and]
    refine is.go hm hΓ k_l7Good o_l7Good (by simp [a_l7Good]) ?_
    simp only [a_l7Good, h_l1In, c_in, h1, hb, List.zipIdx_cons, List.zipIdx_nil, ↓SP, SQ, Gam.add, stepM, callC, argC, lendO, nmBy, nmC, likeL, likeB, plainOb, offs, X, F, trP, trO, stepD, stepW, newA, SV.tr, SV.trL, fz, allP, Ob.tr, loadA, cellsA, SV.cells, binA, binI, eqOut, isSl, isPt, natOf, callee, snap, SV.refsL, SV.refs, thaw, fzAll, loA, hiA, elemOf, partsA, buildA, putCells, ↓reduceIte, reduceCtorEq, okCell, Nat.reduceAdd, Nat.reduceEqDiff, Nat.reduceSub, Nat.reduceMul, Nat.reduceLeDiff, Nat.reduceLT, Nat.reduceBEq, PV.scal, PV.scalL, SV.scal, SV.scalL, Ob.scal, PV.isCell, pure', resO]
    exact finA_val (by simp [retA, rvA, List.mapM_cons, List.mapM_nil, Option.pure_def, Option.bind_eq_bind, Option.bind_some, Option.map_some, mkE_cons, mk_nil, mkO_cons, mkO_nil, loadA, ↓reduceIte, List.take_succ_cons, List.take_zero, List.drop_zero, List.drop_succ_cons, List.length_cons, List.length_nil, Nat.reduceAdd, Nat.reduceEqDiff, Nat.reduceLeDiff, Nat.zero_add, Nat.le_refl, reduceCtorEq, SV.tr, SV.trL, nmF, rn_nil, rn_cons1, rn_cons2, List.map_cons, List.map_nil, List.all_cons, List.all_nil, plainOb, SV.refsL, SV.refs, Ob.refs, X, F, List.range_succ, List.range_zero, List.nil_append, List.cons_append, List.isEmpty_nil, decide_true, Nat.reduceLT, Bool.and_self, Bool.and_true, and_self, and_true, List.getElem?_cons_zero, List.getElem?_cons_succ, List.nodup_cons, List.nodup_nil, List.mem_cons, List.not_mem_nil, not_false_eq_true, or_false, List.append_nil, mkO, setO_mk, List.mem_singleton]) (by simp [SV.tr, SV.trL])
def a_toDoubt : AFn := ⟨1, 
  .seq (.reg [⟨some 1, none, .w (.box 2 (.t 0))⟩,
    ⟨some 2, none, .w (.alloc [.int .i64 0, .int .i64 0])⟩])
  (.seq (.reg [⟨some 3, none, .w (.alloc [.int .i64 0, .int .i64 0])⟩])
  (.seq (.reg [⟨some 4, none, .d (.fa 0 (.t 1))⟩,
    ⟨some 5, none, .d (.load false 1 (.t 4))⟩,
    ⟨some 6, none, .d (.fa 0 (.t 3))⟩,
    ⟨none, none, .w (.store 1 (.t 6) (.t 5))⟩])
  (.seq (.reg [⟨some 7, none, .d (.fa 1 (.t 1))⟩,
    ⟨some 8, none, .d (.load false 1 (.t 7))⟩,
    ⟨some 9, none, .d (.fa 1 (.t 3))⟩,
    ⟨none, none, .w (.store 1 (.t 9) (.t 8))⟩])
  (.seq (.reg [⟨some 10, none, .d (.load true 2 (.t 3))⟩,
    ⟨none, none, .w (.store 2 (.t 2) (.t 10))⟩])
  (.ret))))), [.cell 2 2 true]⟩
def n_toDoubt : Nat → Option Ann := fun _ => none
abbrev k_toDoubt : List Nat := [0, 1, 2, 3]
abbrev o_toDoubt : List Nat := [1, 2, 3]
def c_toDoubt : Con := pure' fun
  | [.p (.agg [.int .i64 s, .int .i64 o])] => if (True) then some (.ag [.p (.int .i64 s), .p (.int .i64 o)], []) else none
  | _ => none
theorem s_toDoubt {P : Program} (hm : P.follows .mixedOrders = true) {Γ : Gam} (hΓ : GS P Γ) {n : FuncId} (is : Is P n a_toDoubt)  : Says P n c_toDoubt := by
  refine Says.pure fun args r fs h => ?_
  split at h
  case h_2 => cases h
  rename_i s o
  split at h
  case isFalse => cases h
  rename_i hc
  simp only [ofI_ints, ofBo_bools, ofAs_asks, Option.some.injEq, Prod.mk.injEq] at h hc
  obtain ⟨rfl, rfl⟩ := h
  refine is.go hm hΓ k_toDoubt o_toDoubt (by simp [a_toDoubt]) ?_
  simp only [a_toDoubt, List.zipIdx_cons, List.zipIdx_nil, ↓SP, SQ, Gam.add, stepM, callC, argC, lendO, nmBy, nmC, likeL, likeB, plainOb, offs, X, F, trP, trO, stepD, stepW, newA, SV.tr, SV.trL, fz, allP, Ob.tr, loadA, cellsA, SV.cells, binA, binI, eqOut, isSl, isPt, natOf, callee, snap, SV.refsL, SV.refs, thaw, fzAll, loA, hiA, elemOf, partsA, buildA, putCells, ↓reduceIte, reduceCtorEq, okCell, Nat.reduceAdd, Nat.reduceEqDiff, Nat.reduceSub, Nat.reduceMul, Nat.reduceLeDiff, Nat.reduceLT, Nat.reduceBEq, PV.scal, PV.scalL, SV.scal, SV.scalL, Ob.scal, PV.isCell, pure', resO]
  exact finA_val (by simp [retA, rvA, List.mapM_cons, List.mapM_nil, Option.pure_def, Option.bind_eq_bind, Option.bind_some, Option.map_some, mkE_cons, mk_nil, mkO_cons, mkO_nil, loadA, ↓reduceIte, List.take_succ_cons, List.take_zero, List.drop_zero, List.drop_succ_cons, List.length_cons, List.length_nil, Nat.reduceAdd, Nat.reduceEqDiff, Nat.reduceLeDiff, Nat.zero_add, Nat.le_refl, reduceCtorEq, SV.tr, SV.trL, nmF, rn_nil, rn_cons1, rn_cons2, List.map_cons, List.map_nil, List.all_cons, List.all_nil, plainOb, SV.refsL, SV.refs, Ob.refs, X, F, List.range_succ, List.range_zero, List.nil_append, List.cons_append, List.isEmpty_nil, decide_true, Nat.reduceLT, Bool.and_self, Bool.and_true, and_self, and_true, List.getElem?_cons_zero, List.getElem?_cons_succ, List.nodup_cons, List.nodup_nil, List.mem_cons, List.not_mem_nil, not_false_eq_true, or_false, List.append_nil, mkO, setO_mk, List.mem_singleton]) (by simp [SV.tr, SV.trL])
theorem areA_12 (n : Int) (l : List (Int × Bool)) : (areA n l 20 && decide ((l.length : Int) ≤ 12)) = areA n l 12 := by
  simp only [areA]
  by_cases h : (l.length : Int) ≤ 12
  · have h2 : (l.length : Int) ≤ 20 := by omega
    simp only [dec_t h, dec_t h2, Bool.and_true]
  · simp only [dec_f h, Bool.and_false, Bool.false_and]
def a_l7Answers (f_l2Answers : FuncId) (f_l7Good : FuncId) : AFn := ⟨3, 
  .seq (.reg [⟨some 5, none, .w (.box 2 (.t 2))⟩,
    ⟨some 6, none, .d (.mv (.c (.bool false)))⟩])
  (.seq (.reg [⟨some 7, none, .d (.mv (.t 0))⟩,
    ⟨some 8, none, .d (.mv (.t 1))⟩,
    ⟨some 9, none, .d (.call (.f f_l2Answers) [(.t 7), (.t 8)])⟩,
    ⟨some 10, none, .d (.mv (.t 9))⟩,
    ⟨some 11, some (10, true), .d (.mv (.t 1))⟩,
    ⟨some 12, some (10, true), .d (.len (.t 11))⟩,
    ⟨some 13, some (10, true), .d (.bin .arith .leq (.t 12) (.c (.int .i64 12)))⟩,
    ⟨some 14, none, .d (.pick (.t 10) (.t 13) (.c (.bool false)))⟩,
    ⟨some 15, none, .d (.mv (.t 14))⟩,
    ⟨some 16, some (15, true), .d (.load true 2 (.t 5))⟩,
    ⟨some 17, some (15, true), .d (.call (.f f_l7Good) [(.t 16)])⟩,
    ⟨some 18, none, .d (.pick (.t 15) (.t 17) (.c (.bool false)))⟩,
    ⟨some 6, none, .d (.mv (.t 18))⟩])
  (.ret)), [.tmp 6]⟩
def n_l7Answers : Nat → Option Ann := fun _ => none
abbrev k_l7Answers : List Nat := [0, 1, 2, 5, 6]
abbrev o_l7Answers : List Nat := [5]
def c_l7Answers : Con := pure' fun
  | [.p (.int .i64 n), .p (.sl 2 l_), .p (.agg [.int .i64 s, .int .i64 o])] => if isAs l_ = true ∧ ((ofAs l_).length ≤ 1100000) then some (.p (.bool (areA n (ofAs l_) 12 && isD s o)), []) else none
  | _ => none
theorem s_l7Answers {P : Program} (hm : P.follows .mixedOrders = true) {Γ : Gam} (hΓ : GS P Γ) {n : FuncId} {f_l2Answers : FuncId} {f_l7Good : FuncId} (is : Is P n (a_l7Answers f_l2Answers f_l7Good)) (h_l2Answers : Γ f_l2Answers = c_l2Answers) (h_l7Good : Γ f_l7Good = c_IsDoubt)  : Says P n c_l7Answers := by
  refine Says.pure fun args r fs h => ?_
  split at h
  case h_2 => cases h
  rename_i n l_ s o
  split at h
  case isFalse => cases h
  rename_i hc
  obtain ⟨hl_, hc⟩ := hc
  obtain ⟨l, rfl⟩ := isAs_out hl_
  simp only [ofI_ints, ofBo_bools, ofAs_asks, Option.some.injEq, Prod.mk.injEq] at h hc
  obtain ⟨rfl, rfl⟩ := h
  have h12 := areA_12 n l
  cases h1 : areA n l 20 with
  | false =>
    rw [h1, Bool.false_and] at h12
    refine is.go hm hΓ k_l7Answers o_l7Answers (by simp [a_l7Answers]) ?_
    simp only [a_l7Answers, h_l2Answers, c_l2Answers, h_l7Good, c_IsDoubt, hc, h1, ← h12, Bool.false_and, List.zipIdx_cons, List.zipIdx_nil, ↓SP, SQ, Gam.add, stepM, callC, argC, lendO, nmBy, nmC, likeL, likeB, plainOb, offs, X, F, trP, trO, stepD, stepW, newA, SV.tr, SV.trL, fz, allP, Ob.tr, loadA, cellsA, SV.cells, binA, binI, eqOut, isSl, isPt, natOf, callee, snap, SV.refsL, SV.refs, thaw, fzAll, loA, hiA, elemOf, partsA, buildA, putCells, ↓reduceIte, reduceCtorEq, okCell, Nat.reduceAdd, Nat.reduceEqDiff, Nat.reduceSub, Nat.reduceMul, Nat.reduceLeDiff, Nat.reduceLT, Nat.reduceBEq, PV.scal, PV.scalL, SV.scal, SV.scalL, Ob.scal, PV.isCell, pure', resO]
    exact finA_val (by simp [retA, rvA, List.mapM_cons, List.mapM_nil, Option.pure_def, Option.bind_eq_bind, Option.bind_some, Option.map_some, mkE_cons, mk_nil, mkO_cons, mkO_nil, loadA, ↓reduceIte, List.take_succ_cons, List.take_zero, List.drop_zero, List.drop_succ_cons, List.length_cons, List.length_nil, Nat.reduceAdd, Nat.reduceEqDiff, Nat.reduceLeDiff, Nat.zero_add, Nat.le_refl, reduceCtorEq, SV.tr, SV.trL, nmF, rn_nil, rn_cons1, rn_cons2, List.map_cons, List.map_nil, List.all_cons, List.all_nil, plainOb, SV.refsL, SV.refs, Ob.refs, X, F, List.range_succ, List.range_zero, List.nil_append, List.cons_append, List.isEmpty_nil, decide_true, Nat.reduceLT, Bool.and_self, Bool.and_true, and_self, and_true, List.getElem?_cons_zero, List.getElem?_cons_succ, List.nodup_cons, List.nodup_nil, List.mem_cons, List.not_mem_nil, not_false_eq_true, or_false, List.append_nil, mkO, setO_mk, List.mem_singleton]) (by simp [SV.tr, SV.trL])
  | true =>
    rw [h1, Bool.true_and] at h12
    by_cases h2 : (l.length : Int) ≤ 12
    · rw [dec_t h2] at h12
      refine is.go hm hΓ k_l7Answers o_l7Answers (by simp [a_l7Answers]) ?_
      simp only [a_l7Answers, h_l2Answers, c_l2Answers, h_l7Good, c_IsDoubt, hc, h1, h2, ← h12, Bool.true_and, List.zipIdx_cons, List.zipIdx_nil, ↓SP, SQ, Gam.add, stepM, callC, argC, lendO, nmBy, nmC, likeL, likeB, plainOb, offs, X, F, trP, trO, stepD, stepW, newA, SV.tr, SV.trL, fz, allP, Ob.tr, loadA, cellsA, SV.cells, binA, binI, eqOut, isSl, isPt, natOf, callee, snap, SV.refsL, SV.refs, thaw, fzAll, loA, hiA, elemOf, partsA, buildA, putCells, ↓reduceIte, reduceCtorEq, okCell, Nat.reduceAdd, Nat.reduceEqDiff, Nat.reduceSub, Nat.reduceMul, Nat.reduceLeDiff, Nat.reduceLT, Nat.reduceBEq, PV.scal, PV.scalL, SV.scal, SV.scalL, Ob.scal, PV.isCell, pure', resO]
      exact finA_val (by simp [retA, rvA, List.mapM_cons, List.mapM_nil, Option.pure_def, Option.bind_eq_bind, Option.bind_some, Option.map_some, mkE_cons, mk_nil, mkO_cons, mkO_nil, loadA, ↓reduceIte, List.take_succ_cons, List.take_zero, List.drop_zero, List.drop_succ_cons, List.length_cons, List.length_nil, Nat.reduceAdd, Nat.reduceEqDiff, Nat.reduceLeDiff, Nat.zero_add, Nat.le_refl, reduceCtorEq, SV.tr, SV.trL, nmF, rn_nil, rn_cons1, rn_cons2, List.map_cons, List.map_nil, List.all_cons, List.all_nil, plainOb, SV.refsL, SV.refs, Ob.refs, X, F, List.range_succ, List.range_zero, List.nil_append, List.cons_append, List.isEmpty_nil, decide_true, Nat.reduceLT, Bool.and_self, Bool.and_true, and_self, and_true, List.getElem?_cons_zero, List.getElem?_cons_succ, List.nodup_cons, List.nodup_nil, List.mem_cons, List.not_mem_nil, not_false_eq_true, or_false, List.append_nil, mkO, setO_mk, List.mem_singleton]) (by simp [SV.tr, SV.trL])
    · rw [dec_f h2] at h12
      refine is.go hm hΓ k_l7Answers o_l7Answers (by simp [a_l7Answers]) ?_
      simp only [a_l7Answers, h_l2Answers, c_l2Answers, h_l7Good, c_IsDoubt, hc, h1, h2, ← h12, Bool.false_and, List.zipIdx_cons, List.zipIdx_nil, ↓SP, SQ, Gam.add, stepM, callC, argC, lendO, nmBy, nmC, likeL, likeB, plainOb, offs, X, F, trP, trO, stepD, stepW, newA, SV.tr, SV.trL, fz, allP, Ob.tr, loadA, cellsA, SV.cells, binA, binI, eqOut, isSl, isPt, natOf, callee, snap, SV.refsL, SV.refs, thaw, fzAll, loA, hiA, elemOf, partsA, buildA, putCells, ↓reduceIte, reduceCtorEq, okCell, Nat.reduceAdd, Nat.reduceEqDiff, Nat.reduceSub, Nat.reduceMul, Nat.reduceLeDiff, Nat.reduceLT, Nat.reduceBEq, PV.scal, PV.scalL, SV.scal, SV.scalL, Ob.scal, PV.isCell, pure', resO]
      exact finA_val (by simp [retA, rvA, List.mapM_cons, List.mapM_nil, Option.pure_def, Option.bind_eq_bind, Option.bind_some, Option.map_some, mkE_cons, mk_nil, mkO_cons, mkO_nil, loadA, ↓reduceIte, List.take_succ_cons, List.take_zero, List.drop_zero, List.drop_succ_cons, List.length_cons, List.length_nil, Nat.reduceAdd, Nat.reduceEqDiff, Nat.reduceLeDiff, Nat.zero_add, Nat.le_refl, reduceCtorEq, SV.tr, SV.trL, nmF, rn_nil, rn_cons1, rn_cons2, List.map_cons, List.map_nil, List.all_cons, List.all_nil, plainOb, SV.refsL, SV.refs, Ob.refs, X, F, List.range_succ, List.range_zero, List.nil_append, List.cons_append, List.isEmpty_nil, decide_true, Nat.reduceLT, Bool.and_self, Bool.and_true, and_self, and_true, List.getElem?_cons_zero, List.getElem?_cons_succ, List.nodup_cons, List.nodup_nil, List.mem_cons, List.not_mem_nil, not_false_eq_true, or_false, List.append_nil, mkO, setO_mk, List.mem_singleton]) (by simp [SV.tr, SV.trL])
/-- How many of the first i answers are false for a number. -/
def manyI (l : List (Int × Bool)) (j : Int) (i : Nat) : Nat := ((l.take i).filter fun a => (bitW a.1 j == 1) != a.2).length
def manyN (l : List (Int × Bool)) (j : Int) : Nat := manyI l j l.length
theorem manyI_yes {l : List (Int × Bool)} {j : Int} {i : Nat} (h : i < l.length) (hb : ((bitW (l.getD i (0, false)).1 j == 1) != (l.getD i (0, false)).2) = true) : manyI l j (i + 1) = manyI l j i + 1 := by
  simp only [manyI, take_one l i (0, false) h, List.filter_append, List.filter_cons, hb, List.filter_nil, if_true, List.length_append, List.length_cons, List.length_nil]
theorem manyI_no {l : List (Int × Bool)} {j : Int} {i : Nat} (h : i < l.length) (hb : ((bitW (l.getD i (0, false)).1 j == 1) != (l.getD i (0, false)).2) = false) : manyI l j (i + 1) = manyI l j i := by
  simp only [manyI, take_one l i (0, false) h, List.filter_append, List.filter_cons, hb, List.filter_nil, Bool.false_eq_true, if_false, List.append_nil]
theorem manyI_le (l : List (Int × Bool)) (j : Int) (i : Nat) : manyI l j i ≤ i := Nat.le_trans (List.length_filter_le _ _) (by simp; omega)
theorem manyI_le2 (l : List (Int × Bool)) (j : Int) : manyN l j ≤ l.length := manyI_le l j _
def a_falseFor (f_isFalse : FuncId) : AFn := ⟨2, 
  .seq (.reg [⟨some 4, none, .d (.mv (.c (.int .i64 0)))⟩])
  (.seq (.reg [⟨some 5, none, .d (.mv (.c (.int .i64 0)))⟩])
  (.seq (.seq (.reg [⟨some 8, none, .d (.mv (.t 0))⟩,
    ⟨some 9, none, .d (.len (.t 8))⟩,
    ⟨some 10, none, .d (.mv (.c (.int .i64 0)))⟩])
  (.block 0 (.loop (.seq (.reg [⟨some 11, none, .d (.bin .arith .lss (.t 10) (.t 9))⟩])
    (.seq (.cond (.t 11) (.skip) (.exit 0))
    (.seq (.block 1 (.seq (.reg [⟨some 12, none, .d (.ia 2 (.t 8) (.t 10))⟩,
       ⟨some 13, none, .d (.load true 2 (.t 12))⟩,
       ⟨some 7, none, .w (.alloc [.int .i64 0, .bool false])⟩,
       ⟨none, none, .w (.store 2 (.t 7) (.t 13))⟩])
     (.seq (.reg [⟨some 14, none, .d (.load true 2 (.t 7))⟩,
       ⟨some 15, none, .d (.mv (.t 1))⟩,
       ⟨some 16, none, .d (.call (.f f_isFalse) [(.t 14), (.t 15)])⟩])
     (.cond (.t 16) (.reg [⟨some 17, none, .d (.mv (.t 5))⟩,
        ⟨some 18, none, .d (.bin .arith .add (.t 17) (.c (.int .i64 1)))⟩,
        ⟨some 5, none, .d (.mv (.t 18))⟩]) (.skip)))))
    (.reg [⟨some 19, none, .d (.bin .arith .add (.t 10) (.c (.int .i64 1)))⟩,
      ⟨some 10, none, .d (.mv (.t 19))⟩])))))))
  (.seq (.reg [⟨some 20, none, .d (.mv (.t 5))⟩,
    ⟨some 4, none, .d (.mv (.t 20))⟩])
  (.ret)))), [.tmp 4]⟩
def n_falseFor : Nat → Option Ann := fun _ => none
abbrev k_falseFor : List Nat := [0, 1, 4, 5, 7, 8, 9, 10, 11, 16]
abbrev o_falseFor : List Nat := [7]
def a_l2Many (f_l2False : FuncId) : AFn := ⟨2, 
  .seq (.reg [⟨some 4, none, .d (.mv (.c (.int .i64 0)))⟩])
  (.seq (.reg [⟨some 5, none, .d (.mv (.c (.int .i64 0)))⟩])
  (.seq (.seq (.reg [⟨some 6, none, .d (.mv (.c (.int .i64 0)))⟩])
  (.block 0 (.loop (.seq (.seq (.reg [⟨some 7, none, .d (.mv (.t 6))⟩,
      ⟨some 8, none, .d (.mv (.t 0))⟩,
      ⟨some 9, none, .d (.len (.t 8))⟩,
      ⟨some 10, none, .d (.bin .arith .lss (.t 7) (.t 9))⟩])
    (.cond (.t 10) (.skip) (.exit 0)))
    (.seq (.block 1 (.seq (.dreg [] [([], ⟨some 13, none, .d (.mv (.t 0))⟩),
       ([], ⟨some 14, none, .d (.mv (.t 6))⟩),
       ([], ⟨some 15, none, .d (.ia 2 (.t 13) (.t 14))⟩),
       ([], ⟨some 16, none, .d (.fa 0 (.t 15))⟩),
       ([], ⟨some 17, none, .d (.load false 1 (.t 16))⟩),
       ([], ⟨some 18, none, .d (.mv (.t 0))⟩),
       ([], ⟨some 19, none, .d (.mv (.t 6))⟩),
       ([], ⟨some 20, none, .d (.ia 2 (.t 18) (.t 19))⟩),
       ([], ⟨some 21, none, .d (.fa 1 (.t 20))⟩),
       ([], ⟨some 22, none, .d (.load false 1 (.t 21))⟩),
       ([], ⟨some 23, none, .d (.mv (.t 1))⟩)] [⟨some 24, none, .d (.call (.f f_l2False) [(.t 17), (.t 22), (.t 23)])⟩])
     (.cond (.t 24) (.reg [⟨some 25, none, .d (.mv (.t 5))⟩,
        ⟨some 26, none, .d (.bin .arith .add (.t 25) (.c (.int .i64 1)))⟩,
        ⟨some 5, none, .d (.mv (.t 26))⟩]) (.skip))))
    (.reg [⟨some 11, none, .d (.mv (.t 6))⟩,
      ⟨some 12, none, .d (.bin .arith .add (.t 11) (.c (.int .i64 1)))⟩,
      ⟨some 6, none, .d (.mv (.t 12))⟩]))))))
  (.seq (.reg [⟨some 27, none, .d (.mv (.t 5))⟩,
    ⟨some 4, none, .d (.mv (.t 27))⟩])
  (.ret)))), [.tmp 4]⟩
def n_l2Many : Nat → Option Ann := fun _ => none
abbrev k_l2Many : List Nat := [0, 1, 4, 5, 6, 10, 24]
abbrev o_l2Many : List Nat := []
def c_falseFor : Con := pure' fun
  | [.p (.sl 2 l_), .p (.int .i64 j)] => if isAs l_ = true ∧ ((ofAs l_).length ≤ 1100000 ∧ 0 ≤ j) then some (.p (.int .i64 (manyN (ofAs l_) j : Int)), []) else none
  | _ => none
theorem s_falseFor {P : Program} (hm : P.follows .mixedOrders = true) {Γ : Gam} (hΓ : GS P Γ) {n : FuncId} {f_isFalse : FuncId} (is : Is P n (a_falseFor f_isFalse)) (h_isFalse : Γ f_isFalse = c_isFalse)  : Says P n c_falseFor := by
  refine Says.pure fun args r fs h => ?_
  split at h
  case h_2 => cases h
  rename_i l_ j
  split at h
  case isFalse => cases h
  rename_i hc
  obtain ⟨hl_, hc⟩ := hc
  obtain ⟨l, rfl⟩ := isAs_out hl_
  simp only [ofI_ints, ofBo_bools, ofAs_asks, Option.some.injEq, Prod.mk.injEq] at h hc
  obtain ⟨rfl, rfl⟩ := h
  obtain ⟨hl0, hj0⟩ := hc
  refine is.go hm hΓ k_falseFor o_falseFor (by simp [a_falseFor]) ?_
  simp only [a_falseFor, h_isFalse, c_isFalse, List.zipIdx_cons, List.zipIdx_nil, ↓SP, SQ, Gam.add, stepM, callC, argC, lendO, nmBy, nmC, likeL, likeB, plainOb, offs, X, F, trP, trO, stepD, stepW, newA, SV.tr, SV.trL, fz, allP, Ob.tr, loadA, cellsA, SV.cells, binA, binI, eqOut, isSl, isPt, natOf, callee, snap, SV.refsL, SV.refs, thaw, fzAll, loA, hiA, elemOf, partsA, buildA, putCells, ↓reduceIte, reduceCtorEq, okCell, Nat.reduceAdd, Nat.reduceEqDiff, Nat.reduceSub, Nat.reduceMul, Nat.reduceLeDiff, Nat.reduceLT, Nat.reduceBEq, PV.scal, PV.scalL, SV.scal, SV.scalL, Ob.scal, PV.isCell, pure', resO]
  refine loop_at (fun s : Nat × Option Ob × SV × SV × SV => mkEnv [(0, .p (.sl 2 (asks l))), (1, si j), (4, si 0), (5, si (manyI l j s.1)), (7, s.2.2.1), (8, .p (.sl 2 (asks l))), (9, si l.length), (10, si s.1), (11, s.2.2.2.1), (16, s.2.2.2.2)]) (fun s => mkO [(7, s.2.1)]) (fun s => s.1 ≤ l.length) (fun s => l.length - s.1) (0, none, .junk, .junk, .junk) (by simp) rfl rfl ?_
  rintro ⟨i, ob, c1, c2, c3⟩ hi R hR hN
  simp only at hi
  by_cases h : i < l.length
  · have h1 : (i : Int) < l.length := by omega
    have hw := wrap_one (i := i) (by omega)
    have hg := asks_get h
    have hle := manyI_le l j i
    have hwc := wrap_one (i := manyI l j i) (by omega)
    cases hb : ((bitW (l.getD i (0, false)).1 j == 1) != (l.getD i (0, false)).2) with
    | true =>
      simp only [h1, hw, hg, hj0, hb, hwc, ← manyI_yes h hb, h_isFalse, c_isFalse, ↓SP, SQ, Gam.add, stepM, callC, argC, lendO, nmBy, nmC, likeL, likeB, plainOb, offs, X, F, trP, trO, stepD, stepW, newA, SV.tr, SV.trL, fz, allP, Ob.tr, loadA, cellsA, SV.cells, binA, binI, eqOut, isSl, isPt, natOf, callee, snap, SV.refsL, SV.refs, thaw, fzAll, loA, hiA, elemOf, partsA, buildA, putCells, ↓reduceIte, reduceCtorEq, okCell, Nat.reduceAdd, Nat.reduceEqDiff, Nat.reduceSub, Nat.reduceMul, Nat.reduceLeDiff, Nat.reduceLT, Nat.reduceBEq, PV.scal, PV.scalL, SV.scal, SV.scalL, Ob.scal, PV.isCell, pure', resO]
      exact hN (i + 1, _, _, _, _) _ _ (by simp only; omega) (by simp only; omega) rfl rfl
    | false =>
      simp only [h1, hw, hg, hj0, hb, h_isFalse, c_isFalse, ↓SP, SQ, Gam.add, stepM, callC, argC, lendO, nmBy, nmC, likeL, likeB, plainOb, offs, X, F, trP, trO, stepD, stepW, newA, SV.tr, SV.trL, fz, allP, Ob.tr, loadA, cellsA, SV.cells, binA, binI, eqOut, isSl, isPt, natOf, callee, snap, SV.refsL, SV.refs, thaw, fzAll, loA, hiA, elemOf, partsA, buildA, putCells, ↓reduceIte, reduceCtorEq, okCell, Nat.reduceAdd, Nat.reduceEqDiff, Nat.reduceSub, Nat.reduceMul, Nat.reduceLeDiff, Nat.reduceLT, Nat.reduceBEq, PV.scal, PV.scalL, SV.scal, SV.scalL, Ob.scal, PV.isCell, pure', resO]
      exact hN (i + 1, _, _, _, _) _ _ (by simp only; omega) (by simp only; omega) (by rw [manyI_no h hb]) rfl
  · have he : i = l.length := by omega
    have h1 : ¬ (i : Int) < l.length := by omega
    simp only [h1, ↓SP, SQ, Gam.add, stepM, callC, argC, lendO, nmBy, nmC, likeL, likeB, plainOb, offs, X, F, trP, trO, stepD, stepW, newA, SV.tr, SV.trL, fz, allP, Ob.tr, loadA, cellsA, SV.cells, binA, binI, eqOut, isSl, isPt, natOf, callee, snap, SV.refsL, SV.refs, thaw, fzAll, loA, hiA, elemOf, partsA, buildA, putCells, ↓reduceIte, reduceCtorEq, okCell, Nat.reduceAdd, Nat.reduceEqDiff, Nat.reduceSub, Nat.reduceMul, Nat.reduceLeDiff, Nat.reduceLT, Nat.reduceBEq, PV.scal, PV.scalL, SV.scal, SV.scalL, Ob.scal, PV.isCell, pure', resO]
    refine hR _ _ _ (by intro h; cases h) ?_
    simp only [↓SP, SQ, Gam.add, stepM, callC, argC, lendO, nmBy, nmC, likeL, likeB, plainOb, offs, X, F, trP, trO, stepD, stepW, newA, SV.tr, SV.trL, fz, allP, Ob.tr, loadA, cellsA, SV.cells, binA, binI, eqOut, isSl, isPt, natOf, callee, snap, SV.refsL, SV.refs, thaw, fzAll, loA, hiA, elemOf, partsA, buildA, putCells, ↓reduceIte, reduceCtorEq, okCell, Nat.reduceAdd, Nat.reduceEqDiff, Nat.reduceSub, Nat.reduceMul, Nat.reduceLeDiff, Nat.reduceLT, Nat.reduceBEq, PV.scal, PV.scalL, SV.scal, SV.scalL, Ob.scal, PV.isCell, pure', resO]
    subst he
    exact finA_val (by simp [manyN, retA, rvA, List.mapM_cons, List.mapM_nil, Option.pure_def, Option.bind_eq_bind, Option.bind_some, Option.map_some, mkE_cons, mk_nil, mkO_cons, mkO_nil, loadA, ↓reduceIte, List.take_succ_cons, List.take_zero, List.drop_zero, List.drop_succ_cons, List.length_cons, List.length_nil, Nat.reduceAdd, Nat.reduceEqDiff, Nat.reduceLeDiff, Nat.zero_add, Nat.le_refl, reduceCtorEq, SV.tr, SV.trL, nmF, rn_nil, rn_cons1, rn_cons2, List.map_cons, List.map_nil, List.all_cons, List.all_nil, plainOb, SV.refsL, SV.refs, Ob.refs, X, F, List.range_succ, List.range_zero, List.nil_append, List.cons_append, List.isEmpty_nil, decide_true, Nat.reduceLT, Bool.and_self, Bool.and_true, and_self, and_true, List.getElem?_cons_zero, List.getElem?_cons_succ, List.nodup_cons, List.nodup_nil, List.mem_cons, List.not_mem_nil, not_false_eq_true, or_false, List.append_nil, mkO, setO_mk, List.mem_singleton]) (by simp [SV.tr, SV.trL])
theorem s_l2Many {P : Program} (hm : P.follows .mixedOrders = true) {Γ : Gam} (hΓ : GS P Γ) {n : FuncId} {f_l2False : FuncId} (is : Is P n (a_l2Many f_l2False)) (h_l2False : Γ f_l2False = c_l2False)  : Says P n c_falseFor := by
  refine Says.pure fun args r fs h => ?_
  split at h
  case h_2 => cases h
  rename_i l_ j
  split at h
  case isFalse => cases h
  rename_i hc
  obtain ⟨hl_, hc⟩ := hc
  obtain ⟨l, rfl⟩ := isAs_out hl_
  simp only [ofI_ints, ofBo_bools, ofAs_asks, Option.some.injEq, Prod.mk.injEq] at h hc
  obtain ⟨rfl, rfl⟩ := h
  obtain ⟨hl0, hj0⟩ := hc
  refine is.go hm hΓ k_l2Many o_l2Many (by simp [a_l2Many]) ?_
  simp only [a_l2Many, h_l2False, c_l2False, List.zipIdx_cons, List.zipIdx_nil, ↓SP, SQ, Gam.add, stepM, callC, argC, lendO, nmBy, nmC, likeL, likeB, plainOb, offs, X, F, trP, trO, stepD, stepW, newA, SV.tr, SV.trL, fz, allP, Ob.tr, loadA, cellsA, SV.cells, binA, binI, eqOut, isSl, isPt, natOf, callee, snap, SV.refsL, SV.refs, thaw, fzAll, loA, hiA, elemOf, partsA, buildA, putCells, ↓reduceIte, reduceCtorEq, okCell, Nat.reduceAdd, Nat.reduceEqDiff, Nat.reduceSub, Nat.reduceMul, Nat.reduceLeDiff, Nat.reduceLT, Nat.reduceBEq, PV.scal, PV.scalL, SV.scal, SV.scalL, Ob.scal, PV.isCell, pure', resO]
  refine loop_at (fun s : Nat × SV × SV => mkEnv [(0, .p (.sl 2 (asks l))), (1, si j), (4, si 0), (5, si (manyI l j s.1)), (6, si s.1), (10, s.2.1), (24, s.2.2)]) (fun s => mkO []) (fun s => s.1 ≤ l.length) (fun s => l.length - s.1) (0, .junk, .junk) (by simp) rfl rfl ?_
  rintro ⟨i, c1, c2⟩ hi R hR hN
  simp only at hi
  by_cases h : i < l.length
  · have h1 : (i : Int) < l.length := by omega
    have hw := wrap_one (i := i) (by omega)
    have hg := asks_get h
    have hle := manyI_le l j i
    have hwc := wrap_one (i := manyI l j i) (by omega)
    cases hb : ((bitW (l.getD i (0, false)).1 j == 1) != (l.getD i (0, false)).2) with
    | true =>
      simp only [h1, hw, hg, hj0, hb, hwc, ← manyI_yes h hb, h_l2False, c_l2False, ↓SP, SQ, Gam.add, stepM, callC, argC, lendO, nmBy, nmC, likeL, likeB, plainOb, offs, X, F, trP, trO, stepD, stepW, newA, SV.tr, SV.trL, fz, allP, Ob.tr, loadA, cellsA, SV.cells, binA, binI, eqOut, isSl, isPt, natOf, callee, snap, SV.refsL, SV.refs, thaw, fzAll, loA, hiA, elemOf, partsA, buildA, putCells, ↓reduceIte, reduceCtorEq, okCell, Nat.reduceAdd, Nat.reduceEqDiff, Nat.reduceSub, Nat.reduceMul, Nat.reduceLeDiff, Nat.reduceLT, Nat.reduceBEq, PV.scal, PV.scalL, SV.scal, SV.scalL, Ob.scal, PV.isCell, pure', resO]
      exact hN (i + 1, _, _) _ _ (by simp only; omega) (by simp only; omega) rfl rfl
    | false =>
      simp only [h1, hw, hg, hj0, hb, h_l2False, c_l2False, ↓SP, SQ, Gam.add, stepM, callC, argC, lendO, nmBy, nmC, likeL, likeB, plainOb, offs, X, F, trP, trO, stepD, stepW, newA, SV.tr, SV.trL, fz, allP, Ob.tr, loadA, cellsA, SV.cells, binA, binI, eqOut, isSl, isPt, natOf, callee, snap, SV.refsL, SV.refs, thaw, fzAll, loA, hiA, elemOf, partsA, buildA, putCells, ↓reduceIte, reduceCtorEq, okCell, Nat.reduceAdd, Nat.reduceEqDiff, Nat.reduceSub, Nat.reduceMul, Nat.reduceLeDiff, Nat.reduceLT, Nat.reduceBEq, PV.scal, PV.scalL, SV.scal, SV.scalL, Ob.scal, PV.isCell, pure', resO]
      exact hN (i + 1, _, _) _ _ (by simp only; omega) (by simp only; omega) (by rw [manyI_no h hb]) rfl
  · have he : i = l.length := by omega
    have h1 : ¬ (i : Int) < l.length := by omega
    simp only [h1, ↓SP, SQ, Gam.add, stepM, callC, argC, lendO, nmBy, nmC, likeL, likeB, plainOb, offs, X, F, trP, trO, stepD, stepW, newA, SV.tr, SV.trL, fz, allP, Ob.tr, loadA, cellsA, SV.cells, binA, binI, eqOut, isSl, isPt, natOf, callee, snap, SV.refsL, SV.refs, thaw, fzAll, loA, hiA, elemOf, partsA, buildA, putCells, ↓reduceIte, reduceCtorEq, okCell, Nat.reduceAdd, Nat.reduceEqDiff, Nat.reduceSub, Nat.reduceMul, Nat.reduceLeDiff, Nat.reduceLT, Nat.reduceBEq, PV.scal, PV.scalL, SV.scal, SV.scalL, Ob.scal, PV.isCell, pure', resO]
    refine hR _ _ _ (by intro h; cases h) ?_
    simp only [↓SP, SQ, Gam.add, stepM, callC, argC, lendO, nmBy, nmC, likeL, likeB, plainOb, offs, X, F, trP, trO, stepD, stepW, newA, SV.tr, SV.trL, fz, allP, Ob.tr, loadA, cellsA, SV.cells, binA, binI, eqOut, isSl, isPt, natOf, callee, snap, SV.refsL, SV.refs, thaw, fzAll, loA, hiA, elemOf, partsA, buildA, putCells, ↓reduceIte, reduceCtorEq, okCell, Nat.reduceAdd, Nat.reduceEqDiff, Nat.reduceSub, Nat.reduceMul, Nat.reduceLeDiff, Nat.reduceLT, Nat.reduceBEq, PV.scal, PV.scalL, SV.scal, SV.scalL, Ob.scal, PV.isCell, pure', resO]
    subst he
    exact finA_val (by simp [manyN, retA, rvA, List.mapM_cons, List.mapM_nil, Option.pure_def, Option.bind_eq_bind, Option.bind_some, Option.map_some, mkE_cons, mk_nil, mkO_cons, mkO_nil, loadA, ↓reduceIte, List.take_succ_cons, List.take_zero, List.drop_zero, List.drop_succ_cons, List.length_cons, List.length_nil, Nat.reduceAdd, Nat.reduceEqDiff, Nat.reduceLeDiff, Nat.zero_add, Nat.le_refl, reduceCtorEq, SV.tr, SV.trL, nmF, rn_nil, rn_cons1, rn_cons2, List.map_cons, List.map_nil, List.all_cons, List.all_nil, plainOb, SV.refsL, SV.refs, Ob.refs, X, F, List.range_succ, List.range_zero, List.nil_append, List.cons_append, List.isEmpty_nil, decide_true, Nat.reduceLT, Bool.and_self, Bool.and_true, and_self, and_true, List.getElem?_cons_zero, List.getElem?_cons_succ, List.nodup_cons, List.nodup_nil, List.mem_cons, List.not_mem_nil, not_false_eq_true, or_false, List.append_nil, mkO, setO_mk, List.mem_singleton]) (by simp [SV.tr, SV.trL])
theorem pow_le {b e : Nat} (hb : b ≤ 10) (he : e ≤ 12) : b ^ e ≤ 10 ^ 12 := Nat.le_trans (Nat.pow_le_pow_left hb e) (Nat.pow_le_pow_right (by omega) he)
theorem pow_step {b i : Nat} (hb : b ≤ 10) (hi : i < 12) : IntKind.i64.wrap (((b ^ i : Nat) : Int) * (b : Int)) = ((b ^ (i + 1) : Nat) : Int) := by
  have h1 := pow_le (e := i + 1) hb (by omega)
  rw [← Int.natCast_mul, ← Nat.pow_succ]
  generalize b ^ (i + 1) = q at *
  exact wrap64 (by omega) (by omega)
def a_power : AFn := ⟨2, 
  .seq (.reg [⟨some 4, none, .d (.mv (.c (.int .i64 0)))⟩])
  (.seq (.reg [⟨some 5, none, .d (.mv (.c (.int .i64 1)))⟩])
  (.seq (.seq (.reg [⟨some 6, none, .d (.mv (.t 1))⟩,
    ⟨some 7, none, .d (.mv (.c (.int .i64 0)))⟩])
  (.block 0 (.loop (.seq (.reg [⟨some 8, none, .d (.bin .arith .lss (.t 7) (.t 6))⟩])
    (.seq (.cond (.t 8) (.skip) (.exit 0))
    (.seq (.block 1 (.reg [⟨some 9, none, .d (.mv (.t 5))⟩,
       ⟨some 10, none, .d (.mv (.t 0))⟩,
       ⟨some 11, none, .d (.bin .arith .mul (.t 9) (.t 10))⟩,
       ⟨some 5, none, .d (.mv (.t 11))⟩]))
    (.reg [⟨some 12, none, .d (.bin .arith .add (.t 7) (.c (.int .i64 1)))⟩,
      ⟨some 7, none, .d (.mv (.t 12))⟩])))))))
  (.seq (.reg [⟨some 13, none, .d (.mv (.t 5))⟩,
    ⟨some 4, none, .d (.mv (.t 13))⟩])
  (.ret)))), [.tmp 4]⟩
def n_power : Nat → Option Ann := fun _ => none
abbrev k_power : List Nat := [0, 1, 4, 5, 6, 7, 8]
abbrev o_power : List Nat := []
def a_l7Power : AFn := ⟨2, 
  .seq (.reg [⟨some 4, none, .d (.mv (.c (.int .i64 0)))⟩])
  (.seq (.reg [⟨some 5, none, .d (.mv (.c (.int .i64 1)))⟩])
  (.seq (.seq (.reg [⟨some 6, none, .d (.mv (.c (.int .i64 0)))⟩])
  (.block 0 (.loop (.seq (.seq (.reg [⟨some 7, none, .d (.mv (.t 6))⟩,
      ⟨some 8, none, .d (.mv (.t 1))⟩,
      ⟨some 9, none, .d (.bin .arith .lss (.t 7) (.t 8))⟩])
    (.cond (.t 9) (.skip) (.exit 0)))
    (.seq (.block 1 (.reg [⟨some 12, none, .d (.mv (.t 5))⟩,
       ⟨some 13, none, .d (.mv (.t 0))⟩,
       ⟨some 14, none, .d (.bin .arith .mul (.t 12) (.t 13))⟩,
       ⟨some 5, none, .d (.mv (.t 14))⟩]))
    (.reg [⟨some 10, none, .d (.mv (.t 6))⟩,
      ⟨some 11, none, .d (.bin .arith .add (.t 10) (.c (.int .i64 1)))⟩,
      ⟨some 6, none, .d (.mv (.t 11))⟩]))))))
  (.seq (.reg [⟨some 15, none, .d (.mv (.t 5))⟩,
    ⟨some 4, none, .d (.mv (.t 15))⟩])
  (.ret)))), [.tmp 4]⟩
def n_l7Power : Nat → Option Ann := fun _ => none
abbrev k_l7Power : List Nat := [0, 1, 4, 5, 6, 9]
abbrev o_l7Power : List Nat := []
def c_power : Con := pure' fun
  | [.p (.int .i64 b), .p (.int .i64 e)] => if (0 ≤ b ∧ b ≤ 10 ∧ 0 ≤ e ∧ e ≤ 12) then some (.p (.int .i64 ((b.toNat ^ e.toNat : Nat) : Int)), []) else none
  | _ => none
theorem s_power {P : Program} (hm : P.follows .mixedOrders = true) {Γ : Gam} (hΓ : GS P Γ) {n : FuncId} (is : Is P n a_power)  : Says P n c_power := by
  refine Says.pure fun args r fs h => ?_
  split at h
  case h_2 => cases h
  rename_i b e
  split at h
  case isFalse => cases h
  rename_i hc
  simp only [ofI_ints, ofBo_bools, ofAs_asks, Option.some.injEq, Prod.mk.injEq] at h hc
  obtain ⟨rfl, rfl⟩ := h
  obtain ⟨h0, h1, h2, h3⟩ := hc
  obtain ⟨b, rfl⟩ : ∃ j : Nat, b = j := ⟨b.toNat, by omega⟩
  obtain ⟨e, rfl⟩ : ∃ j : Nat, e = j := ⟨e.toNat, by omega⟩
  simp only [Int.toNat_natCast]
  refine is.go hm hΓ k_power o_power (by simp [a_power]) ?_
  simp only [a_power, List.zipIdx_cons, List.zipIdx_nil, ↓SP, SQ, Gam.add, stepM, callC, argC, lendO, nmBy, nmC, likeL, likeB, plainOb, offs, X, F, trP, trO, stepD, stepW, newA, SV.tr, SV.trL, fz, allP, Ob.tr, loadA, cellsA, SV.cells, binA, binI, eqOut, isSl, isPt, natOf, callee, snap, SV.refsL, SV.refs, thaw, fzAll, loA, hiA, elemOf, partsA, buildA, putCells, ↓reduceIte, reduceCtorEq, okCell, Nat.reduceAdd, Nat.reduceEqDiff, Nat.reduceSub, Nat.reduceMul, Nat.reduceLeDiff, Nat.reduceLT, Nat.reduceBEq, PV.scal, PV.scalL, SV.scal, SV.scalL, Ob.scal, PV.isCell, pure', resO]
  refine loop_at (fun s : Nat × SV => mkEnv [(0, si b), (1, si e), (4, si 0), (5, si ((b ^ s.1 : Nat) : Int)), (6, si e), (7, si s.1), (8, s.2)]) (fun s => mkO []) (fun s => s.1 ≤ e) (fun s => e - s.1) (0, .junk) (by simp) rfl rfl ?_
  rintro ⟨i, c1⟩ hi R hR hN
  simp only at hi
  by_cases h : i < e
  · have h1' : (i : Int) < e := by omega
    have hw := wrap_one (i := i) (by omega)
    have hp := pow_step (b := b) (i := i) (by omega) (by omega)
    simp only [h1', hw, hp, ↓SP, SQ, Gam.add, stepM, callC, argC, lendO, nmBy, nmC, likeL, likeB, plainOb, offs, X, F, trP, trO, stepD, stepW, newA, SV.tr, SV.trL, fz, allP, Ob.tr, loadA, cellsA, SV.cells, binA, binI, eqOut, isSl, isPt, natOf, callee, snap, SV.refsL, SV.refs, thaw, fzAll, loA, hiA, elemOf, partsA, buildA, putCells, ↓reduceIte, reduceCtorEq, okCell, Nat.reduceAdd, Nat.reduceEqDiff, Nat.reduceSub, Nat.reduceMul, Nat.reduceLeDiff, Nat.reduceLT, Nat.reduceBEq, PV.scal, PV.scalL, SV.scal, SV.scalL, Ob.scal, PV.isCell, pure', resO]
    exact hN (i + 1, _) _ _ (by simp only; omega) (by simp only; omega) rfl rfl
  · have he : i = e := by omega
    have h1' : ¬ (i : Int) < e := by omega
    simp only [h1', ↓SP, SQ, Gam.add, stepM, callC, argC, lendO, nmBy, nmC, likeL, likeB, plainOb, offs, X, F, trP, trO, stepD, stepW, newA, SV.tr, SV.trL, fz, allP, Ob.tr, loadA, cellsA, SV.cells, binA, binI, eqOut, isSl, isPt, natOf, callee, snap, SV.refsL, SV.refs, thaw, fzAll, loA, hiA, elemOf, partsA, buildA, putCells, ↓reduceIte, reduceCtorEq, okCell, Nat.reduceAdd, Nat.reduceEqDiff, Nat.reduceSub, Nat.reduceMul, Nat.reduceLeDiff, Nat.reduceLT, Nat.reduceBEq, PV.scal, PV.scalL, SV.scal, SV.scalL, Ob.scal, PV.isCell, pure', resO]
    refine hR _ _ _ (by intro h; cases h) ?_
    simp only [↓SP, SQ, Gam.add, stepM, callC, argC, lendO, nmBy, nmC, likeL, likeB, plainOb, offs, X, F, trP, trO, stepD, stepW, newA, SV.tr, SV.trL, fz, allP, Ob.tr, loadA, cellsA, SV.cells, binA, binI, eqOut, isSl, isPt, natOf, callee, snap, SV.refsL, SV.refs, thaw, fzAll, loA, hiA, elemOf, partsA, buildA, putCells, ↓reduceIte, reduceCtorEq, okCell, Nat.reduceAdd, Nat.reduceEqDiff, Nat.reduceSub, Nat.reduceMul, Nat.reduceLeDiff, Nat.reduceLT, Nat.reduceBEq, PV.scal, PV.scalL, SV.scal, SV.scalL, Ob.scal, PV.isCell, pure', resO]
    subst he
    exact finA_val (by simp [retA, rvA, List.mapM_cons, List.mapM_nil, Option.pure_def, Option.bind_eq_bind, Option.bind_some, Option.map_some, mkE_cons, mk_nil, mkO_cons, mkO_nil, loadA, ↓reduceIte, List.take_succ_cons, List.take_zero, List.drop_zero, List.drop_succ_cons, List.length_cons, List.length_nil, Nat.reduceAdd, Nat.reduceEqDiff, Nat.reduceLeDiff, Nat.zero_add, Nat.le_refl, reduceCtorEq, SV.tr, SV.trL, nmF, rn_nil, rn_cons1, rn_cons2, List.map_cons, List.map_nil, List.all_cons, List.all_nil, plainOb, SV.refsL, SV.refs, Ob.refs, X, F, List.range_succ, List.range_zero, List.nil_append, List.cons_append, List.isEmpty_nil, decide_true, Nat.reduceLT, Bool.and_self, Bool.and_true, and_self, and_true, List.getElem?_cons_zero, List.getElem?_cons_succ, List.nodup_cons, List.nodup_nil, List.mem_cons, List.not_mem_nil, not_false_eq_true, or_false, List.append_nil, mkO, setO_mk, List.mem_singleton]) (by simp [SV.tr, SV.trL])
theorem s_l7Power {P : Program} (hm : P.follows .mixedOrders = true) {Γ : Gam} (hΓ : GS P Γ) {n : FuncId} (is : Is P n a_l7Power)  : Says P n c_power := by
  refine Says.pure fun args r fs h => ?_
  split at h
  case h_2 => cases h
  rename_i b e
  split at h
  case isFalse => cases h
  rename_i hc
  simp only [ofI_ints, ofBo_bools, ofAs_asks, Option.some.injEq, Prod.mk.injEq] at h hc
  obtain ⟨rfl, rfl⟩ := h
  obtain ⟨h0, h1, h2, h3⟩ := hc
  obtain ⟨b, rfl⟩ : ∃ j : Nat, b = j := ⟨b.toNat, by omega⟩
  obtain ⟨e, rfl⟩ : ∃ j : Nat, e = j := ⟨e.toNat, by omega⟩
  simp only [Int.toNat_natCast]
  refine is.go hm hΓ k_l7Power o_l7Power (by simp [a_l7Power]) ?_
  simp only [a_l7Power, List.zipIdx_cons, List.zipIdx_nil, ↓SP, SQ, Gam.add, stepM, callC, argC, lendO, nmBy, nmC, likeL, likeB, plainOb, offs, X, F, trP, trO, stepD, stepW, newA, SV.tr, SV.trL, fz, allP, Ob.tr, loadA, cellsA, SV.cells, binA, binI, eqOut, isSl, isPt, natOf, callee, snap, SV.refsL, SV.refs, thaw, fzAll, loA, hiA, elemOf, partsA, buildA, putCells, ↓reduceIte, reduceCtorEq, okCell, Nat.reduceAdd, Nat.reduceEqDiff, Nat.reduceSub, Nat.reduceMul, Nat.reduceLeDiff, Nat.reduceLT, Nat.reduceBEq, PV.scal, PV.scalL, SV.scal, SV.scalL, Ob.scal, PV.isCell, pure', resO]
  refine loop_at (fun s : Nat × SV => mkEnv [(0, si b), (1, si e), (4, si 0), (5, si ((b ^ s.1 : Nat) : Int)), (6, si s.1), (9, s.2)]) (fun s => mkO []) (fun s => s.1 ≤ e) (fun s => e - s.1) (0, .junk) (by simp) rfl rfl ?_
  rintro ⟨i, c1⟩ hi R hR hN
  simp only at hi
  by_cases h : i < e
  · have h1' : (i : Int) < e := by omega
    have hw := wrap_one (i := i) (by omega)
    have hp := pow_step (b := b) (i := i) (by omega) (by omega)
    simp only [h1', hw, hp, ↓SP, SQ, Gam.add, stepM, callC, argC, lendO, nmBy, nmC, likeL, likeB, plainOb, offs, X, F, trP, trO, stepD, stepW, newA, SV.tr, SV.trL, fz, allP, Ob.tr, loadA, cellsA, SV.cells, binA, binI, eqOut, isSl, isPt, natOf, callee, snap, SV.refsL, SV.refs, thaw, fzAll, loA, hiA, elemOf, partsA, buildA, putCells, ↓reduceIte, reduceCtorEq, okCell, Nat.reduceAdd, Nat.reduceEqDiff, Nat.reduceSub, Nat.reduceMul, Nat.reduceLeDiff, Nat.reduceLT, Nat.reduceBEq, PV.scal, PV.scalL, SV.scal, SV.scalL, Ob.scal, PV.isCell, pure', resO]
    exact hN (i + 1, _) _ _ (by simp only; omega) (by simp only; omega) rfl rfl
  · have he : i = e := by omega
    have h1' : ¬ (i : Int) < e := by omega
    simp only [h1', ↓SP, SQ, Gam.add, stepM, callC, argC, lendO, nmBy, nmC, likeL, likeB, plainOb, offs, X, F, trP, trO, stepD, stepW, newA, SV.tr, SV.trL, fz, allP, Ob.tr, loadA, cellsA, SV.cells, binA, binI, eqOut, isSl, isPt, natOf, callee, snap, SV.refsL, SV.refs, thaw, fzAll, loA, hiA, elemOf, partsA, buildA, putCells, ↓reduceIte, reduceCtorEq, okCell, Nat.reduceAdd, Nat.reduceEqDiff, Nat.reduceSub, Nat.reduceMul, Nat.reduceLeDiff, Nat.reduceLT, Nat.reduceBEq, PV.scal, PV.scalL, SV.scal, SV.scalL, Ob.scal, PV.isCell, pure', resO]
    refine hR _ _ _ (by intro h; cases h) ?_
    simp only [↓SP, SQ, Gam.add, stepM, callC, argC, lendO, nmBy, nmC, likeL, likeB, plainOb, offs, X, F, trP, trO, stepD, stepW, newA, SV.tr, SV.trL, fz, allP, Ob.tr, loadA, cellsA, SV.cells, binA, binI, eqOut, isSl, isPt, natOf, callee, snap, SV.refsL, SV.refs, thaw, fzAll, loA, hiA, elemOf, partsA, buildA, putCells, ↓reduceIte, reduceCtorEq, okCell, Nat.reduceAdd, Nat.reduceEqDiff, Nat.reduceSub, Nat.reduceMul, Nat.reduceLeDiff, Nat.reduceLT, Nat.reduceBEq, PV.scal, PV.scalL, SV.scal, SV.scalL, Ob.scal, PV.isCell, pure', resO]
    subst he
    exact finA_val (by simp [retA, rvA, List.mapM_cons, List.mapM_nil, Option.pure_def, Option.bind_eq_bind, Option.bind_some, Option.map_some, mkE_cons, mk_nil, mkO_cons, mkO_nil, loadA, ↓reduceIte, List.take_succ_cons, List.take_zero, List.drop_zero, List.drop_succ_cons, List.length_cons, List.length_nil, Nat.reduceAdd, Nat.reduceEqDiff, Nat.reduceLeDiff, Nat.zero_add, Nat.le_refl, reduceCtorEq, SV.tr, SV.trL, nmF, rn_nil, rn_cons1, rn_cons2, List.map_cons, List.map_nil, List.all_cons, List.all_nil, plainOb, SV.refsL, SV.refs, Ob.refs, X, F, List.range_succ, List.range_zero, List.nil_append, List.cons_append, List.isEmpty_nil, decide_true, Nat.reduceLT, Bool.and_self, Bool.and_true, and_self, and_true, List.getElem?_cons_zero, List.getElem?_cons_succ, List.nodup_cons, List.nodup_nil, List.mem_cons, List.not_mem_nil, not_false_eq_true, or_false, List.append_nil, mkO, setO_mk, List.mem_singleton]) (by simp [SV.tr, SV.trL])
/-- The share of k lies among n answers. -/
def partN (s o n k : Nat) : Nat := s ^ k * (o - s) ^ (n - k)
theorem partN_le {s o n k : Nat} (h1 : s ≤ o) (h2 : o ≤ 10) (h3 : k ≤ n) (h4 : n ≤ 12) : partN s o n k ≤ 10 ^ 12 := by
  have a : s ^ k ≤ 10 ^ k := Nat.pow_le_pow_left (by omega) k
  have b : (o - s) ^ (n - k) ≤ 10 ^ (n - k) := Nat.pow_le_pow_left (by omega) (n - k)
  have c : 10 ^ k * 10 ^ (n - k) = 10 ^ n := by rw [← Nat.pow_add]; congr 1; omega
  have d : 10 ^ n ≤ 10 ^ 12 := Nat.pow_le_pow_right (by omega) h4
  exact Nat.le_trans (Nat.le_trans (Nat.mul_le_mul a b) (Nat.le_of_eq c)) d
theorem isD_out {s o : Int} (h : isD s o = true) : 1 ≤ o ∧ o ≤ 10 ∧ 0 ≤ s ∧ s ≤ o := by
  simp only [isD, Bool.and_eq_true, decide_eq_true_eq] at h; omega
def a_ofThese (f_power : FuncId) : AFn := ⟨3, 
  .seq (.reg [⟨some 3, none, .w (.box 2 (.t 0))⟩,
    ⟨some 6, none, .d (.mv (.c (.int .i64 0)))⟩])
  (.seq (.dreg [] [([], ⟨some 7, none, .d (.fa 0 (.t 3))⟩),
    ([], ⟨some 8, none, .d (.load false 1 (.t 7))⟩),
    ([], ⟨some 9, none, .d (.mv (.t 2))⟩),
    ([], ⟨some 10, none, .d (.call (.f f_power) [(.t 8), (.t 9)])⟩),
    ([], ⟨some 11, none, .d (.fa 1 (.t 3))⟩),
    ([], ⟨some 12, none, .d (.load false 1 (.t 11))⟩),
    ([], ⟨some 13, none, .d (.fa 0 (.t 3))⟩),
    ([], ⟨some 14, none, .d (.load false 1 (.t 13))⟩),
    ([], ⟨some 15, none, .d (.bin .arith .sub (.t 12) (.t 14))⟩),
    ([], ⟨some 16, none, .d (.mv (.t 1))⟩),
    ([], ⟨some 17, none, .d (.mv (.t 2))⟩),
    ([], ⟨some 18, none, .d (.bin .arith .sub (.t 16) (.t 17))⟩)] [⟨some 19, none, .d (.call (.f f_power) [(.t 15), (.t 18)])⟩,
    ⟨some 20, none, .d (.bin .arith .mul (.t 10) (.t 19))⟩,
    ⟨some 6, none, .d (.mv (.t 20))⟩])
  (.ret)), [.tmp 6]⟩
def n_ofThese : Nat → Option Ann := fun _ => none
abbrev k_ofThese : List Nat := [0, 1, 2, 3, 6]
abbrev o_ofThese : List Nat := [3]
def c_ofThese : Con := pure' fun
  | [.p (.agg [.int .i64 s, .int .i64 o]), .p (.int .i64 n), .p (.int .i64 k)] => if (isD s o = true ∧ 0 ≤ k ∧ k ≤ n ∧ n ≤ 12) then some (.p (.int .i64 (partN s.toNat o.toNat n.toNat k.toNat : Int)), []) else none
  | _ => none
theorem s_ofThese {P : Program} (hm : P.follows .mixedOrders = true) {Γ : Gam} (hΓ : GS P Γ) {n : FuncId} {f_power : FuncId} (is : Is P n (a_ofThese f_power)) (h_power : Γ f_power = c_power)  : Says P n c_ofThese := by
  refine Says.pure fun args r fs h => ?_
  split at h
  case h_2 => cases h
  rename_i s o n k
  split at h
  case isFalse => cases h
  rename_i hc
  simp only [ofI_ints, ofBo_bools, ofAs_asks, Option.some.injEq, Prod.mk.injEq] at h hc
  obtain ⟨rfl, rfl⟩ := h
  obtain ⟨hd, h2, h3, h4⟩ := hc
  obtain ⟨d1, d2, d3, d4⟩ := isD_out hd
  obtain ⟨s, rfl⟩ : ∃ j : Nat, s = j := ⟨s.toNat, by omega⟩
  obtain ⟨o, rfl⟩ : ∃ j : Nat, o = j := ⟨o.toNat, by omega⟩
  obtain ⟨n, rfl⟩ : ∃ j : Nat, n = j := ⟨n.toNat, by omega⟩
  obtain ⟨k, rfl⟩ : ∃ j : Nat, k = j := ⟨k.toNat, by omega⟩
  simp only [Int.toNat_natCast]
  have w1 : IntKind.i64.wrap ((o : Int) - s) = ((o - s : Nat) : Int) := by rw [wrap64 (by omega) (by omega)]; omega
  have w2 : IntKind.i64.wrap ((n : Int) - k) = ((n - k : Nat) : Int) := by rw [wrap64 (by omega) (by omega)]; omega
  have g1 : (0 : Int) ≤ s := by omega
  have g2 : (s : Int) ≤ 10 := by omega
  have g3 : (0 : Int) ≤ k := by omega
  have g4 : (k : Int) ≤ 12 := by omega
  have g5 : (0 : Int) ≤ ((o - s : Nat) : Int) := by omega
  have g6 : ((o - s : Nat) : Int) ≤ 10 := by omega
  have g7 : (0 : Int) ≤ ((n - k : Nat) : Int) := by omega
  have g8 : ((n - k : Nat) : Int) ≤ 12 := by omega
  have hp := partN_le (s := s) (o := o) (n := n) (k := k) (by omega) (by omega) (by omega) (by omega)
  have hmul : IntKind.i64.wrap (((s ^ k : Nat) : Int) * (((o - s) ^ (n - k) : Nat) : Int)) = (partN s o n k : Int) := by
    rw [← Int.natCast_mul]
    show IntKind.i64.wrap ((partN s o n k : Nat) : Int) = _
    exact wrap64 (by omega) (by omega)
  refine is.go hm hΓ k_ofThese o_ofThese (by simp [a_ofThese]) ?_
  simp only [a_ofThese, h_power, c_power, w1, w2, g1, g2, g3, g4, g5, g6, g7, g8, hmul, Int.toNat_natCast, List.zipIdx_cons, List.zipIdx_nil, ↓SP, SQ, Gam.add, stepM, callC, argC, lendO, nmBy, nmC, likeL, likeB, plainOb, offs, X, F, trP, trO, stepD, stepW, newA, SV.tr, SV.trL, fz, allP, Ob.tr, loadA, cellsA, SV.cells, binA, binI, eqOut, isSl, isPt, natOf, callee, snap, SV.refsL, SV.refs, thaw, fzAll, loA, hiA, elemOf, partsA, buildA, putCells, ↓reduceIte, reduceCtorEq, okCell, Nat.reduceAdd, Nat.reduceEqDiff, Nat.reduceSub, Nat.reduceMul, Nat.reduceLeDiff, Nat.reduceLT, Nat.reduceBEq, PV.scal, PV.scalL, SV.scal, SV.scalL, Ob.scal, PV.isCell, pure', resO]
  exact finA_val (by simp [retA, rvA, List.mapM_cons, List.mapM_nil, Option.pure_def, Option.bind_eq_bind, Option.bind_some, Option.map_some, mkE_cons, mk_nil, mkO_cons, mkO_nil, loadA, ↓reduceIte, List.take_succ_cons, List.take_zero, List.drop_zero, List.drop_succ_cons, List.length_cons, List.length_nil, Nat.reduceAdd, Nat.reduceEqDiff, Nat.reduceLeDiff, Nat.zero_add, Nat.le_refl, reduceCtorEq, SV.tr, SV.trL, nmF, rn_nil, rn_cons1, rn_cons2, List.map_cons, List.map_nil, List.all_cons, List.all_nil, plainOb, SV.refsL, SV.refs, Ob.refs, X, F, List.range_succ, List.range_zero, List.nil_append, List.cons_append, List.isEmpty_nil, decide_true, Nat.reduceLT, Bool.and_self, Bool.and_true, and_self, and_true, List.getElem?_cons_zero, List.getElem?_cons_succ, List.nodup_cons, List.nodup_nil, List.mem_cons, List.not_mem_nil, not_false_eq_true, or_false, List.append_nil, mkO, setO_mk, List.mem_singleton]) (by simp [SV.tr, SV.trL])
def a_l7Parts (f_l7Power : FuncId) : AFn := ⟨3, 
  .seq (.reg [⟨some 5, none, .w (.box 2 (.t 2))⟩,
    ⟨some 6, none, .d (.mv (.c (.int .i64 0)))⟩])
  (.seq (.dreg [] [([], ⟨some 7, none, .d (.fa 0 (.t 5))⟩),
    ([], ⟨some 8, none, .d (.load false 1 (.t 7))⟩),
    ([], ⟨some 9, none, .d (.mv (.t 1))⟩),
    ([], ⟨some 10, none, .d (.call (.f f_l7Power) [(.t 8), (.t 9)])⟩),
    ([], ⟨some 11, none, .d (.fa 1 (.t 5))⟩),
    ([], ⟨some 12, none, .d (.load false 1 (.t 11))⟩),
    ([], ⟨some 13, none, .d (.fa 0 (.t 5))⟩),
    ([], ⟨some 14, none, .d (.load false 1 (.t 13))⟩),
    ([], ⟨some 15, none, .d (.bin .arith .sub (.t 12) (.t 14))⟩),
    ([], ⟨some 16, none, .d (.mv (.t 0))⟩),
    ([], ⟨some 17, none, .d (.mv (.t 1))⟩),
    ([], ⟨some 18, none, .d (.bin .arith .sub (.t 16) (.t 17))⟩)] [⟨some 19, none, .d (.call (.f f_l7Power) [(.t 15), (.t 18)])⟩,
    ⟨some 20, none, .d (.bin .arith .mul (.t 10) (.t 19))⟩,
    ⟨some 6, none, .d (.mv (.t 20))⟩])
  (.ret)), [.tmp 6]⟩
def n_l7Parts : Nat → Option Ann := fun _ => none
abbrev k_l7Parts : List Nat := [0, 1, 2, 5, 6]
abbrev o_l7Parts : List Nat := [5]
def c_l7Parts : Con := pure' fun
  | [.p (.int .i64 n), .p (.int .i64 k), .p (.agg [.int .i64 s, .int .i64 o])] => if (isD s o = true ∧ 0 ≤ k ∧ k ≤ n ∧ n ≤ 12) then some (.p (.int .i64 (partN s.toNat o.toNat n.toNat k.toNat : Int)), []) else none
  | _ => none
theorem s_l7Parts {P : Program} (hm : P.follows .mixedOrders = true) {Γ : Gam} (hΓ : GS P Γ) {n : FuncId} {f_l7Power : FuncId} (is : Is P n (a_l7Parts f_l7Power)) (h_l7Power : Γ f_l7Power = c_power)  : Says P n c_l7Parts := by
  refine Says.pure fun args r fs h => ?_
  split at h
  case h_2 => cases h
  rename_i n k s o
  split at h
  case isFalse => cases h
  rename_i hc
  simp only [ofI_ints, ofBo_bools, ofAs_asks, Option.some.injEq, Prod.mk.injEq] at h hc
  obtain ⟨rfl, rfl⟩ := h
  obtain ⟨hd, h2, h3, h4⟩ := hc
  obtain ⟨d1, d2, d3, d4⟩ := isD_out hd
  obtain ⟨s, rfl⟩ : ∃ j : Nat, s = j := ⟨s.toNat, by omega⟩
  obtain ⟨o, rfl⟩ : ∃ j : Nat, o = j := ⟨o.toNat, by omega⟩
  obtain ⟨n, rfl⟩ : ∃ j : Nat, n = j := ⟨n.toNat, by omega⟩
  obtain ⟨k, rfl⟩ : ∃ j : Nat, k = j := ⟨k.toNat, by omega⟩
  simp only [Int.toNat_natCast]
  have w1 : IntKind.i64.wrap ((o : Int) - s) = ((o - s : Nat) : Int) := by rw [wrap64 (by omega) (by omega)]; omega
  have w2 : IntKind.i64.wrap ((n : Int) - k) = ((n - k : Nat) : Int) := by rw [wrap64 (by omega) (by omega)]; omega
  have g1 : (0 : Int) ≤ s := by omega
  have g2 : (s : Int) ≤ 10 := by omega
  have g3 : (0 : Int) ≤ k := by omega
  have g4 : (k : Int) ≤ 12 := by omega
  have g5 : (0 : Int) ≤ ((o - s : Nat) : Int) := by omega
  have g6 : ((o - s : Nat) : Int) ≤ 10 := by omega
  have g7 : (0 : Int) ≤ ((n - k : Nat) : Int) := by omega
  have g8 : ((n - k : Nat) : Int) ≤ 12 := by omega
  have hp := partN_le (s := s) (o := o) (n := n) (k := k) (by omega) (by omega) (by omega) (by omega)
  have hmul : IntKind.i64.wrap (((s ^ k : Nat) : Int) * (((o - s) ^ (n - k) : Nat) : Int)) = (partN s o n k : Int) := by
    rw [← Int.natCast_mul]
    show IntKind.i64.wrap ((partN s o n k : Nat) : Int) = _
    exact wrap64 (by omega) (by omega)
  refine is.go hm hΓ k_l7Parts o_l7Parts (by simp [a_l7Parts]) ?_
  simp only [a_l7Parts, h_l7Power, c_power, w1, w2, g1, g2, g3, g4, g5, g6, g7, g8, hmul, Int.toNat_natCast, List.zipIdx_cons, List.zipIdx_nil, ↓SP, SQ, Gam.add, stepM, callC, argC, lendO, nmBy, nmC, likeL, likeB, plainOb, offs, X, F, trP, trO, stepD, stepW, newA, SV.tr, SV.trL, fz, allP, Ob.tr, loadA, cellsA, SV.cells, binA, binI, eqOut, isSl, isPt, natOf, callee, snap, SV.refsL, SV.refs, thaw, fzAll, loA, hiA, elemOf, partsA, buildA, putCells, ↓reduceIte, reduceCtorEq, okCell, Nat.reduceAdd, Nat.reduceEqDiff, Nat.reduceSub, Nat.reduceMul, Nat.reduceLeDiff, Nat.reduceLT, Nat.reduceBEq, PV.scal, PV.scalL, SV.scal, SV.scalL, Ob.scal, PV.isCell, pure', resO]
  exact finA_val (by simp [retA, rvA, List.mapM_cons, List.mapM_nil, Option.pure_def, Option.bind_eq_bind, Option.bind_some, Option.map_some, mkE_cons, mk_nil, mkO_cons, mkO_nil, loadA, ↓reduceIte, List.take_succ_cons, List.take_zero, List.drop_zero, List.drop_succ_cons, List.length_cons, List.length_nil, Nat.reduceAdd, Nat.reduceEqDiff, Nat.reduceLeDiff, Nat.zero_add, Nat.le_refl, reduceCtorEq, SV.tr, SV.trL, nmF, rn_nil, rn_cons1, rn_cons2, List.map_cons, List.map_nil, List.all_cons, List.all_nil, plainOb, SV.refsL, SV.refs, Ob.refs, X, F, List.range_succ, List.range_zero, List.nil_append, List.cons_append, List.isEmpty_nil, decide_true, Nat.reduceLT, Bool.and_self, Bool.and_true, and_self, and_true, List.getElem?_cons_zero, List.getElem?_cons_succ, List.nodup_cons, List.nodup_nil, List.mem_cons, List.not_mem_nil, not_false_eq_true, or_false, List.append_nil, mkO, setO_mk, List.mem_singleton]) (by simp [SV.tr, SV.trL])
/-- The shares of the numbers. -/
def partL (s o : Int) (l : List (Int × Bool)) (n : Nat) : List Int := (List.range n).map fun j : Nat => (partN s.toNat o.toNat l.length (manyN l j) : Int)
theorem partL_len (s o : Int) (l : List (Int × Bool)) (n : Nat) : (partL s o l n).length = n := by simp [partL]
theorem partL_one (s o : Int) (l : List (Int × Bool)) (n i : Nat) : partL s o l i ++ [(partN s.toNat o.toNat l.length (manyN l i) : Int)] = partL s o l (i + 1) := by simp [partL, List.range_succ]
/-- Sums. -/
def sumL (p : List Int) : Int := p.foldl (· + ·) 0
theorem sumL_one (p : List Int) (x : Int) : sumL (p ++ [x]) = sumL p + x := by simp [sumL]
/-- Numbers that are not too great. -/
def fitL (p : List Int) : Prop := ∀ x ∈ p, 0 ≤ x ∧ x ≤ 1000000000000
theorem partL_fit {s o : Int} {l : List (Int × Bool)} (hd : isD s o = true) (hl : l.length ≤ 12) (n : Nat) : fitL (partL s o l n) := by
  obtain ⟨d1, d2, d3, d4⟩ := isD_out hd
  intro x hx
  simp only [partL, List.mem_map, List.mem_range] at hx
  obtain ⟨j, hj, rfl⟩ := hx
  have := partN_le (s := s.toNat) (o := o.toNat) (n := l.length) (k := manyN l j) (by omega) (by omega) (manyI_le2 l j) hl
  omega
theorem fit_take {p : List Int} (h : fitL p) (i : Nat) : fitL (p.take i) := fun x hx => h x (List.mem_of_mem_take hx)
theorem sum_fit0 : ∀ {p : List Int} (a : Int), fitL p → a ≤ p.foldl (· + ·) a ∧ p.foldl (· + ·) a ≤ a + 1000000000000 * (p.length : Int)
  | [], a, _ => by simp
  | x :: r, a, h => by
    have h1 := sum_fit0 (p := r) (a + x) fun y hy => h y (by simp [hy])
    have h2 := h x (by simp)
    simp only [List.foldl_cons, List.length_cons]
    omega
theorem sum_fit {p : List Int} (h : fitL p) : 0 ≤ sumL p ∧ sumL p ≤ 1000000000000 * (p.length : Int) := by
  have := sum_fit0 0 h
  unfold sumL; omega
theorem getD_out {p : List Int} {i : Nat} (h : ¬ i < p.length) : p.getD i 0 = 0 := by
  simp [List.getD, List.getElem?_eq_none (show p.length ≤ i by omega)]
theorem sum_next {p : List Int} (h : fitL p) (hl : p.length ≤ 4096) {i : Nat} (hi : i < p.length) : IntKind.i64.wrap (sumL (p.take i) + p.getD i 0) = sumL (p.take (i + 1)) := by
  have h1 := sum_fit (fit_take h i)
  have h2 := h (p.getD i 0) (by rw [getD_lt hi]; exact List.getElem_mem hi)
  have h3 : (p.take i).length ≤ 4096 := by rw [List.length_take]; omega
  rw [take_one p i 0 hi, sumL_one]
  exact wrap64 (by omega) (by omega)
theorem fit_get {p : List Int} (h : fitL p) (i : Nat) : 0 ≤ p.getD i 0 ∧ p.getD i 0 ≤ 1000000000000 := by
  by_cases hi : i < p.length
  · exact h (p.getD i 0) (by rw [getD_lt hi]; exact List.getElem_mem hi)
  · rw [getD_out hi]; omega
def a_sum : AFn := ⟨1, 
  .seq (.reg [⟨some 2, none, .d (.mv (.c (.int .i64 0)))⟩])
  (.seq (.reg [⟨some 3, none, .d (.mv (.c (.int .i64 0)))⟩])
  (.seq (.seq (.reg [⟨some 6, none, .d (.mv (.t 0))⟩,
    ⟨some 7, none, .d (.len (.t 6))⟩,
    ⟨some 8, none, .d (.mv (.c (.int .i64 0)))⟩])
  (.block 0 (.loop (.seq (.reg [⟨some 9, none, .d (.bin .arith .lss (.t 8) (.t 7))⟩])
    (.seq (.cond (.t 9) (.skip) (.exit 0))
    (.seq (.block 1 (.seq (.reg [⟨some 10, none, .d (.ia 1 (.t 6) (.t 8))⟩,
       ⟨some 11, none, .d (.load false 1 (.t 10))⟩,
       ⟨some 5, none, .d (.mv (.t 11))⟩])
     (.reg [⟨some 12, none, .d (.mv (.t 3))⟩,
       ⟨some 13, none, .d (.mv (.t 5))⟩,
       ⟨some 14, none, .d (.bin .arith .add (.t 12) (.t 13))⟩,
       ⟨some 3, none, .d (.mv (.t 14))⟩])))
    (.reg [⟨some 15, none, .d (.bin .arith .add (.t 8) (.c (.int .i64 1)))⟩,
      ⟨some 8, none, .d (.mv (.t 15))⟩])))))))
  (.seq (.reg [⟨some 16, none, .d (.mv (.t 3))⟩,
    ⟨some 2, none, .d (.mv (.t 16))⟩])
  (.ret)))), [.tmp 2]⟩
def n_sum : Nat → Option Ann := fun _ => none
abbrev k_sum : List Nat := [0, 2, 3, 5, 6, 7, 8, 9]
abbrev o_sum : List Nat := []
instance (p : List Int) : Decidable (fitL p) := inferInstanceAs (Decidable (∀ x ∈ p, 0 ≤ x ∧ x ≤ 1000000000000))
def c_sum : Con := pure' fun
  | [.p (.sl 1 p_)] => if isI p_ = true ∧ ((ofI p_).length ≤ 4096 ∧ fitL (ofI p_)) then some (.p (.int .i64 (sumL (ofI p_))), []) else none
  | _ => none
theorem s_sum {P : Program} (hm : P.follows .mixedOrders = true) {Γ : Gam} (hΓ : GS P Γ) {n : FuncId} (is : Is P n a_sum)  : Says P n c_sum := by
  refine Says.pure fun args r fs h => ?_
  split at h
  case h_2 => cases h
  rename_i p_
  split at h
  case isFalse => cases h
  rename_i hc
  obtain ⟨hp_, hc⟩ := hc
  obtain ⟨p, rfl⟩ := isI_out hp_
  simp only [ofI_ints, ofBo_bools, ofAs_asks, Option.some.injEq, Prod.mk.injEq] at h hc
  obtain ⟨rfl, rfl⟩ := h
  obtain ⟨hl, hf⟩ := hc
  refine is.go hm hΓ k_sum o_sum (by simp [a_sum]) ?_
  simp only [a_sum, List.zipIdx_cons, List.zipIdx_nil, ↓SP, SQ, Gam.add, stepM, callC, argC, lendO, nmBy, nmC, likeL, likeB, plainOb, offs, X, F, trP, trO, stepD, stepW, newA, SV.tr, SV.trL, fz, allP, Ob.tr, loadA, cellsA, SV.cells, binA, binI, eqOut, isSl, isPt, natOf, callee, snap, SV.refsL, SV.refs, thaw, fzAll, loA, hiA, elemOf, partsA, buildA, putCells, ↓reduceIte, reduceCtorEq, okCell, Nat.reduceAdd, Nat.reduceEqDiff, Nat.reduceSub, Nat.reduceMul, Nat.reduceLeDiff, Nat.reduceLT, Nat.reduceBEq, PV.scal, PV.scalL, SV.scal, SV.scalL, Ob.scal, PV.isCell, pure', resO]
  refine loop_at (fun s : Nat × SV × SV => mkEnv [(0, .p (.sl 1 (ints p))), (2, si 0), (3, si (sumL (p.take s.1))), (5, s.2.1), (6, .p (.sl 1 (ints p))), (7, si p.length), (8, si s.1), (9, s.2.2)]) (fun s => mkO []) (fun s => s.1 ≤ p.length) (fun s => p.length - s.1) (0, .junk, .junk) (by simp) rfl rfl ?_
  rintro ⟨i, c1, c2⟩ hi R hR hN
  simp only at hi
  by_cases h : i < p.length
  · have h1 : (i : Int) < p.length := by omega
    have hw := wrap_one (i := i) (by omega)
    have hg := ints_get h
    have hs := sum_next hf hl h
    simp only [h1, hw, hg, hs, ↓SP, SQ, Gam.add, stepM, callC, argC, lendO, nmBy, nmC, likeL, likeB, plainOb, offs, X, F, trP, trO, stepD, stepW, newA, SV.tr, SV.trL, fz, allP, Ob.tr, loadA, cellsA, SV.cells, binA, binI, eqOut, isSl, isPt, natOf, callee, snap, SV.refsL, SV.refs, thaw, fzAll, loA, hiA, elemOf, partsA, buildA, putCells, ↓reduceIte, reduceCtorEq, okCell, Nat.reduceAdd, Nat.reduceEqDiff, Nat.reduceSub, Nat.reduceMul, Nat.reduceLeDiff, Nat.reduceLT, Nat.reduceBEq, PV.scal, PV.scalL, SV.scal, SV.scalL, Ob.scal, PV.isCell, pure', resO]
    exact hN (i + 1, _, _) _ _ (by simp only; omega) (by simp only; omega) rfl rfl
  · have he : i = p.length := by omega
    have h1 : ¬ (i : Int) < p.length := by omega
    have ht : p.take i = p := by rw [he]; exact List.take_length
    simp only [h1, ↓SP, SQ, Gam.add, stepM, callC, argC, lendO, nmBy, nmC, likeL, likeB, plainOb, offs, X, F, trP, trO, stepD, stepW, newA, SV.tr, SV.trL, fz, allP, Ob.tr, loadA, cellsA, SV.cells, binA, binI, eqOut, isSl, isPt, natOf, callee, snap, SV.refsL, SV.refs, thaw, fzAll, loA, hiA, elemOf, partsA, buildA, putCells, ↓reduceIte, reduceCtorEq, okCell, Nat.reduceAdd, Nat.reduceEqDiff, Nat.reduceSub, Nat.reduceMul, Nat.reduceLeDiff, Nat.reduceLT, Nat.reduceBEq, PV.scal, PV.scalL, SV.scal, SV.scalL, Ob.scal, PV.isCell, pure', resO]
    refine hR _ _ _ (by intro h; cases h) ?_
    simp only [↓SP, SQ, Gam.add, stepM, callC, argC, lendO, nmBy, nmC, likeL, likeB, plainOb, offs, X, F, trP, trO, stepD, stepW, newA, SV.tr, SV.trL, fz, allP, Ob.tr, loadA, cellsA, SV.cells, binA, binI, eqOut, isSl, isPt, natOf, callee, snap, SV.refsL, SV.refs, thaw, fzAll, loA, hiA, elemOf, partsA, buildA, putCells, ↓reduceIte, reduceCtorEq, okCell, Nat.reduceAdd, Nat.reduceEqDiff, Nat.reduceSub, Nat.reduceMul, Nat.reduceLeDiff, Nat.reduceLT, Nat.reduceBEq, PV.scal, PV.scalL, SV.scal, SV.scalL, Ob.scal, PV.isCell, pure', resO]
    exact finA_val (by simp [ht, retA, rvA, List.mapM_cons, List.mapM_nil, Option.pure_def, Option.bind_eq_bind, Option.bind_some, Option.map_some, mkE_cons, mk_nil, mkO_cons, mkO_nil, loadA, ↓reduceIte, List.take_succ_cons, List.take_zero, List.drop_zero, List.drop_succ_cons, List.length_cons, List.length_nil, Nat.reduceAdd, Nat.reduceEqDiff, Nat.reduceLeDiff, Nat.zero_add, Nat.le_refl, reduceCtorEq, SV.tr, SV.trL, nmF, rn_nil, rn_cons1, rn_cons2, List.map_cons, List.map_nil, List.all_cons, List.all_nil, plainOb, SV.refsL, SV.refs, Ob.refs, X, F, List.range_succ, List.range_zero, List.nil_append, List.cons_append, List.isEmpty_nil, decide_true, Nat.reduceLT, Bool.and_self, Bool.and_true, and_self, and_true, List.getElem?_cons_zero, List.getElem?_cons_succ, List.nodup_cons, List.nodup_nil, List.mem_cons, List.not_mem_nil, not_false_eq_true, or_false, List.append_nil, mkO, setO_mk, List.mem_singleton]) (by simp [SV.tr, SV.trL])
def a_l7After (f_l2Many : FuncId) (f_l7Parts : FuncId) : AFn := ⟨3, 
  .seq (.reg [⟨some 5, none, .w (.box 2 (.t 2))⟩,
    ⟨some 6, none, .d (.mv (.c (.nilsl)))⟩,
    ⟨some 7, none, .d (.mv (.c (.int .i64 0)))⟩])
  (.seq (.reg [⟨some 12, none, .w (.bslice 1 [] [])⟩,
    ⟨some 8, none, .d (.mv (.t 12))⟩,
    ⟨some 9, none, .d (.mv (.c (.int .i64 0)))⟩])
  (.seq (.seq (.reg [⟨some 10, none, .d (.mv (.c (.int .i64 0)))⟩])
  (.block 0 (.loop (.seq (.seq (.reg [⟨some 13, none, .d (.mv (.t 10))⟩,
      ⟨some 14, none, .d (.mv (.t 0))⟩,
      ⟨some 15, none, .d (.bin .arith .lss (.t 13) (.t 14))⟩])
    (.cond (.t 15) (.skip) (.exit 0)))
    (.seq (.block 1 (.seq (.dreg [] [([], ⟨some 18, none, .d (.mv (.t 1))⟩),
       ([], ⟨some 19, none, .d (.len (.t 18))⟩),
       ([], ⟨some 20, none, .d (.mv (.t 1))⟩),
       ([], ⟨some 21, none, .d (.mv (.t 10))⟩),
       ([], ⟨some 22, none, .d (.call (.f f_l2Many) [(.t 20), (.t 21)])⟩),
       ([], ⟨some 23, none, .d (.load true 2 (.t 5))⟩)] [⟨some 24, none, .d (.call (.f f_l7Parts) [(.t 19), (.t 22), (.t 23)])⟩,
       ⟨some 11, none, .d (.mv (.t 24))⟩])
     (.seq (.reg [⟨some 25, none, .d (.mv (.t 8))⟩,
       ⟨some 26, none, .d (.mv (.t 11))⟩,
       ⟨some 27, none, .w (.bslice 1 [.int .i64 0] [(0, (.t 26))])⟩,
       ⟨some 28, none, .w (.append 1 (.t 25) (.t 27))⟩,
       ⟨some 8, none, .d (.mv (.t 28))⟩])
     (.reg [⟨some 29, none, .d (.mv (.t 9))⟩,
       ⟨some 30, none, .d (.mv (.t 11))⟩,
       ⟨some 31, none, .d (.bin .arith .add (.t 29) (.t 30))⟩,
       ⟨some 9, none, .d (.mv (.t 31))⟩]))))
    (.reg [⟨some 16, none, .d (.mv (.t 10))⟩,
      ⟨some 17, none, .d (.bin .arith .add (.t 16) (.c (.int .i64 1)))⟩,
      ⟨some 10, none, .d (.mv (.t 17))⟩]))))))
  (.seq (.reg [⟨some 32, none, .d (.mv (.t 8))⟩,
    ⟨some 33, none, .d (.mv (.t 9))⟩,
    ⟨some 6, none, .d (.mv (.t 32))⟩,
    ⟨some 7, none, .d (.mv (.t 33))⟩])
  (.ret)))), [.tmp 6, .tmp 7]⟩
def n_l7After : Nat → Option Ann := fun _ => none
abbrev k_l7After : List Nat := [0, 1, 2, 5, 6, 7, 8, 9, 10, 11, 15]
abbrev o_l7After : List Nat := [5, 12, 27, 28]
def a_shares (f_falseFor : FuncId) (f_ofThese : FuncId) (f_sum : FuncId) : AFn := ⟨3, 
  .seq (.reg [⟨some 5, none, .w (.box 2 (.t 2))⟩,
    ⟨some 6, none, .d (.mv (.c (.nilsl)))⟩,
    ⟨some 7, none, .d (.mv (.c (.int .i64 0)))⟩])
  (.seq (.reg [⟨some 10, none, .w (.bslice 1 [] [])⟩,
    ⟨some 8, none, .d (.mv (.t 10))⟩])
  (.seq (.seq (.reg [⟨some 11, none, .d (.mv (.t 0))⟩,
    ⟨some 12, none, .d (.mv (.c (.int .i64 0)))⟩])
  (.block 0 (.loop (.seq (.reg [⟨some 13, none, .d (.bin .arith .lss (.t 12) (.t 11))⟩])
    (.seq (.cond (.t 13) (.skip) (.exit 0))
    (.seq (.block 1 (.seq (.reg [⟨some 14, none, .d (.mv (.t 12))⟩,
       ⟨some 9, none, .d (.mv (.t 14))⟩])
     (.dreg [23] [([23], ⟨some 15, none, .d (.mv (.t 8))⟩),
       ([23], ⟨some 16, none, .d (.load true 2 (.t 5))⟩),
       ([23], ⟨some 17, none, .d (.mv (.t 1))⟩),
       ([23], ⟨some 18, none, .d (.len (.t 17))⟩),
       ([23], ⟨some 19, none, .d (.mv (.t 1))⟩),
       ([23], ⟨some 20, none, .d (.mv (.t 9))⟩),
       ([23], ⟨some 21, none, .d (.call (.f f_falseFor) [(.t 19), (.t 20)])⟩),
       ([23], ⟨some 22, none, .d (.call (.f f_ofThese) [(.t 16), (.t 18), (.t 21)])⟩),
       ([], ⟨some 23, none, .w (.bslice 1 [.int .i64 0] [(0, (.t 22))])⟩)] [⟨some 24, none, .w (.append 1 (.t 15) (.t 23))⟩,
       ⟨some 8, none, .d (.mv (.t 24))⟩])))
    (.reg [⟨some 25, none, .d (.bin .arith .add (.t 12) (.c (.int .i64 1)))⟩,
      ⟨some 12, none, .d (.mv (.t 25))⟩])))))))
  (.seq (.reg [⟨some 26, none, .d (.mv (.t 8))⟩,
    ⟨some 27, none, .d (.mv (.t 8))⟩,
    ⟨some 28, none, .d (.call (.f f_sum) [(.t 27)])⟩,
    ⟨some 6, none, .d (.mv (.t 26))⟩,
    ⟨some 7, none, .d (.mv (.t 28))⟩])
  (.ret)))), [.tmp 6, .tmp 7]⟩
def n_shares : Nat → Option Ann := fun _ => none
abbrev k_shares : List Nat := [0, 1, 2, 5, 6, 7, 8, 9, 11, 12, 13]
abbrev o_shares : List Nat := [5, 10, 23, 24]
def c_shares : Con := pure' fun
  | [.p (.int .i64 n), .p (.sl 2 l_), .p (.agg [.int .i64 s, .int .i64 o])] => if isAs l_ = true ∧ (0 ≤ n ∧ n ≤ 12 ∧ (ofAs l_).length ≤ 12 ∧ isD s o = true) then some (.tp [.ar 2000000, .p (.int .i64 (sumL (partL s o (ofAs l_) n.toNat)))], [.arr 1 (ints (partL s o (ofAs l_) n.toNat))]) else none
  | _ => none
theorem s_shares {P : Program} (hm : P.follows .mixedOrders = true) {Γ : Gam} (hΓ : GS P Γ) {n : FuncId} {f_falseFor : FuncId} {f_ofThese : FuncId} {f_sum : FuncId} (is : Is P n (a_shares f_falseFor f_ofThese f_sum)) (h_falseFor : Γ f_falseFor = c_falseFor) (h_ofThese : Γ f_ofThese = c_ofThese) (h_sum : Γ f_sum = c_sum)  : Says P n c_shares := by
  refine Says.pure fun args r fs h => ?_
  split at h
  case h_2 => cases h
  rename_i n l_ s o
  split at h
  case isFalse => cases h
  rename_i hc
  obtain ⟨hl_, hc⟩ := hc
  obtain ⟨l, rfl⟩ := isAs_out hl_
  simp only [ofI_ints, ofBo_bools, ofAs_asks, Option.some.injEq, Prod.mk.injEq] at h hc
  obtain ⟨rfl, rfl⟩ := h
  obtain ⟨h0, h1, h2, hd⟩ := hc
  obtain ⟨n, rfl⟩ : ∃ j : Nat, n = j := ⟨n.toNat, by omega⟩
  simp only [Int.toNat_natCast]
  have hl3 : l.length ≤ 1100000 := by omega
  have hl4 : (l.length : Int) ≤ 12 := by omega
  refine is.go hm hΓ k_shares o_shares (by simp [a_shares]) ?_
  simp only [a_shares, h_falseFor, c_falseFor, h_ofThese, c_ofThese, h_sum, c_sum, List.zipIdx_cons, List.zipIdx_nil, ↓SP, SQ, Gam.add, stepM, callC, argC, lendO, nmBy, nmC, likeL, likeB, plainOb, offs, X, F, trP, trO, stepD, stepW, newA, SV.tr, SV.trL, fz, allP, Ob.tr, loadA, cellsA, SV.cells, binA, binI, eqOut, isSl, isPt, natOf, callee, snap, SV.refsL, SV.refs, thaw, fzAll, loA, hiA, elemOf, partsA, buildA, putCells, ↓reduceIte, reduceCtorEq, okCell, Nat.reduceAdd, Nat.reduceEqDiff, Nat.reduceSub, Nat.reduceMul, Nat.reduceLeDiff, Nat.reduceLT, Nat.reduceBEq, PV.scal, PV.scalL, SV.scal, SV.scalL, Ob.scal, PV.isCell, pure', resO]
  refine loop_at (fun s' : Nat × SV × SV × Option Ob => mkEnv [(0, si n), (1, .p (.sl 2 (asks l))), (2, .p (.agg [.int .i64 s, .int .i64 o])), (5, .bx 5 0), (6, .p .nilsl), (7, si 0), (8, .ar 10), (9, s'.2.1), (11, si n), (12, si s'.1), (13, s'.2.2.1)]) (fun s' => mkO [(5, some (.box [si s, si o])), (10, some (.arr 1 (ints (partL s o l s'.1)))), (23, s'.2.2.2), (24, none)]) (fun s' => s'.1 ≤ n) (fun s' => n - s'.1) (0, .junk, .junk, none) (by simp) rfl rfl ?_
  rintro ⟨i, c1, c2, ob⟩ hi R hR hN
  simp only at hi
  by_cases h : i < n
  · have h1' : (i : Int) < n := by omega
    have hw := wrap_one (i := i) (by omega)
    have hi0 : (0 : Int) ≤ i := by omega
    have hmm := manyI_le2 l i
    have g1 : (0 : Int) ≤ (manyN l i : Int) := by omega
    have g2 : (manyN l i : Int) ≤ (l.length : Int) := by omega
    have hr : (partL s o l i).length + 1 ≤ roomA := by rw [partL_len]; unfold roomA; omega
    have hp := partL_one s o l n i
    simp only [h1', hw, hi0, hl3, hl4, hd, g1, g2, hr, h_falseFor, c_falseFor, h_ofThese, c_ofThese, Int.toNat_natCast, ints_len, ints_app1, hp, ints_cell, ↓SP, SQ, Gam.add, stepM, callC, argC, lendO, nmBy, nmC, likeL, likeB, plainOb, offs, X, F, trP, trO, stepD, stepW, newA, SV.tr, SV.trL, fz, allP, Ob.tr, loadA, cellsA, SV.cells, binA, binI, eqOut, isSl, isPt, natOf, callee, snap, SV.refsL, SV.refs, thaw, fzAll, loA, hiA, elemOf, partsA, buildA, putCells, ↓reduceIte, reduceCtorEq, okCell, Nat.reduceAdd, Nat.reduceEqDiff, Nat.reduceSub, Nat.reduceMul, Nat.reduceLeDiff, Nat.reduceLT, Nat.reduceBEq, PV.scal, PV.scalL, SV.scal, SV.scalL, Ob.scal, PV.isCell, pure', resO]
    exact hN (i + 1, _, _, _) _ _ (by simp only; omega) (by simp only; omega) rfl rfl
  · have he : i = n := by omega
    have h1' : ¬ (i : Int) < n := by omega
    simp only [h1', ↓SP, SQ, Gam.add, stepM, callC, argC, lendO, nmBy, nmC, likeL, likeB, plainOb, offs, X, F, trP, trO, stepD, stepW, newA, SV.tr, SV.trL, fz, allP, Ob.tr, loadA, cellsA, SV.cells, binA, binI, eqOut, isSl, isPt, natOf, callee, snap, SV.refsL, SV.refs, thaw, fzAll, loA, hiA, elemOf, partsA, buildA, putCells, ↓reduceIte, reduceCtorEq, okCell, Nat.reduceAdd, Nat.reduceEqDiff, Nat.reduceSub, Nat.reduceMul, Nat.reduceLeDiff, Nat.reduceLT, Nat.reduceBEq, PV.scal, PV.scalL, SV.scal, SV.scalL, Ob.scal, PV.isCell, pure', resO]
    refine hR _ _ _ (by intro h; cases h) ?_
    subst he
    have hf := partL_fit hd h2 i
    have hln : (partL s o l i).length ≤ 4096 := by rw [partL_len]; omega
    simp only [h_sum, c_sum, hln, hf, ints_len, ofI_ints, isI_ints, ↓SP, SQ, Gam.add, stepM, callC, argC, lendO, nmBy, nmC, likeL, likeB, plainOb, offs, X, F, trP, trO, stepD, stepW, newA, SV.tr, SV.trL, fz, allP, Ob.tr, loadA, cellsA, SV.cells, binA, binI, eqOut, isSl, isPt, natOf, callee, snap, SV.refsL, SV.refs, thaw, fzAll, loA, hiA, elemOf, partsA, buildA, putCells, ↓reduceIte, reduceCtorEq, okCell, Nat.reduceAdd, Nat.reduceEqDiff, Nat.reduceSub, Nat.reduceMul, Nat.reduceLeDiff, Nat.reduceLT, Nat.reduceBEq, PV.scal, PV.scalL, SV.scal, SV.scalL, Ob.scal, PV.isCell, pure', resO]
    exact finA_gen [10] trivial (by simp [retA, rvA, List.mapM_cons, List.mapM_nil, Option.pure_def, Option.bind_eq_bind, Option.bind_some, Option.map_some, mkE_cons, mk_nil, mkO_cons, mkO_nil, loadA, ↓reduceIte, List.take_succ_cons, List.take_zero, List.drop_zero, List.drop_succ_cons, List.length_cons, List.length_nil, Nat.reduceAdd, Nat.reduceEqDiff, Nat.reduceLeDiff, Nat.zero_add, Nat.le_refl, reduceCtorEq, SV.tr, SV.trL, nmF, rn_nil, rn_cons1, rn_cons2, List.map_cons, List.map_nil, List.all_cons, List.all_nil, plainOb, SV.refsL, SV.refs, Ob.refs, X, F, List.range_succ, List.range_zero, List.nil_append, List.cons_append, List.isEmpty_nil, decide_true, Nat.reduceLT, Bool.and_self, Bool.and_true, and_self, and_true, List.getElem?_cons_zero, List.getElem?_cons_succ, List.nodup_cons, List.nodup_nil, List.mem_cons, List.not_mem_nil, not_false_eq_true, or_false, List.append_nil, mkO, setO_mk, List.mem_singleton]; rfl) (by simp [retA, rvA, List.mapM_cons, List.mapM_nil, Option.pure_def, Option.bind_eq_bind, Option.bind_some, Option.map_some, mkE_cons, mk_nil, mkO_cons, mkO_nil, loadA, ↓reduceIte, List.take_succ_cons, List.take_zero, List.drop_zero, List.drop_succ_cons, List.length_cons, List.length_nil, Nat.reduceAdd, Nat.reduceEqDiff, Nat.reduceLeDiff, Nat.zero_add, Nat.le_refl, reduceCtorEq, SV.tr, SV.trL, nmF, rn_nil, rn_cons1, rn_cons2, List.map_cons, List.map_nil, List.all_cons, List.all_nil, plainOb, SV.refsL, SV.refs, Ob.refs, X, F, List.range_succ, List.range_zero, List.nil_append, List.cons_append, List.isEmpty_nil, decide_true, Nat.reduceLT, Bool.and_self, Bool.and_true, and_self, and_true, List.getElem?_cons_zero, List.getElem?_cons_succ, List.nodup_cons, List.nodup_nil, List.mem_cons, List.not_mem_nil, not_false_eq_true, or_false, List.append_nil, mkO, setO_mk, List.mem_singleton]) (by simp [retA, rvA, List.mapM_cons, List.mapM_nil, Option.pure_def, Option.bind_eq_bind, Option.bind_some, Option.map_some, mkE_cons, mk_nil, mkO_cons, mkO_nil, loadA, ↓reduceIte, List.take_succ_cons, List.take_zero, List.drop_zero, List.drop_succ_cons, List.length_cons, List.length_nil, Nat.reduceAdd, Nat.reduceEqDiff, Nat.reduceLeDiff, Nat.zero_add, Nat.le_refl, reduceCtorEq, SV.tr, SV.trL, nmF, rn_nil, rn_cons1, rn_cons2, List.map_cons, List.map_nil, List.all_cons, List.all_nil, plainOb, SV.refsL, SV.refs, Ob.refs, X, F, List.range_succ, List.range_zero, List.nil_append, List.cons_append, List.isEmpty_nil, decide_true, Nat.reduceLT, Bool.and_self, Bool.and_true, and_self, and_true, List.getElem?_cons_zero, List.getElem?_cons_succ, List.nodup_cons, List.nodup_nil, List.mem_cons, List.not_mem_nil, not_false_eq_true, or_false, List.append_nil, mkO, setO_mk, List.mem_singleton]) (by simp) (by simp) (by simp [retA, rvA, List.mapM_cons, List.mapM_nil, Option.pure_def, Option.bind_eq_bind, Option.bind_some, Option.map_some, mkE_cons, mk_nil, mkO_cons, mkO_nil, loadA, ↓reduceIte, List.take_succ_cons, List.take_zero, List.drop_zero, List.drop_succ_cons, List.length_cons, List.length_nil, Nat.reduceAdd, Nat.reduceEqDiff, Nat.reduceLeDiff, Nat.zero_add, Nat.le_refl, reduceCtorEq, SV.tr, SV.trL, nmF, rn_nil, rn_cons1, rn_cons2, List.map_cons, List.map_nil, List.all_cons, List.all_nil, plainOb, SV.refsL, SV.refs, Ob.refs, X, F, List.range_succ, List.range_zero, List.nil_append, List.cons_append, List.isEmpty_nil, decide_true, Nat.reduceLT, Bool.and_self, Bool.and_true, and_self, and_true, List.getElem?_cons_zero, List.getElem?_cons_succ, List.nodup_cons, List.nodup_nil, List.mem_cons, List.not_mem_nil, not_false_eq_true, or_false, List.append_nil, mkO, setO_mk, List.mem_singleton]) (by simp [retA, rvA, List.mapM_cons, List.mapM_nil, Option.pure_def, Option.bind_eq_bind, Option.bind_some, Option.map_some, mkE_cons, mk_nil, mkO_cons, mkO_nil, loadA, ↓reduceIte, List.take_succ_cons, List.take_zero, List.drop_zero, List.drop_succ_cons, List.length_cons, List.length_nil, Nat.reduceAdd, Nat.reduceEqDiff, Nat.reduceLeDiff, Nat.zero_add, Nat.le_refl, reduceCtorEq, SV.tr, SV.trL, nmF, rn_nil, rn_cons1, rn_cons2, List.map_cons, List.map_nil, List.all_cons, List.all_nil, plainOb, SV.refsL, SV.refs, Ob.refs, X, F, List.range_succ, List.range_zero, List.nil_append, List.cons_append, List.isEmpty_nil, decide_true, Nat.reduceLT, Bool.and_self, Bool.and_true, and_self, and_true, List.getElem?_cons_zero, List.getElem?_cons_succ, List.nodup_cons, List.nodup_nil, List.mem_cons, List.not_mem_nil, not_false_eq_true, or_false, List.append_nil, mkO, setO_mk, List.mem_singleton]) (by simp [retA, rvA, List.mapM_cons, List.mapM_nil, Option.pure_def, Option.bind_eq_bind, Option.bind_some, Option.map_some, mkE_cons, mk_nil, mkO_cons, mkO_nil, loadA, ↓reduceIte, List.take_succ_cons, List.take_zero, List.drop_zero, List.drop_succ_cons, List.length_cons, List.length_nil, Nat.reduceAdd, Nat.reduceEqDiff, Nat.reduceLeDiff, Nat.zero_add, Nat.le_refl, reduceCtorEq, SV.tr, SV.trL, nmF, rn_nil, rn_cons1, rn_cons2, List.map_cons, List.map_nil, List.all_cons, List.all_nil, plainOb, SV.refsL, SV.refs, Ob.refs, X, F, List.range_succ, List.range_zero, List.nil_append, List.cons_append, List.isEmpty_nil, decide_true, Nat.reduceLT, Bool.and_self, Bool.and_true, and_self, and_true, List.getElem?_cons_zero, List.getElem?_cons_succ, List.nodup_cons, List.nodup_nil, List.mem_cons, List.not_mem_nil, not_false_eq_true, or_false, List.append_nil, mkO, setO_mk, List.mem_singleton])
theorem s_l7After {P : Program} (hm : P.follows .mixedOrders = true) {Γ : Gam} (hΓ : GS P Γ) {n : FuncId} {f_l2Many : FuncId} {f_l7Parts : FuncId} (is : Is P n (a_l7After f_l2Many f_l7Parts)) (h_l2Many : Γ f_l2Many = c_falseFor) (h_l7Parts : Γ f_l7Parts = c_l7Parts)  : Says P n c_shares := by
  refine Says.pure fun args r fs h => ?_
  split at h
  case h_2 => cases h
  rename_i n l_ s o
  split at h
  case isFalse => cases h
  rename_i hc
  obtain ⟨hl_, hc⟩ := hc
  obtain ⟨l, rfl⟩ := isAs_out hl_
  simp only [ofI_ints, ofBo_bools, ofAs_asks, Option.some.injEq, Prod.mk.injEq] at h hc
  obtain ⟨rfl, rfl⟩ := h
  obtain ⟨h0, h1, h2, hd⟩ := hc
  obtain ⟨n, rfl⟩ : ∃ j : Nat, n = j := ⟨n.toNat, by omega⟩
  simp only [Int.toNat_natCast]
  have hl3 : l.length ≤ 1100000 := by omega
  have hl4 : (l.length : Int) ≤ 12 := by omega
  refine is.go hm hΓ k_l7After o_l7After (by simp [a_l7After]) ?_
  simp only [a_l7After, h_l2Many, c_falseFor, h_l7Parts, c_l7Parts, List.zipIdx_cons, List.zipIdx_nil, ↓SP, SQ, Gam.add, stepM, callC, argC, lendO, nmBy, nmC, likeL, likeB, plainOb, offs, X, F, trP, trO, stepD, stepW, newA, SV.tr, SV.trL, fz, allP, Ob.tr, loadA, cellsA, SV.cells, binA, binI, eqOut, isSl, isPt, natOf, callee, snap, SV.refsL, SV.refs, thaw, fzAll, loA, hiA, elemOf, partsA, buildA, putCells, ↓reduceIte, reduceCtorEq, okCell, Nat.reduceAdd, Nat.reduceEqDiff, Nat.reduceSub, Nat.reduceMul, Nat.reduceLeDiff, Nat.reduceLT, Nat.reduceBEq, PV.scal, PV.scalL, SV.scal, SV.scalL, Ob.scal, PV.isCell, pure', resO]
  refine loop_at (fun s' : Nat × SV × SV × Option Ob => mkEnv [(0, si n), (1, .p (.sl 2 (asks l))), (2, .p (.agg [.int .i64 s, .int .i64 o])), (5, .bx 5 0), (6, .p .nilsl), (7, si 0), (8, .ar 12), (9, si (sumL (partL s o l s'.1))), (10, si s'.1), (11, s'.2.1), (15, s'.2.2.1)]) (fun s' => mkO [(5, some (.box [si s, si o])), (12, some (.arr 1 (ints (partL s o l s'.1)))), (27, s'.2.2.2), (28, none)]) (fun s' => s'.1 ≤ n) (fun s' => n - s'.1) (0, .junk, .junk, none) (by simp) rfl rfl ?_
  rintro ⟨i, c1, c2, ob⟩ hi R hR hN
  simp only at hi
  by_cases h : i < n
  · have h1' : (i : Int) < n := by omega
    have hw := wrap_one (i := i) (by omega)
    have hi0 : (0 : Int) ≤ i := by omega
    have hmm := manyI_le2 l i
    have g1 : (0 : Int) ≤ (manyN l i : Int) := by omega
    have g2 : (manyN l i : Int) ≤ (l.length : Int) := by omega
    have hr : (partL s o l i).length + 1 ≤ roomA := by rw [partL_len]; unfold roomA; omega
    have hp := partL_one s o l n i
    have hsum : IntKind.i64.wrap (sumL (partL s o l i) + (partN s.toNat o.toNat l.length (manyN l i) : Int)) = sumL (partL s o l (i + 1)) := by
      have h1 := sum_fit (partL_fit hd h2 i)
      have h3 : (partL s o l i).length = i := partL_len s o l i
      have := partL_fit hd h2 (i + 1) (partN s.toNat o.toNat l.length (manyN l i) : Int) (by rw [← hp]; simp)
      rw [← hp, sumL_one]
      exact wrap64 (by omega) (by omega)
    simp only [h1', hw, hi0, hl3, hl4, hd, g1, g2, hr, h_l2Many, c_falseFor, h_l7Parts, c_l7Parts, Int.toNat_natCast, ints_len, ints_app1, hp, hsum, ints_cell, ↓SP, SQ, Gam.add, stepM, callC, argC, lendO, nmBy, nmC, likeL, likeB, plainOb, offs, X, F, trP, trO, stepD, stepW, newA, SV.tr, SV.trL, fz, allP, Ob.tr, loadA, cellsA, SV.cells, binA, binI, eqOut, isSl, isPt, natOf, callee, snap, SV.refsL, SV.refs, thaw, fzAll, loA, hiA, elemOf, partsA, buildA, putCells, ↓reduceIte, reduceCtorEq, okCell, Nat.reduceAdd, Nat.reduceEqDiff, Nat.reduceSub, Nat.reduceMul, Nat.reduceLeDiff, Nat.reduceLT, Nat.reduceBEq, PV.scal, PV.scalL, SV.scal, SV.scalL, Ob.scal, PV.isCell, pure', resO]
    exact hN (i + 1, _, _, _) _ _ (by simp only; omega) (by simp only; omega) rfl rfl
  · have he : i = n := by omega
    have h1' : ¬ (i : Int) < n := by omega
    simp only [h1', ↓SP, SQ, Gam.add, stepM, callC, argC, lendO, nmBy, nmC, likeL, likeB, plainOb, offs, X, F, trP, trO, stepD, stepW, newA, SV.tr, SV.trL, fz, allP, Ob.tr, loadA, cellsA, SV.cells, binA, binI, eqOut, isSl, isPt, natOf, callee, snap, SV.refsL, SV.refs, thaw, fzAll, loA, hiA, elemOf, partsA, buildA, putCells, ↓reduceIte, reduceCtorEq, okCell, Nat.reduceAdd, Nat.reduceEqDiff, Nat.reduceSub, Nat.reduceMul, Nat.reduceLeDiff, Nat.reduceLT, Nat.reduceBEq, PV.scal, PV.scalL, SV.scal, SV.scalL, Ob.scal, PV.isCell, pure', resO]
    refine hR _ _ _ (by intro h; cases h) ?_
    subst he
    simp only [↓SP, SQ, Gam.add, stepM, callC, argC, lendO, nmBy, nmC, likeL, likeB, plainOb, offs, X, F, trP, trO, stepD, stepW, newA, SV.tr, SV.trL, fz, allP, Ob.tr, loadA, cellsA, SV.cells, binA, binI, eqOut, isSl, isPt, natOf, callee, snap, SV.refsL, SV.refs, thaw, fzAll, loA, hiA, elemOf, partsA, buildA, putCells, ↓reduceIte, reduceCtorEq, okCell, Nat.reduceAdd, Nat.reduceEqDiff, Nat.reduceSub, Nat.reduceMul, Nat.reduceLeDiff, Nat.reduceLT, Nat.reduceBEq, PV.scal, PV.scalL, SV.scal, SV.scalL, Ob.scal, PV.isCell, pure', resO]
    exact finA_gen [12] trivial (by simp [retA, rvA, List.mapM_cons, List.mapM_nil, Option.pure_def, Option.bind_eq_bind, Option.bind_some, Option.map_some, mkE_cons, mk_nil, mkO_cons, mkO_nil, loadA, ↓reduceIte, List.take_succ_cons, List.take_zero, List.drop_zero, List.drop_succ_cons, List.length_cons, List.length_nil, Nat.reduceAdd, Nat.reduceEqDiff, Nat.reduceLeDiff, Nat.zero_add, Nat.le_refl, reduceCtorEq, SV.tr, SV.trL, nmF, rn_nil, rn_cons1, rn_cons2, List.map_cons, List.map_nil, List.all_cons, List.all_nil, plainOb, SV.refsL, SV.refs, Ob.refs, X, F, List.range_succ, List.range_zero, List.nil_append, List.cons_append, List.isEmpty_nil, decide_true, Nat.reduceLT, Bool.and_self, Bool.and_true, and_self, and_true, List.getElem?_cons_zero, List.getElem?_cons_succ, List.nodup_cons, List.nodup_nil, List.mem_cons, List.not_mem_nil, not_false_eq_true, or_false, List.append_nil, mkO, setO_mk, List.mem_singleton]; rfl) (by simp [retA, rvA, List.mapM_cons, List.mapM_nil, Option.pure_def, Option.bind_eq_bind, Option.bind_some, Option.map_some, mkE_cons, mk_nil, mkO_cons, mkO_nil, loadA, ↓reduceIte, List.take_succ_cons, List.take_zero, List.drop_zero, List.drop_succ_cons, List.length_cons, List.length_nil, Nat.reduceAdd, Nat.reduceEqDiff, Nat.reduceLeDiff, Nat.zero_add, Nat.le_refl, reduceCtorEq, SV.tr, SV.trL, nmF, rn_nil, rn_cons1, rn_cons2, List.map_cons, List.map_nil, List.all_cons, List.all_nil, plainOb, SV.refsL, SV.refs, Ob.refs, X, F, List.range_succ, List.range_zero, List.nil_append, List.cons_append, List.isEmpty_nil, decide_true, Nat.reduceLT, Bool.and_self, Bool.and_true, and_self, and_true, List.getElem?_cons_zero, List.getElem?_cons_succ, List.nodup_cons, List.nodup_nil, List.mem_cons, List.not_mem_nil, not_false_eq_true, or_false, List.append_nil, mkO, setO_mk, List.mem_singleton]) (by simp [retA, rvA, List.mapM_cons, List.mapM_nil, Option.pure_def, Option.bind_eq_bind, Option.bind_some, Option.map_some, mkE_cons, mk_nil, mkO_cons, mkO_nil, loadA, ↓reduceIte, List.take_succ_cons, List.take_zero, List.drop_zero, List.drop_succ_cons, List.length_cons, List.length_nil, Nat.reduceAdd, Nat.reduceEqDiff, Nat.reduceLeDiff, Nat.zero_add, Nat.le_refl, reduceCtorEq, SV.tr, SV.trL, nmF, rn_nil, rn_cons1, rn_cons2, List.map_cons, List.map_nil, List.all_cons, List.all_nil, plainOb, SV.refsL, SV.refs, Ob.refs, X, F, List.range_succ, List.range_zero, List.nil_append, List.cons_append, List.isEmpty_nil, decide_true, Nat.reduceLT, Bool.and_self, Bool.and_true, and_self, and_true, List.getElem?_cons_zero, List.getElem?_cons_succ, List.nodup_cons, List.nodup_nil, List.mem_cons, List.not_mem_nil, not_false_eq_true, or_false, List.append_nil, mkO, setO_mk, List.mem_singleton]) (by simp) (by simp) (by simp [retA, rvA, List.mapM_cons, List.mapM_nil, Option.pure_def, Option.bind_eq_bind, Option.bind_some, Option.map_some, mkE_cons, mk_nil, mkO_cons, mkO_nil, loadA, ↓reduceIte, List.take_succ_cons, List.take_zero, List.drop_zero, List.drop_succ_cons, List.length_cons, List.length_nil, Nat.reduceAdd, Nat.reduceEqDiff, Nat.reduceLeDiff, Nat.zero_add, Nat.le_refl, reduceCtorEq, SV.tr, SV.trL, nmF, rn_nil, rn_cons1, rn_cons2, List.map_cons, List.map_nil, List.all_cons, List.all_nil, plainOb, SV.refsL, SV.refs, Ob.refs, X, F, List.range_succ, List.range_zero, List.nil_append, List.cons_append, List.isEmpty_nil, decide_true, Nat.reduceLT, Bool.and_self, Bool.and_true, and_self, and_true, List.getElem?_cons_zero, List.getElem?_cons_succ, List.nodup_cons, List.nodup_nil, List.mem_cons, List.not_mem_nil, not_false_eq_true, or_false, List.append_nil, mkO, setO_mk, List.mem_singleton]) (by simp [retA, rvA, List.mapM_cons, List.mapM_nil, Option.pure_def, Option.bind_eq_bind, Option.bind_some, Option.map_some, mkE_cons, mk_nil, mkO_cons, mkO_nil, loadA, ↓reduceIte, List.take_succ_cons, List.take_zero, List.drop_zero, List.drop_succ_cons, List.length_cons, List.length_nil, Nat.reduceAdd, Nat.reduceEqDiff, Nat.reduceLeDiff, Nat.zero_add, Nat.le_refl, reduceCtorEq, SV.tr, SV.trL, nmF, rn_nil, rn_cons1, rn_cons2, List.map_cons, List.map_nil, List.all_cons, List.all_nil, plainOb, SV.refsL, SV.refs, Ob.refs, X, F, List.range_succ, List.range_zero, List.nil_append, List.cons_append, List.isEmpty_nil, decide_true, Nat.reduceLT, Bool.and_self, Bool.and_true, and_self, and_true, List.getElem?_cons_zero, List.getElem?_cons_succ, List.nodup_cons, List.nodup_nil, List.mem_cons, List.not_mem_nil, not_false_eq_true, or_false, List.append_nil, mkO, setO_mk, List.mem_singleton]) (by simp [retA, rvA, List.mapM_cons, List.mapM_nil, Option.pure_def, Option.bind_eq_bind, Option.bind_some, Option.map_some, mkE_cons, mk_nil, mkO_cons, mkO_nil, loadA, ↓reduceIte, List.take_succ_cons, List.take_zero, List.drop_zero, List.drop_succ_cons, List.length_cons, List.length_nil, Nat.reduceAdd, Nat.reduceEqDiff, Nat.reduceLeDiff, Nat.zero_add, Nat.le_refl, reduceCtorEq, SV.tr, SV.trL, nmF, rn_nil, rn_cons1, rn_cons2, List.map_cons, List.map_nil, List.all_cons, List.all_nil, plainOb, SV.refsL, SV.refs, Ob.refs, X, F, List.range_succ, List.range_zero, List.nil_append, List.cons_append, List.isEmpty_nil, decide_true, Nat.reduceLT, Bool.and_self, Bool.and_true, and_self, and_true, List.getElem?_cons_zero, List.getElem?_cons_succ, List.nodup_cons, List.nodup_nil, List.mem_cons, List.not_mem_nil, not_false_eq_true, or_false, List.append_nil, mkO, setO_mk, List.mem_singleton])
theorem areA_out {n : Int} {l : List (Int × Bool)} {q : Int} (h : areA n l q = true) : 1 ≤ n ∧ n ≤ 12 ∧ (l.length : Int) ≤ q := by
  simp only [areA, Bool.and_eq_true, decide_eq_true_eq] at h; omega
def a_sharesAfter (f_areAsked : FuncId) (f_IsDoubt : FuncId) (f_shares : FuncId) : AFn := ⟨4, 
  .seq (.reg [⟨some 6, none, .w (.box 2 (.t 2))⟩,
    ⟨some 8, none, .d (.mv (.c (.nilsl)))⟩,
    ⟨some 9, none, .d (.mv (.c (.int .i64 0)))⟩,
    ⟨some 10, none, .d (.mv (.c (.bool false)))⟩])
  (.seq (.seq (.reg [⟨some 13, none, .d (.mv (.t 0))⟩,
    ⟨some 14, none, .d (.mv (.t 1))⟩,
    ⟨some 15, none, .d (.mv (.t 3))⟩,
    ⟨some 16, none, .d (.call (.f f_areAsked) [(.t 13), (.t 14), (.t 15)])⟩,
    ⟨some 17, none, .d (.not (.t 16))⟩,
    ⟨some 18, none, .d (.mv (.t 17))⟩,
    ⟨some 19, some (18, false), .d (.load true 2 (.t 6))⟩,
    ⟨some 20, some (18, false), .d (.call (.f f_IsDoubt) [(.t 19)])⟩,
    ⟨some 21, some (18, false), .d (.not (.t 20))⟩,
    ⟨some 22, none, .d (.pick (.t 18) (.c (.bool true)) (.t 21))⟩])
  (.cond (.t 22) (.seq (.reg [⟨some 8, none, .d (.mv (.c (.nilsl)))⟩,
     ⟨some 9, none, .d (.mv (.c (.int .i64 0)))⟩,
     ⟨some 10, none, .d (.mv (.c (.bool false)))⟩])
   (.ret)) (.skip)))
  (.seq (.reg [⟨some 24, none, .d (.mv (.t 0))⟩,
    ⟨some 25, none, .d (.mv (.t 1))⟩,
    ⟨some 26, none, .d (.load true 2 (.t 6))⟩,
    ⟨some 27, none, .d (.call (.f f_shares) [(.t 24), (.t 25), (.t 26)])⟩,
    ⟨some 23, none, .d (.mv (.t 27))⟩,
    ⟨some 28, none, .d (.extract (.t 23) 0)⟩,
    ⟨some 29, none, .d (.extract (.t 23) 1)⟩,
    ⟨some 11, none, .d (.mv (.t 28))⟩,
    ⟨some 12, none, .d (.mv (.t 29))⟩])
  (.seq (.reg [⟨some 30, none, .d (.mv (.t 11))⟩,
    ⟨some 31, none, .d (.mv (.t 12))⟩,
    ⟨some 32, none, .d (.mv (.t 12))⟩,
    ⟨some 33, none, .d (.bin .arith .gtr (.t 32) (.c (.int .i64 0)))⟩,
    ⟨some 8, none, .d (.mv (.t 30))⟩,
    ⟨some 9, none, .d (.mv (.t 31))⟩,
    ⟨some 10, none, .d (.mv (.t 33))⟩])
  (.ret)))), [.tmp 8, .tmp 9, .tmp 10]⟩
def n_sharesAfter : Nat → Option Ann := fun _ => none
abbrev k_sharesAfter : List Nat := [0, 1, 2, 3, 6, 8, 9, 10, 11, 12, 22]
abbrev o_sharesAfter : List Nat := [6]
def c_sharesAfter : Con := pure' fun
  | [.p (.int .i64 n), .p (.sl 2 l_), .p (.agg [.int .i64 s, .int .i64 o]), .p (.int .i64 q)] => if isAs l_ = true ∧ ((ofAs l_).length ≤ 1100000 ∧ q ≤ 12) then some (if (areA n (ofAs l_) q && isD s o) = true then .tp [.p (.sl 1 (ints (partL s o (ofAs l_) n.toNat))), .p (.int .i64 (sumL (partL s o (ofAs l_) n.toNat))), .p (.bool (decide (0 < sumL (partL s o (ofAs l_) n.toNat))))] else .tp [.p .nilsl, .p (.int .i64 0), .p (.bool false)], []) else none
  | _ => none
theorem s_sharesAfter {P : Program} (hm : P.follows .mixedOrders = true) {Γ : Gam} (hΓ : GS P Γ) {n : FuncId} {f_areAsked : FuncId} {f_IsDoubt : FuncId} {f_shares : FuncId} (is : Is P n (a_sharesAfter f_areAsked f_IsDoubt f_shares)) (h_areAsked : Γ f_areAsked = c_areAsked) (h_IsDoubt : Γ f_IsDoubt = c_IsDoubt) (h_shares : Γ f_shares = c_shares)  : Says P n c_sharesAfter := by
  refine Says.pure fun args r fs h => ?_
  split at h
  case h_2 => cases h
  rename_i n l_ s o q
  split at h
  case isFalse => cases h
  rename_i hc
  obtain ⟨hl_, hc⟩ := hc
  obtain ⟨l, rfl⟩ := isAs_out hl_
  simp only [ofI_ints, ofBo_bools, ofAs_asks, Option.some.injEq, Prod.mk.injEq] at h hc
  obtain ⟨rfl, rfl⟩ := h
  obtain ⟨hc0, hc1⟩ := hc
  cases hA : areA n l q with
  | false =>
    refine is.go hm hΓ k_sharesAfter o_sharesAfter (by simp [a_sharesAfter]) ?_
    simp only [a_sharesAfter, h_areAsked, c_areAsked, h_IsDoubt, c_IsDoubt, h_shares, c_shares, hc0, hA, Bool.false_and, Bool.false_eq_true, List.zipIdx_cons, List.zipIdx_nil, ↓SP, SQ, Gam.add, stepM, callC, argC, lendO, nmBy, nmC, likeL, likeB, plainOb, offs, X, F, trP, trO, stepD, stepW, newA, SV.tr, SV.trL, fz, allP, Ob.tr, loadA, cellsA, SV.cells, binA, binI, eqOut, isSl, isPt, natOf, callee, snap, SV.refsL, SV.refs, thaw, fzAll, loA, hiA, elemOf, partsA, buildA, putCells, ↓reduceIte, reduceCtorEq, okCell, Nat.reduceAdd, Nat.reduceEqDiff, Nat.reduceSub, Nat.reduceMul, Nat.reduceLeDiff, Nat.reduceLT, Nat.reduceBEq, PV.scal, PV.scalL, SV.scal, SV.scalL, Ob.scal, PV.isCell, pure', resO]
    exact finA_val (by simp [retA, rvA, List.mapM_cons, List.mapM_nil, Option.pure_def, Option.bind_eq_bind, Option.bind_some, Option.map_some, mkE_cons, mk_nil, mkO_cons, mkO_nil, loadA, ↓reduceIte, List.take_succ_cons, List.take_zero, List.drop_zero, List.drop_succ_cons, List.length_cons, List.length_nil, Nat.reduceAdd, Nat.reduceEqDiff, Nat.reduceLeDiff, Nat.zero_add, Nat.le_refl, reduceCtorEq, SV.tr, SV.trL, nmF, rn_nil, rn_cons1, rn_cons2, List.map_cons, List.map_nil, List.all_cons, List.all_nil, plainOb, SV.refsL, SV.refs, Ob.refs, X, F, List.range_succ, List.range_zero, List.nil_append, List.cons_append, List.isEmpty_nil, decide_true, Nat.reduceLT, Bool.and_self, Bool.and_true, and_self, and_true, List.getElem?_cons_zero, List.getElem?_cons_succ, List.nodup_cons, List.nodup_nil, List.mem_cons, List.not_mem_nil, not_false_eq_true, or_false, List.append_nil, mkO, setO_mk, List.mem_singleton]) (by simp [SV.tr, SV.trL])
  | true =>
    cases hD : isD s o with
    | false =>
      refine is.go hm hΓ k_sharesAfter o_sharesAfter (by simp [a_sharesAfter]) ?_
      simp only [a_sharesAfter, h_areAsked, c_areAsked, h_IsDoubt, c_IsDoubt, h_shares, c_shares, hc0, hA, hD, Bool.and_false, Bool.false_eq_true, List.zipIdx_cons, List.zipIdx_nil, ↓SP, SQ, Gam.add, stepM, callC, argC, lendO, nmBy, nmC, likeL, likeB, plainOb, offs, X, F, trP, trO, stepD, stepW, newA, SV.tr, SV.trL, fz, allP, Ob.tr, loadA, cellsA, SV.cells, binA, binI, eqOut, isSl, isPt, natOf, callee, snap, SV.refsL, SV.refs, thaw, fzAll, loA, hiA, elemOf, partsA, buildA, putCells, ↓reduceIte, reduceCtorEq, okCell, Nat.reduceAdd, Nat.reduceEqDiff, Nat.reduceSub, Nat.reduceMul, Nat.reduceLeDiff, Nat.reduceLT, Nat.reduceBEq, PV.scal, PV.scalL, SV.scal, SV.scalL, Ob.scal, PV.isCell, pure', resO]
      exact finA_val (by simp [retA, rvA, List.mapM_cons, List.mapM_nil, Option.pure_def, Option.bind_eq_bind, Option.bind_some, Option.map_some, mkE_cons, mk_nil, mkO_cons, mkO_nil, loadA, ↓reduceIte, List.take_succ_cons, List.take_zero, List.drop_zero, List.drop_succ_cons, List.length_cons, List.length_nil, Nat.reduceAdd, Nat.reduceEqDiff, Nat.reduceLeDiff, Nat.zero_add, Nat.le_refl, reduceCtorEq, SV.tr, SV.trL, nmF, rn_nil, rn_cons1, rn_cons2, List.map_cons, List.map_nil, List.all_cons, List.all_nil, plainOb, SV.refsL, SV.refs, Ob.refs, X, F, List.range_succ, List.range_zero, List.nil_append, List.cons_append, List.isEmpty_nil, decide_true, Nat.reduceLT, Bool.and_self, Bool.and_true, and_self, and_true, List.getElem?_cons_zero, List.getElem?_cons_succ, List.nodup_cons, List.nodup_nil, List.mem_cons, List.not_mem_nil, not_false_eq_true, or_false, List.append_nil, mkO, setO_mk, List.mem_singleton]) (by simp [SV.tr, SV.trL])
    | true =>
      obtain ⟨a1, a2, a3⟩ := areA_out hA
      have g0 : 0 ≤ n := by omega
      have g1 : l.length ≤ 12 := by omega
      refine is.go hm hΓ k_sharesAfter o_sharesAfter (by simp [a_sharesAfter]) ?_
      simp only [a_sharesAfter, h_areAsked, c_areAsked, h_IsDoubt, c_IsDoubt, h_shares, c_shares, hc0, hA, hD, g0, g1, a2, Bool.and_self, List.zipIdx_cons, List.zipIdx_nil, ↓SP, SQ, Gam.add, stepM, callC, argC, lendO, nmBy, nmC, likeL, likeB, plainOb, offs, X, F, trP, trO, stepD, stepW, newA, SV.tr, SV.trL, fz, allP, Ob.tr, loadA, cellsA, SV.cells, binA, binI, eqOut, isSl, isPt, natOf, callee, snap, SV.refsL, SV.refs, thaw, fzAll, loA, hiA, elemOf, partsA, buildA, putCells, ↓reduceIte, reduceCtorEq, okCell, Nat.reduceAdd, Nat.reduceEqDiff, Nat.reduceSub, Nat.reduceMul, Nat.reduceLeDiff, Nat.reduceLT, Nat.reduceBEq, PV.scal, PV.scalL, SV.scal, SV.scalL, Ob.scal, PV.isCell, pure', resO]
      exact finA_val (by simp [retA, rvA, List.mapM_cons, List.mapM_nil, Option.pure_def, Option.bind_eq_bind, Option.bind_some, Option.map_some, mkE_cons, mk_nil, mkO_cons, mkO_nil, loadA, ↓reduceIte, List.take_succ_cons, List.take_zero, List.drop_zero, List.drop_succ_cons, List.length_cons, List.length_nil, Nat.reduceAdd, Nat.reduceEqDiff, Nat.reduceLeDiff, Nat.zero_add, Nat.le_refl, reduceCtorEq, SV.tr, SV.trL, nmF, rn_nil, rn_cons1, rn_cons2, List.map_cons, List.map_nil, List.all_cons, List.all_nil, plainOb, SV.refsL, SV.refs, Ob.refs, X, F, List.range_succ, List.range_zero, List.nil_append, List.cons_append, List.isEmpty_nil, decide_true, Nat.reduceLT, Bool.and_self, Bool.and_true, and_self, and_true, List.getElem?_cons_zero, List.getElem?_cons_succ, List.nodup_cons, List.nodup_nil, List.mem_cons, List.not_mem_nil, not_false_eq_true, or_false, List.append_nil, mkO, setO_mk, List.mem_singleton]) (by simp [SV.tr, SV.trL])
/-- Whether there are chances. -/
def okP (n : Int) (l : List (Int × Bool)) (s o : Int) : Bool := areA n l 12 && isD s o && decide (0 < sumL (partL s o l n.toNat))
end Go.Proofs.Ytmbljmolegalhaa.Pam
