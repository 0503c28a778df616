/- A part of the proof that stands in this folder: a small machine whose steps are shown to be the steps of the model, or walks of functions by it. No condition of its own. -/
import Derived.Test.YtgnclbdhpdjafaaGaNF
set_option linter.unusedVariables false
set_option linter.unusedSimpArgs false
namespace Go.Proofs.Ytgnclbdhpdjafaa.Pam
open Go
def a_x_LessNeed (f_szState : FuncId) (f_toState : FuncId) (f_s_LessNeed : FuncId) (f_LessNeed : FuncId) (f_eqState : FuncId) : AFn := ⟨1, 
  .seq (.reg [⟨some 1, none, .w (.box 2 (.t 0))⟩,
    ⟨some 2, none, .d (.mv (.c (.bool false)))⟩])
  (.seq (.reg [⟨some 3, none, .d (.mv (.c (.int .i64 1048576)))⟩])
  (.seq (.reg [⟨some 9, none, .d (.load true 2 (.t 1))⟩,
    ⟨some 10, none, .d (.mv (.t 3))⟩,
    ⟨some 11, none, .d (.call (.f f_szState) [(.t 9), (.t 10)])⟩,
    ⟨some 3, none, .d (.mv (.t 11))⟩])
  (.seq (.seq (.reg [⟨some 12, none, .d (.mv (.t 3))⟩,
    ⟨some 13, none, .d (.bin .arith .lss (.t 12) (.c (.int .i64 0)))⟩])
  (.cond (.t 13) (.seq (.reg [⟨some 2, none, .d (.mv (.c (.bool true)))⟩])
   (.ret)) (.skip)))
  (.seq (.reg [⟨some 15, none, .d (.load true 2 (.t 1))⟩,
    ⟨some 16, none, .d (.call (.f f_toState) [(.t 15)])⟩,
    ⟨some 17, none, .d (.call (.f f_s_LessNeed) [(.t 16)])⟩,
    ⟨some 14, none, .d (.mv (.t 17))⟩,
    ⟨some 18, none, .d (.extract (.t 14) 0)⟩,
    ⟨some 19, none, .d (.extract (.t 14) 1)⟩,
    ⟨some 4, none, .d (.mv (.t 18))⟩,
    ⟨some 5, none, .d (.mv (.t 19))⟩])
  (.seq (.reg [⟨some 20, none, .d (.load true 2 (.t 1))⟩,
    ⟨some 21, none, .d (.call (.f f_toState) [(.t 20)])⟩,
    ⟨some 6, none, .w (.alloc [.nilsl, .int .i64 0])⟩,
    ⟨none, none, .w (.store 2 (.t 6) (.t 21))⟩])
  (.seq (.reg [⟨some 23, none, .d (.load true 2 (.t 6))⟩,
    ⟨some 24, none, .d (.call (.f f_LessNeed) [(.t 23)])⟩,
    ⟨some 22, none, .d (.mv (.t 24))⟩,
    ⟨some 25, none, .d (.extract (.t 22) 0)⟩,
    ⟨some 26, none, .d (.extract (.t 22) 1)⟩,
    ⟨some 7, none, .d (.mv (.t 25))⟩,
    ⟨some 8, none, .d (.mv (.t 26))⟩])
  (.seq (.seq (.reg [⟨some 27, none, .d (.mv (.t 7))⟩,
    ⟨some 28, none, .d (.mv (.t 4))⟩,
    ⟨some 29, none, .d (.bin .arith .neq (.t 27) (.t 28))⟩,
    ⟨some 30, none, .d (.mv (.t 29))⟩,
    ⟨some 31, some (30, false), .d (.mv (.t 8))⟩,
    ⟨some 32, some (30, false), .d (.mv (.t 5))⟩,
    ⟨some 33, some (30, false), .d (.bin .bool .neq (.t 31) (.t 32))⟩,
    ⟨some 34, none, .d (.pick (.t 30) (.c (.bool true)) (.t 33))⟩])
  (.cond (.t 34) (.seq (.reg [⟨some 2, none, .d (.mv (.c (.bool false)))⟩])
   (.ret)) (.skip)))
  (.seq (.seq (.dreg [] [([], ⟨some 35, none, .d (.load true 2 (.t 6))⟩),
    ([], ⟨some 36, none, .d (.load true 2 (.t 1))⟩),
    ([], ⟨some 37, none, .d (.call (.f f_toState) [(.t 36)])⟩)] [⟨some 38, none, .d (.call (.f f_eqState) [(.t 35), (.t 37)])⟩,
    ⟨some 39, none, .d (.not (.t 38))⟩])
  (.cond (.t 39) (.seq (.reg [⟨some 2, none, .d (.mv (.c (.bool false)))⟩])
   (.ret)) (.skip)))
  (.seq (.reg [⟨some 2, none, .d (.mv (.c (.bool true)))⟩])
  (.ret)))))))))), [.tmp 2]⟩
def n_x_LessNeed : Nat → Option Ann := fun _ => none
abbrev k_x_LessNeed : List Nat := [0, 1, 2, 3, 4, 5, 6, 7, 8, 13, 34, 39]
abbrev o_x_LessNeed : List Nat := [1, 6]
def c_x_LessNeed : Con := pure' fun
  | [.p (.agg [v, .int .i64 m])] => match slI v with
    | some x => if x.length ≤ 9223372036854775807 then some (.p (.bool true), []) else none
    | none => none
  | _ => none
set_option maxRecDepth 100000 in
theorem s_x_LessNeed {P : Program} (hm : P.follows .mixedOrders = true) {Γ : Gam} (hΓ : GS P Γ) {n : FuncId} {f_szState : FuncId} {f_toState : FuncId} {f_s_LessNeed : FuncId} {f_LessNeed : FuncId} {f_eqState : FuncId} (is : Is P n (a_x_LessNeed f_szState f_toState f_s_LessNeed f_LessNeed f_eqState)) (h_szState : Γ f_szState = c_szState) (h_toState : Γ f_toState = c_toState) (h_s_LessNeed : Γ f_s_LessNeed = c_LessNeed) (h_LessNeed : Γ f_LessNeed = c_LessNeed) (h_eqState : Γ f_eqState = c_eqState)  : Says P n c_x_LessNeed := by
  refine Says.pure fun args r fs h => ?_
  split at h
  case h_2 => cases h
  rename_i v m
  split at h
  case h_2 => cases h
  rename_i x hx
  split at h
  case isFalse => cases h
  rename_i hc
  simp only [Option.some.injEq, Prod.mk.injEq] at h
  obtain ⟨rfl, rfl⟩ := h
  have hlp := slI_lenP hx
  by_cases hk : (1048576 : Int) - (x.length : Int) < 0
  · refine is.go hm hΓ k_x_LessNeed o_x_LessNeed (by simp [a_x_LessNeed]) ?_
    simp only [a_x_LessNeed, h_szState, c_szState, h_toState, c_toState, h_s_LessNeed, c_LessNeed, h_LessNeed, c_LessNeed, h_eqState, c_eqState, hlp, hc, hk, Int.reduceLE, Int.reduceNeg, Int.reduceLT, List.zipIdx_cons, List.zipIdx_nil, ↓SP, SQ, Gam.add, stepM, callC, argC, lendO, nmBy, nmC, likeL, likeB, plainOb, offs, exL, X, F, trP, trO, stepD, stepW, newA, SV.tr, SV.trL, fz, allP, Ob.tr, loadA, cellsA, SV.cells, binA, binI, eqOut, isSl, isPt, natOf, callee, snap, SV.refsL, SV.refs, thaw, fzAll, loA, hiA, elemOf, partsA, buildA, putCells, ↓reduceIte, reduceCtorEq, okCell, Nat.reduceAdd, Nat.reduceEqDiff, Nat.reduceSub, Nat.reduceMul, Nat.reduceLeDiff, Nat.reduceLT, Nat.reduceBEq, PV.scal, PV.scalL, SV.scal, SV.scalL, Ob.scal, PV.isCell, pure', resO]
    exact finA_val (by simp [retA, rvA, List.mapM_cons, List.mapM_nil, Option.pure_def, Option.bind_eq_bind, Option.bind_some, Option.map_some, mkE_cons, mk_nil, mkO_cons, mkO_nil, loadA, ↓reduceIte, List.take_succ_cons, List.take_zero, List.drop_zero, List.drop_succ_cons, List.length_cons, List.length_nil, Nat.reduceAdd, Nat.reduceEqDiff, Nat.reduceLeDiff, Nat.zero_add, Nat.le_refl, reduceCtorEq, SV.tr, SV.trL, nmF, rn_nil, rn_cons1, rn_cons2, List.map_cons, List.map_nil, List.all_cons, List.all_nil, plainOb, SV.refsL, SV.refs, Ob.refs, X, F, List.range_succ, List.range_zero, List.nil_append, List.cons_append, List.isEmpty_nil, decide_true, Nat.reduceLT, Bool.and_self, Bool.and_true, and_self, and_true, List.getElem?_cons_zero, List.getElem?_cons_succ, List.nodup_cons, List.nodup_nil, List.mem_cons, List.not_mem_nil, not_false_eq_true, or_false, List.append_nil, mkO, setO_mk, List.mem_singleton]) (by simp [SV.tr, SV.trL])
  · have hlen : x.length ≤ 1048576 := by omega
    have hlen2 : x.length ≤ 1100000 := by omega
    generalize hg1 : (if isSh x m = true then lnT m x else 0) = v1 at *
    generalize hg2 : isSh x m = v2 at *
    refine is.go hm hΓ k_x_LessNeed o_x_LessNeed (by simp [a_x_LessNeed]) ?_
    simp only [a_x_LessNeed, h_szState, c_szState, h_toState, c_toState, h_s_LessNeed, c_LessNeed, h_LessNeed, c_LessNeed, h_eqState, c_eqState, hx, hlp, hc, hk, hlen, hlen2, hg1, hg2, slI_sl, ints_len, beq_self_eq_true, Bool.not_true, Int.reduceLE, Int.reduceNeg, Int.reduceLT, bne_self_eq_false, List.zipIdx_cons, List.zipIdx_nil, ↓SP, SQ, Gam.add, stepM, callC, argC, lendO, nmBy, nmC, likeL, likeB, plainOb, offs, exL, X, F, trP, trO, stepD, stepW, newA, SV.tr, SV.trL, fz, allP, Ob.tr, loadA, cellsA, SV.cells, binA, binI, eqOut, isSl, isPt, natOf, callee, snap, SV.refsL, SV.refs, thaw, fzAll, loA, hiA, elemOf, partsA, buildA, putCells, ↓reduceIte, reduceCtorEq, okCell, Nat.reduceAdd, Nat.reduceEqDiff, Nat.reduceSub, Nat.reduceMul, Nat.reduceLeDiff, Nat.reduceLT, Nat.reduceBEq, PV.scal, PV.scalL, SV.scal, SV.scalL, Ob.scal, PV.isCell, pure', resO]
    exact finA_val (by simp [retA, rvA, List.mapM_cons, List.mapM_nil, Option.pure_def, Option.bind_eq_bind, Option.bind_some, Option.map_some, mkE_cons, mk_nil, mkO_cons, mkO_nil, loadA, ↓reduceIte, List.take_succ_cons, List.take_zero, List.drop_zero, List.drop_succ_cons, List.length_cons, List.length_nil, Nat.reduceAdd, Nat.reduceEqDiff, Nat.reduceLeDiff, Nat.zero_add, Nat.le_refl, reduceCtorEq, SV.tr, SV.trL, nmF, rn_nil, rn_cons1, rn_cons2, List.map_cons, List.map_nil, List.all_cons, List.all_nil, plainOb, SV.refsL, SV.refs, Ob.refs, X, F, List.range_succ, List.range_zero, List.nil_append, List.cons_append, List.isEmpty_nil, decide_true, Nat.reduceLT, Bool.and_self, Bool.and_true, and_self, and_true, List.getElem?_cons_zero, List.getElem?_cons_succ, List.nodup_cons, List.nodup_nil, List.mem_cons, List.not_mem_nil, not_false_eq_true, or_false, List.append_nil, mkO, setO_mk, List.mem_singleton]) (by simp [SV.tr, SV.trL])
def a_x_BestLess (f_szState : FuncId) (f_toState : FuncId) (f_s_BestLess : FuncId) (f_BestLess : FuncId) (f_eqState : FuncId) : AFn := ⟨1, 
  .seq (.reg [⟨some 1, none, .w (.box 2 (.t 0))⟩,
    ⟨some 2, none, .d (.mv (.c (.bool false)))⟩])
  (.seq (.reg [⟨some 3, none, .d (.mv (.c (.int .i64 1048576)))⟩])
  (.seq (.reg [⟨some 9, none, .d (.load true 2 (.t 1))⟩,
    ⟨some 10, none, .d (.mv (.t 3))⟩,
    ⟨some 11, none, .d (.call (.f f_szState) [(.t 9), (.t 10)])⟩,
    ⟨some 3, none, .d (.mv (.t 11))⟩])
  (.seq (.seq (.reg [⟨some 12, none, .d (.mv (.t 3))⟩,
    ⟨some 13, none, .d (.bin .arith .lss (.t 12) (.c (.int .i64 0)))⟩])
  (.cond (.t 13) (.seq (.reg [⟨some 2, none, .d (.mv (.c (.bool true)))⟩])
   (.ret)) (.skip)))
  (.seq (.reg [⟨some 15, none, .d (.load true 2 (.t 1))⟩,
    ⟨some 16, none, .d (.call (.f f_toState) [(.t 15)])⟩,
    ⟨some 17, none, .d (.call (.f f_s_BestLess) [(.t 16)])⟩,
    ⟨some 14, none, .d (.mv (.t 17))⟩,
    ⟨some 18, none, .d (.extract (.t 14) 0)⟩,
    ⟨some 19, none, .d (.extract (.t 14) 1)⟩,
    ⟨some 4, none, .d (.mv (.t 18))⟩,
    ⟨some 5, none, .d (.mv (.t 19))⟩])
  (.seq (.reg [⟨some 20, none, .d (.load true 2 (.t 1))⟩,
    ⟨some 21, none, .d (.call (.f f_toState) [(.t 20)])⟩,
    ⟨some 6, none, .w (.alloc [.nilsl, .int .i64 0])⟩,
    ⟨none, none, .w (.store 2 (.t 6) (.t 21))⟩])
  (.seq (.reg [⟨some 23, none, .d (.load true 2 (.t 6))⟩,
    ⟨some 24, none, .d (.call (.f f_BestLess) [(.t 23)])⟩,
    ⟨some 22, none, .d (.mv (.t 24))⟩,
    ⟨some 25, none, .d (.extract (.t 22) 0)⟩,
    ⟨some 26, none, .d (.extract (.t 22) 1)⟩,
    ⟨some 7, none, .d (.mv (.t 25))⟩,
    ⟨some 8, none, .d (.mv (.t 26))⟩])
  (.seq (.seq (.reg [⟨some 27, none, .d (.mv (.t 7))⟩,
    ⟨some 28, none, .d (.mv (.t 4))⟩,
    ⟨some 29, none, .d (.bin .arith .neq (.t 27) (.t 28))⟩,
    ⟨some 30, none, .d (.mv (.t 29))⟩,
    ⟨some 31, some (30, false), .d (.mv (.t 8))⟩,
    ⟨some 32, some (30, false), .d (.mv (.t 5))⟩,
    ⟨some 33, some (30, false), .d (.bin .bool .neq (.t 31) (.t 32))⟩,
    ⟨some 34, none, .d (.pick (.t 30) (.c (.bool true)) (.t 33))⟩])
  (.cond (.t 34) (.seq (.reg [⟨some 2, none, .d (.mv (.c (.bool false)))⟩])
   (.ret)) (.skip)))
  (.seq (.seq (.dreg [] [([], ⟨some 35, none, .d (.load true 2 (.t 6))⟩),
    ([], ⟨some 36, none, .d (.load true 2 (.t 1))⟩),
    ([], ⟨some 37, none, .d (.call (.f f_toState) [(.t 36)])⟩)] [⟨some 38, none, .d (.call (.f f_eqState) [(.t 35), (.t 37)])⟩,
    ⟨some 39, none, .d (.not (.t 38))⟩])
  (.cond (.t 39) (.seq (.reg [⟨some 2, none, .d (.mv (.c (.bool false)))⟩])
   (.ret)) (.skip)))
  (.seq (.reg [⟨some 2, none, .d (.mv (.c (.bool true)))⟩])
  (.ret)))))))))), [.tmp 2]⟩
def n_x_BestLess : Nat → Option Ann := fun _ => none
abbrev k_x_BestLess : List Nat := [0, 1, 2, 3, 4, 5, 6, 7, 8, 13, 34, 39]
abbrev o_x_BestLess : List Nat := [1, 6]
def c_x_BestLess : Con := pure' fun
  | [.p (.agg [v, .int .i64 m])] => match slI v with
    | some x => if x.length ≤ 9223372036854775807 then some (.p (.bool true), []) else none
    | none => none
  | _ => none
set_option maxRecDepth 100000 in
theorem s_x_BestLess {P : Program} (hm : P.follows .mixedOrders = true) {Γ : Gam} (hΓ : GS P Γ) {n : FuncId} {f_szState : FuncId} {f_toState : FuncId} {f_s_BestLess : FuncId} {f_BestLess : FuncId} {f_eqState : FuncId} (is : Is P n (a_x_BestLess f_szState f_toState f_s_BestLess f_BestLess f_eqState)) (h_szState : Γ f_szState = c_szState) (h_toState : Γ f_toState = c_toState) (h_s_BestLess : Γ f_s_BestLess = c_BestLess) (h_BestLess : Γ f_BestLess = c_BestLess) (h_eqState : Γ f_eqState = c_eqState)  : Says P n c_x_BestLess := by
  refine Says.pure fun args r fs h => ?_
  split at h
  case h_2 => cases h
  rename_i v m
  split at h
  case h_2 => cases h
  rename_i x hx
  split at h
  case isFalse => cases h
  rename_i hc
  simp only [Option.some.injEq, Prod.mk.injEq] at h
  obtain ⟨rfl, rfl⟩ := h
  have hlp := slI_lenP hx
  by_cases hk : (1048576 : Int) - (x.length : Int) < 0
  · refine is.go hm hΓ k_x_BestLess o_x_BestLess (by simp [a_x_BestLess]) ?_
    simp only [a_x_BestLess, h_szState, c_szState, h_toState, c_toState, h_s_BestLess, c_BestLess, h_BestLess, c_BestLess, h_eqState, c_eqState, hlp, hc, hk, Int.reduceLE, Int.reduceNeg, Int.reduceLT, List.zipIdx_cons, List.zipIdx_nil, ↓SP, SQ, Gam.add, stepM, callC, argC, lendO, nmBy, nmC, likeL, likeB, plainOb, offs, exL, X, F, trP, trO, stepD, stepW, newA, SV.tr, SV.trL, fz, allP, Ob.tr, loadA, cellsA, SV.cells, binA, binI, eqOut, isSl, isPt, natOf, callee, snap, SV.refsL, SV.refs, thaw, fzAll, loA, hiA, elemOf, partsA, buildA, putCells, ↓reduceIte, reduceCtorEq, okCell, Nat.reduceAdd, Nat.reduceEqDiff, Nat.reduceSub, Nat.reduceMul, Nat.reduceLeDiff, Nat.reduceLT, Nat.reduceBEq, PV.scal, PV.scalL, SV.scal, SV.scalL, Ob.scal, PV.isCell, pure', resO]
    exact finA_val (by simp [retA, rvA, List.mapM_cons, List.mapM_nil, Option.pure_def, Option.bind_eq_bind, Option.bind_some, Option.map_some, mkE_cons, mk_nil, mkO_cons, mkO_nil, loadA, ↓reduceIte, List.take_succ_cons, List.take_zero, List.drop_zero, List.drop_succ_cons, List.length_cons, List.length_nil, Nat.reduceAdd, Nat.reduceEqDiff, Nat.reduceLeDiff, Nat.zero_add, Nat.le_refl, reduceCtorEq, SV.tr, SV.trL, nmF, rn_nil, rn_cons1, rn_cons2, List.map_cons, List.map_nil, List.all_cons, List.all_nil, plainOb, SV.refsL, SV.refs, Ob.refs, X, F, List.range_succ, List.range_zero, List.nil_append, List.cons_append, List.isEmpty_nil, decide_true, Nat.reduceLT, Bool.and_self, Bool.and_true, and_self, and_true, List.getElem?_cons_zero, List.getElem?_cons_succ, List.nodup_cons, List.nodup_nil, List.mem_cons, List.not_mem_nil, not_false_eq_true, or_false, List.append_nil, mkO, setO_mk, List.mem_singleton]) (by simp [SV.tr, SV.trL])
  · have hlen : x.length ≤ 1048576 := by omega
    have hlen2 : x.length ≤ 1100000 := by omega
    generalize hg1 : (if opS x m = true then (kbT m x : Int) else 0) = v1 at *
    generalize hg2 : opS x m = v2 at *
    refine is.go hm hΓ k_x_BestLess o_x_BestLess (by simp [a_x_BestLess]) ?_
    simp only [a_x_BestLess, h_szState, c_szState, h_toState, c_toState, h_s_BestLess, c_BestLess, h_BestLess, c_BestLess, h_eqState, c_eqState, hx, hlp, hc, hk, hlen, hlen2, hg1, hg2, slI_sl, ints_len, beq_self_eq_true, Bool.not_true, Int.reduceLE, Int.reduceNeg, Int.reduceLT, bne_self_eq_false, List.zipIdx_cons, List.zipIdx_nil, ↓SP, SQ, Gam.add, stepM, callC, argC, lendO, nmBy, nmC, likeL, likeB, plainOb, offs, exL, X, F, trP, trO, stepD, stepW, newA, SV.tr, SV.trL, fz, allP, Ob.tr, loadA, cellsA, SV.cells, binA, binI, eqOut, isSl, isPt, natOf, callee, snap, SV.refsL, SV.refs, thaw, fzAll, loA, hiA, elemOf, partsA, buildA, putCells, ↓reduceIte, reduceCtorEq, okCell, Nat.reduceAdd, Nat.reduceEqDiff, Nat.reduceSub, Nat.reduceMul, Nat.reduceLeDiff, Nat.reduceLT, Nat.reduceBEq, PV.scal, PV.scalL, SV.scal, SV.scalL, Ob.scal, PV.isCell, pure', resO]
    exact finA_val (by simp [retA, rvA, List.mapM_cons, List.mapM_nil, Option.pure_def, Option.bind_eq_bind, Option.bind_some, Option.map_some, mkE_cons, mk_nil, mkO_cons, mkO_nil, loadA, ↓reduceIte, List.take_succ_cons, List.take_zero, List.drop_zero, List.drop_succ_cons, List.length_cons, List.length_nil, Nat.reduceAdd, Nat.reduceEqDiff, Nat.reduceLeDiff, Nat.zero_add, Nat.le_refl, reduceCtorEq, SV.tr, SV.trL, nmF, rn_nil, rn_cons1, rn_cons2, List.map_cons, List.map_nil, List.all_cons, List.all_nil, plainOb, SV.refsL, SV.refs, Ob.refs, X, F, List.range_succ, List.range_zero, List.nil_append, List.cons_append, List.isEmpty_nil, decide_true, Nat.reduceLT, Bool.and_self, Bool.and_true, and_self, and_true, List.getElem?_cons_zero, List.getElem?_cons_succ, List.nodup_cons, List.nodup_nil, List.mem_cons, List.not_mem_nil, not_false_eq_true, or_false, List.append_nil, mkO, setO_mk, List.mem_singleton]) (by simp [SV.tr, SV.trL])
def a_x_NeedOfLess (f_szState : FuncId) (f_toState : FuncId) (f_s_NeedOfLess : FuncId) (f_NeedOfLess : FuncId) (f_eqState : FuncId) : AFn := ⟨2, 
  .seq (.reg [⟨some 2, none, .w (.box 2 (.t 0))⟩,
    ⟨some 4, none, .d (.mv (.c (.bool false)))⟩])
  (.seq (.reg [⟨some 5, none, .d (.mv (.c (.int .i64 1048576)))⟩])
  (.seq (.reg [⟨some 11, none, .d (.load true 2 (.t 2))⟩,
    ⟨some 12, none, .d (.mv (.t 5))⟩,
    ⟨some 13, none, .d (.call (.f f_szState) [(.t 11), (.t 12)])⟩,
    ⟨some 5, none, .d (.mv (.t 13))⟩])
  (.seq (.seq (.reg [⟨some 14, none, .d (.mv (.t 5))⟩,
    ⟨some 15, none, .d (.bin .arith .lss (.t 14) (.c (.int .i64 0)))⟩])
  (.cond (.t 15) (.seq (.reg [⟨some 4, none, .d (.mv (.c (.bool true)))⟩])
   (.ret)) (.skip)))
  (.seq (.reg [⟨some 17, none, .d (.load true 2 (.t 2))⟩,
    ⟨some 18, none, .d (.call (.f f_toState) [(.t 17)])⟩,
    ⟨some 19, none, .d (.mv (.t 1))⟩,
    ⟨some 20, none, .d (.call (.f f_s_NeedOfLess) [(.t 18), (.t 19)])⟩,
    ⟨some 16, none, .d (.mv (.t 20))⟩,
    ⟨some 21, none, .d (.extract (.t 16) 0)⟩,
    ⟨some 22, none, .d (.extract (.t 16) 1)⟩,
    ⟨some 6, none, .d (.mv (.t 21))⟩,
    ⟨some 7, none, .d (.mv (.t 22))⟩])
  (.seq (.reg [⟨some 23, none, .d (.load true 2 (.t 2))⟩,
    ⟨some 24, none, .d (.call (.f f_toState) [(.t 23)])⟩,
    ⟨some 8, none, .w (.alloc [.nilsl, .int .i64 0])⟩,
    ⟨none, none, .w (.store 2 (.t 8) (.t 24))⟩])
  (.seq (.reg [⟨some 26, none, .d (.load true 2 (.t 8))⟩,
    ⟨some 27, none, .d (.mv (.t 1))⟩,
    ⟨some 28, none, .d (.call (.f f_NeedOfLess) [(.t 26), (.t 27)])⟩,
    ⟨some 25, none, .d (.mv (.t 28))⟩,
    ⟨some 29, none, .d (.extract (.t 25) 0)⟩,
    ⟨some 30, none, .d (.extract (.t 25) 1)⟩,
    ⟨some 9, none, .d (.mv (.t 29))⟩,
    ⟨some 10, none, .d (.mv (.t 30))⟩])
  (.seq (.seq (.reg [⟨some 31, none, .d (.mv (.t 9))⟩,
    ⟨some 32, none, .d (.mv (.t 6))⟩,
    ⟨some 33, none, .d (.bin .arith .neq (.t 31) (.t 32))⟩,
    ⟨some 34, none, .d (.mv (.t 33))⟩,
    ⟨some 35, some (34, false), .d (.mv (.t 10))⟩,
    ⟨some 36, some (34, false), .d (.mv (.t 7))⟩,
    ⟨some 37, some (34, false), .d (.bin .bool .neq (.t 35) (.t 36))⟩,
    ⟨some 38, none, .d (.pick (.t 34) (.c (.bool true)) (.t 37))⟩])
  (.cond (.t 38) (.seq (.reg [⟨some 4, none, .d (.mv (.c (.bool false)))⟩])
   (.ret)) (.skip)))
  (.seq (.seq (.dreg [] [([], ⟨some 39, none, .d (.load true 2 (.t 8))⟩),
    ([], ⟨some 40, none, .d (.load true 2 (.t 2))⟩),
    ([], ⟨some 41, none, .d (.call (.f f_toState) [(.t 40)])⟩)] [⟨some 42, none, .d (.call (.f f_eqState) [(.t 39), (.t 41)])⟩,
    ⟨some 43, none, .d (.not (.t 42))⟩])
  (.cond (.t 43) (.seq (.reg [⟨some 4, none, .d (.mv (.c (.bool false)))⟩])
   (.ret)) (.skip)))
  (.seq (.reg [⟨some 4, none, .d (.mv (.c (.bool true)))⟩])
  (.ret)))))))))), [.tmp 4]⟩
def n_x_NeedOfLess : Nat → Option Ann := fun _ => none
abbrev k_x_NeedOfLess : List Nat := [0, 1, 2, 4, 5, 6, 7, 8, 9, 10, 15, 38, 43]
abbrev o_x_NeedOfLess : List Nat := [2, 8]
def c_x_NeedOfLess : Con := pure' fun
  | [.p (.agg [v, .int .i64 m]), .p (.int .i64 kk)] => match slI v with
    | some x => if x.length ≤ 9223372036854775807 then some (.p (.bool true), []) else none
    | none => none
  | _ => none
set_option maxRecDepth 100000 in
theorem s_x_NeedOfLess {P : Program} (hm : P.follows .mixedOrders = true) {Γ : Gam} (hΓ : GS P Γ) {n : FuncId} {f_szState : FuncId} {f_toState : FuncId} {f_s_NeedOfLess : FuncId} {f_NeedOfLess : FuncId} {f_eqState : FuncId} (is : Is P n (a_x_NeedOfLess f_szState f_toState f_s_NeedOfLess f_NeedOfLess f_eqState)) (h_szState : Γ f_szState = c_szState) (h_toState : Γ f_toState = c_toState) (h_s_NeedOfLess : Γ f_s_NeedOfLess = c_NeedOfLess) (h_NeedOfLess : Γ f_NeedOfLess = c_NeedOfLess) (h_eqState : Γ f_eqState = c_eqState)  : Says P n c_x_NeedOfLess := by
  refine Says.pure fun args r fs h => ?_
  split at h
  case h_2 => cases h
  rename_i v m kk
  split at h
  case h_2 => cases h
  rename_i x hx
  split at h
  case isFalse => cases h
  rename_i hc
  simp only [Option.some.injEq, Prod.mk.injEq] at h
  obtain ⟨rfl, rfl⟩ := h
  have hlp := slI_lenP hx
  by_cases hk : (1048576 : Int) - (x.length : Int) < 0
  · refine is.go hm hΓ k_x_NeedOfLess o_x_NeedOfLess (by simp [a_x_NeedOfLess]) ?_
    simp only [a_x_NeedOfLess, h_szState, c_szState, h_toState, c_toState, h_s_NeedOfLess, c_NeedOfLess, h_NeedOfLess, c_NeedOfLess, h_eqState, c_eqState, hlp, hc, hk, Int.reduceLE, Int.reduceNeg, Int.reduceLT, List.zipIdx_cons, List.zipIdx_nil, ↓SP, SQ, Gam.add, stepM, callC, argC, lendO, nmBy, nmC, likeL, likeB, plainOb, offs, exL, X, F, trP, trO, stepD, stepW, newA, SV.tr, SV.trL, fz, allP, Ob.tr, loadA, cellsA, SV.cells, binA, binI, eqOut, isSl, isPt, natOf, callee, snap, SV.refsL, SV.refs, thaw, fzAll, loA, hiA, elemOf, partsA, buildA, putCells, ↓reduceIte, reduceCtorEq, okCell, Nat.reduceAdd, Nat.reduceEqDiff, Nat.reduceSub, Nat.reduceMul, Nat.reduceLeDiff, Nat.reduceLT, Nat.reduceBEq, PV.scal, PV.scalL, SV.scal, SV.scalL, Ob.scal, PV.isCell, pure', resO]
    exact finA_val (by simp [retA, rvA, List.mapM_cons, List.mapM_nil, Option.pure_def, Option.bind_eq_bind, Option.bind_some, Option.map_some, mkE_cons, mk_nil, mkO_cons, mkO_nil, loadA, ↓reduceIte, List.take_succ_cons, List.take_zero, List.drop_zero, List.drop_succ_cons, List.length_cons, List.length_nil, Nat.reduceAdd, Nat.reduceEqDiff, Nat.reduceLeDiff, Nat.zero_add, Nat.le_refl, reduceCtorEq, SV.tr, SV.trL, nmF, rn_nil, rn_cons1, rn_cons2, List.map_cons, List.map_nil, List.all_cons, List.all_nil, plainOb, SV.refsL, SV.refs, Ob.refs, X, F, List.range_succ, List.range_zero, List.nil_append, List.cons_append, List.isEmpty_nil, decide_true, Nat.reduceLT, Bool.and_self, Bool.and_true, and_self, and_true, List.getElem?_cons_zero, List.getElem?_cons_succ, List.nodup_cons, List.nodup_nil, List.mem_cons, List.not_mem_nil, not_false_eq_true, or_false, List.append_nil, mkO, setO_mk, List.mem_singleton]) (by simp [SV.tr, SV.trL])
  · have hlen : x.length ≤ 1048576 := by omega
    have hlen2 : x.length ≤ 1100000 := by omega
    generalize hg1 : (if noK x m kk = true then oneT m x kk.toNat else 0) = v1 at *
    generalize hg2 : noK x m kk = v2 at *
    refine is.go hm hΓ k_x_NeedOfLess o_x_NeedOfLess (by simp [a_x_NeedOfLess]) ?_
    simp only [a_x_NeedOfLess, h_szState, c_szState, h_toState, c_toState, h_s_NeedOfLess, c_NeedOfLess, h_NeedOfLess, c_NeedOfLess, h_eqState, c_eqState, hx, hlp, hc, hk, hlen, hlen2, hg1, hg2, slI_sl, ints_len, beq_self_eq_true, Bool.not_true, Int.reduceLE, Int.reduceNeg, Int.reduceLT, bne_self_eq_false, List.zipIdx_cons, List.zipIdx_nil, ↓SP, SQ, Gam.add, stepM, callC, argC, lendO, nmBy, nmC, likeL, likeB, plainOb, offs, exL, X, F, trP, trO, stepD, stepW, newA, SV.tr, SV.trL, fz, allP, Ob.tr, loadA, cellsA, SV.cells, binA, binI, eqOut, isSl, isPt, natOf, callee, snap, SV.refsL, SV.refs, thaw, fzAll, loA, hiA, elemOf, partsA, buildA, putCells, ↓reduceIte, reduceCtorEq, okCell, Nat.reduceAdd, Nat.reduceEqDiff, Nat.reduceSub, Nat.reduceMul, Nat.reduceLeDiff, Nat.reduceLT, Nat.reduceBEq, PV.scal, PV.scalL, SV.scal, SV.scalL, Ob.scal, PV.isCell, pure', resO]
    exact finA_val (by simp [retA, rvA, List.mapM_cons, List.mapM_nil, Option.pure_def, Option.bind_eq_bind, Option.bind_some, Option.map_some, mkE_cons, mk_nil, mkO_cons, mkO_nil, loadA, ↓reduceIte, List.take_succ_cons, List.take_zero, List.drop_zero, List.drop_succ_cons, List.length_cons, List.length_nil, Nat.reduceAdd, Nat.reduceEqDiff, Nat.reduceLeDiff, Nat.zero_add, Nat.le_refl, reduceCtorEq, SV.tr, SV.trL, nmF, rn_nil, rn_cons1, rn_cons2, List.map_cons, List.map_nil, List.all_cons, List.all_nil, plainOb, SV.refsL, SV.refs, Ob.refs, X, F, List.range_succ, List.range_zero, List.nil_append, List.cons_append, List.isEmpty_nil, decide_true, Nat.reduceLT, Bool.and_self, Bool.and_true, and_self, and_true, List.getElem?_cons_zero, List.getElem?_cons_succ, List.nodup_cons, List.nodup_nil, List.mem_cons, List.not_mem_nil, not_false_eq_true, or_false, List.append_nil, mkO, setO_mk, List.mem_singleton]) (by simp [SV.tr, SV.trL])
def a_x_LessTable (f_s_LessTable : FuncId) (f_LessTable : FuncId) (f_eqIntS : FuncId) (f_markIntS : FuncId) (f_heldIntS : FuncId) : AFn := ⟨1, 
  .seq (.reg [⟨some 2, none, .d (.mv (.c (.bool false)))⟩])
  (.seq (.reg [⟨some 12, none, .d (.mv (.t 0))⟩,
    ⟨some 13, none, .d (.call (.f f_s_LessTable) [(.t 12)])⟩,
    ⟨some 11, none, .d (.mv (.t 13))⟩,
    ⟨some 14, none, .d (.extract (.t 11) 0)⟩,
    ⟨some 15, none, .d (.extract (.t 11) 1)⟩,
    ⟨some 3, none, .d (.mv (.t 14))⟩,
    ⟨some 4, none, .d (.mv (.t 15))⟩])
  (.seq (.reg [⟨some 17, none, .d (.mv (.t 0))⟩,
    ⟨some 18, none, .w (.callL (.f f_LessTable) [(.t 17)] [] 1 false)⟩,
    ⟨some 16, none, .d (.mv (.t 18))⟩,
    ⟨some 19, none, .d (.extract (.t 16) 0)⟩,
    ⟨some 20, none, .d (.extract (.t 16) 1)⟩,
    ⟨some 5, none, .d (.mv (.t 19))⟩,
    ⟨some 6, none, .d (.mv (.t 20))⟩])
  (.seq (.seq (.reg [⟨some 21, none, .d (.mv (.t 5))⟩,
    ⟨some 22, none, .d (.mv (.t 3))⟩,
    ⟨some 23, none, .d (.call (.f f_eqIntS) [(.t 21), (.t 22)])⟩,
    ⟨some 24, none, .d (.not (.t 23))⟩,
    ⟨some 25, none, .d (.mv (.t 24))⟩,
    ⟨some 26, some (25, false), .d (.mv (.t 6))⟩,
    ⟨some 27, some (25, false), .d (.mv (.t 4))⟩,
    ⟨some 28, some (25, false), .d (.bin .bool .neq (.t 26) (.t 27))⟩,
    ⟨some 29, none, .d (.pick (.t 25) (.c (.bool true)) (.t 28))⟩])
  (.cond (.t 29) (.seq (.reg [⟨some 2, none, .d (.mv (.c (.bool false)))⟩])
   (.ret)) (.skip)))
  (.seq (.reg [⟨some 7, none, .d (.mv (.c (.int .i64 1)))⟩])
  (.seq (.reg [⟨some 30, none, .d (.mv (.t 5))⟩,
    ⟨some 31, none, .d (.mv (.t 7))⟩,
    ⟨some 32, none, .w (.callL (.f f_markIntS) [(.t 30), (.t 31)] [18] 0 false)⟩,
    ⟨some 7, none, .d (.mv (.t 32))⟩])
  (.seq (.reg [⟨some 8, none, .d (.mv (.c (.int .i64 1)))⟩])
  (.seq (.reg [⟨some 33, none, .d (.mv (.t 5))⟩,
    ⟨some 34, none, .d (.mv (.t 8))⟩,
    ⟨some 35, none, .d (.call (.f f_heldIntS) [(.t 33), (.t 34)])⟩,
    ⟨some 8, none, .d (.mv (.t 35))⟩])
  (.seq (.seq (.reg [⟨some 36, none, .d (.mv (.t 8))⟩,
    ⟨some 37, none, .d (.bin .arith .lss (.t 36) (.c (.int .i64 0)))⟩])
  (.cond (.t 37) (.seq (.reg [⟨some 2, none, .d (.mv (.c (.bool false)))⟩])
   (.ret)) (.skip)))
  (.seq (.seq (.reg [⟨some 38, none, .d (.mv (.t 8))⟩,
    ⟨some 39, none, .d (.mv (.t 7))⟩,
    ⟨some 40, none, .d (.bin .arith .neq (.t 38) (.t 39))⟩])
  (.cond (.t 40) (.seq (.reg [⟨some 2, none, .d (.mv (.c (.bool false)))⟩])
   (.ret)) (.skip)))
  (.seq (.reg [⟨some 42, none, .d (.mv (.t 0))⟩,
    ⟨some 43, none, .d (.call (.f f_LessTable) [(.t 42)])⟩,
    ⟨some 41, none, .d (.mv (.t 43))⟩,
    ⟨some 44, none, .d (.extract (.t 41) 0)⟩,
    ⟨some 45, none, .d (.extract (.t 41) 1)⟩,
    ⟨some 9, none, .d (.mv (.t 44))⟩,
    ⟨some 10, none, .d (.mv (.t 45))⟩])
  (.seq (.seq (.reg [⟨some 46, none, .d (.mv (.t 9))⟩,
    ⟨some 47, none, .d (.mv (.t 3))⟩,
    ⟨some 48, none, .d (.call (.f f_eqIntS) [(.t 46), (.t 47)])⟩,
    ⟨some 49, none, .d (.not (.t 48))⟩,
    ⟨some 50, none, .d (.mv (.t 49))⟩,
    ⟨some 51, some (50, false), .d (.mv (.t 10))⟩,
    ⟨some 52, some (50, false), .d (.mv (.t 4))⟩,
    ⟨some 53, some (50, false), .d (.bin .bool .neq (.t 51) (.t 52))⟩,
    ⟨some 54, none, .d (.pick (.t 50) (.c (.bool true)) (.t 53))⟩])
  (.cond (.t 54) (.seq (.reg [⟨some 2, none, .d (.mv (.c (.bool false)))⟩])
   (.ret)) (.skip)))
  (.seq (.reg [⟨some 8, none, .d (.mv (.c (.int .i64 1)))⟩])
  (.seq (.reg [⟨some 55, none, .d (.mv (.t 5))⟩,
    ⟨some 56, none, .d (.mv (.t 8))⟩,
    ⟨some 57, none, .d (.call (.f f_heldIntS) [(.t 55), (.t 56)])⟩,
    ⟨some 8, none, .d (.mv (.t 57))⟩])
  (.seq (.seq (.reg [⟨some 58, none, .d (.mv (.t 8))⟩,
    ⟨some 59, none, .d (.bin .arith .lss (.t 58) (.c (.int .i64 0)))⟩])
  (.cond (.t 59) (.seq (.reg [⟨some 2, none, .d (.mv (.c (.bool false)))⟩])
   (.ret)) (.skip)))
  (.seq (.seq (.reg [⟨some 60, none, .d (.mv (.t 8))⟩,
    ⟨some 61, none, .d (.mv (.t 7))⟩,
    ⟨some 62, none, .d (.bin .arith .neq (.t 60) (.t 61))⟩])
  (.cond (.t 62) (.seq (.reg [⟨some 2, none, .d (.mv (.c (.bool false)))⟩])
   (.ret)) (.skip)))
  (.seq (.reg [⟨some 2, none, .d (.mv (.c (.bool true)))⟩])
  (.ret))))))))))))))))), [.tmp 2]⟩
def n_x_LessTable : Nat → Option Ann := fun d => if d = 18 then some ⟨[], 1, false⟩ else if d = 32 then some ⟨[18], 0, false⟩ else none
abbrev k_x_LessTable : List Nat := [0, 2, 3, 4, 5, 6, 7, 8, 9, 10, 29, 37, 40, 54, 59, 62]
abbrev o_x_LessTable : List Nat := [18]
def c_x_LessTable : Con := pure' fun
  | [.p (.int .i64 m)] => if (True) then some (.p (.bool true), []) else none
  | _ => none
set_option maxRecDepth 100000 in
theorem s_x_LessTable {P : Program} (hm : P.follows .mixedOrders = true) {Γ : Gam} (hΓ : GS P Γ) {n : FuncId} {f_s_LessTable : FuncId} {f_LessTable : FuncId} {f_eqIntS : FuncId} {f_markIntS : FuncId} {f_heldIntS : FuncId} (is : Is P n (a_x_LessTable f_s_LessTable f_LessTable f_eqIntS f_markIntS f_heldIntS)) (h_s_LessTable : Γ f_s_LessTable = c_s_LessTable) (h_LessTable : Γ f_LessTable = c_LessTable) (h_eqIntS : Γ f_eqIntS = c_eqIntS) (h_markIntS : Γ f_markIntS = c_markIntS) (h_heldIntS : Γ f_heldIntS = c_heldIntS)  : Says P n c_x_LessTable := by
  refine Says.pure fun args r fs h => ?_
  split at h
  case h_2 => cases h
  rename_i m
  split at h
  case isFalse => cases h
  rename_i hc
  simp only [ofI_ints, ofBo_bools, ofAs_asks, Option.some.injEq, Prod.mk.injEq] at h hc
  obtain ⟨rfl, rfl⟩ := h
  generalize hgy : taF (ltF m) 5 = y at *
  have q4 : y.length ≤ 1100000 := by rw [← hgy, taF_len]; omega
  have q5 : y.length ≤ 1048576 := by rw [← hgy, taF_len]; omega
  have hmy := marks_len 1 y.length
  have hhy := held_marks 1 y.length
  have q3 : ¬ (1 : Int) + y.length < 0 := by omega
  have hnb : held [] 1 := fun j hj => by simp at hj
  cases hg2 : (decide (0 ≤ m) && decide (m ≤ 1)) with
  | true =>
    refine is.go hm hΓ k_x_LessTable o_x_LessTable (by simp [a_x_LessTable]) ?_
    simp only [a_x_LessTable, h_s_LessTable, c_s_LessTable, h_LessTable, c_LessTable, h_eqIntS, c_eqIntS, h_markIntS, c_markIntS, h_heldIntS, c_heldIntS, hgy, hg2, q3, q4, q5, hmy, hhy, ints_len, slI_sl, beq_self_eq_true, Bool.not_true, Int.reduceLE, Int.reduceNeg, Int.reduceLT, bne_self_eq_false, List.zipIdx_cons, List.zipIdx_nil, ↓SP, SQ, Gam.add, stepM, callC, argC, lendO, nmBy, nmC, likeL, likeB, plainOb, offs, exL, X, F, trP, trO, stepD, stepW, newA, SV.tr, SV.trL, fz, allP, Ob.tr, loadA, cellsA, SV.cells, binA, binI, eqOut, isSl, isPt, natOf, callee, snap, SV.refsL, SV.refs, thaw, fzAll, loA, hiA, elemOf, partsA, buildA, putCells, ↓reduceIte, reduceCtorEq, okCell, Nat.reduceAdd, Nat.reduceEqDiff, Nat.reduceSub, Nat.reduceMul, Nat.reduceLeDiff, Nat.reduceLT, Nat.reduceBEq, PV.scal, PV.scalL, SV.scal, SV.scalL, Ob.scal, PV.isCell, pure', resO]
    exact finA_val (by simp [retA, rvA, List.mapM_cons, List.mapM_nil, Option.pure_def, Option.bind_eq_bind, Option.bind_some, Option.map_some, mkE_cons, mk_nil, mkO_cons, mkO_nil, loadA, ↓reduceIte, List.take_succ_cons, List.take_zero, List.drop_zero, List.drop_succ_cons, List.length_cons, List.length_nil, Nat.reduceAdd, Nat.reduceEqDiff, Nat.reduceLeDiff, Nat.zero_add, Nat.le_refl, reduceCtorEq, SV.tr, SV.trL, nmF, rn_nil, rn_cons1, rn_cons2, List.map_cons, List.map_nil, List.all_cons, List.all_nil, plainOb, SV.refsL, SV.refs, Ob.refs, X, F, List.range_succ, List.range_zero, List.nil_append, List.cons_append, List.isEmpty_nil, decide_true, Nat.reduceLT, Bool.and_self, Bool.and_true, and_self, and_true, List.getElem?_cons_zero, List.getElem?_cons_succ, List.nodup_cons, List.nodup_nil, List.mem_cons, List.not_mem_nil, not_false_eq_true, or_false, List.append_nil, mkO, setO_mk, List.mem_singleton]) (by simp [SV.tr, SV.trL])
  | false =>
    refine is.go hm hΓ k_x_LessTable o_x_LessTable (by simp [a_x_LessTable]) ?_
    simp only [a_x_LessTable, h_s_LessTable, c_s_LessTable, h_LessTable, c_LessTable, h_eqIntS, c_eqIntS, h_markIntS, c_markIntS, h_heldIntS, c_heldIntS, hgy, hg2, hnb, ints_len, slI_sl, slI_nil, Bool.false_eq_true, beq_self_eq_true, Bool.not_true, Int.reduceLE, Int.reduceNeg, Int.reduceLT, bne_self_eq_false, List.zipIdx_cons, List.zipIdx_nil, ↓SP, SQ, Gam.add, stepM, callC, argC, lendO, nmBy, nmC, likeL, likeB, plainOb, offs, exL, X, F, trP, trO, stepD, stepW, newA, SV.tr, SV.trL, fz, allP, Ob.tr, loadA, cellsA, SV.cells, binA, binI, eqOut, isSl, isPt, natOf, callee, snap, SV.refsL, SV.refs, thaw, fzAll, loA, hiA, elemOf, partsA, buildA, putCells, ↓reduceIte, reduceCtorEq, okCell, Nat.reduceAdd, Nat.reduceEqDiff, Nat.reduceSub, Nat.reduceMul, Nat.reduceLeDiff, Nat.reduceLT, Nat.reduceBEq, PV.scal, PV.scalL, SV.scal, SV.scalL, Ob.scal, PV.isCell, pure', resO]
    exact finA_val (by simp [retA, rvA, List.mapM_cons, List.mapM_nil, Option.pure_def, Option.bind_eq_bind, Option.bind_some, Option.map_some, mkE_cons, mk_nil, mkO_cons, mkO_nil, loadA, ↓reduceIte, List.take_succ_cons, List.take_zero, List.drop_zero, List.drop_succ_cons, List.length_cons, List.length_nil, Nat.reduceAdd, Nat.reduceEqDiff, Nat.reduceLeDiff, Nat.zero_add, Nat.le_refl, reduceCtorEq, SV.tr, SV.trL, nmF, rn_nil, rn_cons1, rn_cons2, List.map_cons, List.map_nil, List.all_cons, List.all_nil, plainOb, SV.refsL, SV.refs, Ob.refs, X, F, List.range_succ, List.range_zero, List.nil_append, List.cons_append, List.isEmpty_nil, decide_true, Nat.reduceLT, Bool.and_self, Bool.and_true, and_self, and_true, List.getElem?_cons_zero, List.getElem?_cons_succ, List.nodup_cons, List.nodup_nil, List.mem_cons, List.not_mem_nil, not_false_eq_true, or_false, List.append_nil, mkO, setO_mk, List.mem_singleton]) (by simp [SV.tr, SV.trL])
end Go.Proofs.Ytgnclbdhpdjafaa.Pam
