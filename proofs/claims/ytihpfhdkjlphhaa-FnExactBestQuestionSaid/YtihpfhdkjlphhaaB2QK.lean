/- A part of the proof that stands in this folder: a small machine whose steps are shown to be the steps of the model, or walks of functions by it. No condition of its own. -/
import Derived.Test.YtihpfhdkjlphhaaB2QJ
set_option linter.unusedVariables false
set_option linter.unusedSimpArgs false
namespace Go.Proofs.Ytihpfhdkjlphhaa.Pam
open Go
def a_x_BestQuestion (f_szState : FuncId) (f_toState : FuncId) (f_s_BestQuestion : FuncId) (f_BestQuestion : FuncId) (f_eqState : FuncId) : AFn := ⟨1, 
  .seq (.reg [⟨some 1, none, .w (.box 2 (.t 0))⟩,
    ⟨some 2, none, .d (.mv (.c (.bool false)))⟩])
  (.seq (.reg [⟨some 3, none, .d (.mv (.c (.int .i64 1048576)))⟩])
  (.seq (.reg [⟨some 9, none, .d (.load true 2 (.t 1))⟩,
    ⟨some 10, none, .d (.mv (.t 3))⟩,
    ⟨some 11, none, .d (.call (.f f_szState) [(.t 9), (.t 10)])⟩,
    ⟨some 3, none, .d (.mv (.t 11))⟩])
  (.seq (.seq (.reg [⟨some 12, none, .d (.mv (.t 3))⟩,
    ⟨some 13, none, .d (.bin .arith .lss (.t 12) (.c (.int .i64 0)))⟩])
  (.cond (.t 13) (.seq (.reg [⟨some 2, none, .d (.mv (.c (.bool true)))⟩])
   (.ret)) (.skip)))
  (.seq (.reg [⟨some 15, none, .d (.load true 2 (.t 1))⟩,
    ⟨some 16, none, .d (.call (.f f_toState) [(.t 15)])⟩,
    ⟨some 17, none, .d (.call (.f f_s_BestQuestion) [(.t 16)])⟩,
    ⟨some 14, none, .d (.mv (.t 17))⟩,
    ⟨some 18, none, .d (.extract (.t 14) 0)⟩,
    ⟨some 19, none, .d (.extract (.t 14) 1)⟩,
    ⟨some 4, none, .d (.mv (.t 18))⟩,
    ⟨some 5, none, .d (.mv (.t 19))⟩])
  (.seq (.reg [⟨some 20, none, .d (.load true 2 (.t 1))⟩,
    ⟨some 21, none, .w (.callL (.f f_toState) [(.t 20)] [] 1 false)⟩,
    ⟨some 6, none, .w (.alloc [.nilsl, .int .i64 0])⟩,
    ⟨none, none, .w (.store 2 (.t 6) (.t 21))⟩])
  (.seq (.reg [⟨some 23, none, .d (.load true 2 (.t 6))⟩,
    ⟨some 24, none, .w (.callL (.f f_BestQuestion) [(.t 23)] [21] 0 false)⟩,
    ⟨some 22, none, .d (.mv (.t 24))⟩,
    ⟨some 25, none, .d (.extract (.t 22) 0)⟩,
    ⟨some 26, none, .d (.extract (.t 22) 1)⟩,
    ⟨some 7, none, .d (.mv (.t 25))⟩,
    ⟨some 8, none, .d (.mv (.t 26))⟩])
  (.seq (.seq (.reg [⟨some 27, none, .d (.mv (.t 7))⟩,
    ⟨some 28, none, .d (.mv (.t 4))⟩,
    ⟨some 29, none, .d (.bin .arith .neq (.t 27) (.t 28))⟩,
    ⟨some 30, none, .d (.mv (.t 29))⟩,
    ⟨some 31, some (30, false), .d (.mv (.t 8))⟩,
    ⟨some 32, some (30, false), .d (.mv (.t 5))⟩,
    ⟨some 33, some (30, false), .d (.bin .bool .neq (.t 31) (.t 32))⟩,
    ⟨some 34, none, .d (.pick (.t 30) (.c (.bool true)) (.t 33))⟩])
  (.cond (.t 34) (.seq (.reg [⟨some 2, none, .d (.mv (.c (.bool false)))⟩])
   (.ret)) (.skip)))
  (.seq (.seq (.dreg [] [([], ⟨some 35, none, .d (.load true 2 (.t 6))⟩),
    ([], ⟨some 36, none, .d (.load true 2 (.t 1))⟩),
    ([], ⟨some 37, none, .d (.call (.f f_toState) [(.t 36)])⟩)] [⟨some 38, none, .d (.call (.f f_eqState) [(.t 35), (.t 37)])⟩,
    ⟨some 39, none, .d (.not (.t 38))⟩])
  (.cond (.t 39) (.seq (.reg [⟨some 2, none, .d (.mv (.c (.bool false)))⟩])
   (.ret)) (.skip)))
  (.seq (.reg [⟨some 2, none, .d (.mv (.c (.bool true)))⟩])
  (.ret)))))))))), [.tmp 2]⟩
def n_x_BestQuestion : Nat → Option Ann := fun d => if d = 21 then some ⟨[], 1, false⟩ else if d = 24 then some ⟨[21], 0, false⟩ else none
abbrev k_x_BestQuestion : List Nat := [0, 1, 2, 3, 4, 5, 6, 7, 8, 13, 34, 39]
abbrev o_x_BestQuestion : List Nat := [1, 6, 21]
def c_x_BestQuestion : Con := pure' fun
  | [.p (.agg [v, .int .i64 m])] => match slI v with
    | some x => if x.length ≤ 9223372036854775807 then some (.p (.bool true), []) else none
    | none => none
  | _ => none
set_option maxRecDepth 100000 in
theorem s_x_BestQuestion {P : Program} (hm : P.follows .mixedOrders = true) {Γ : Gam} (hΓ : GS P Γ) {n : FuncId} {f_szState : FuncId} {f_toState : FuncId} {f_s_BestQuestion : FuncId} {f_BestQuestion : FuncId} {f_eqState : FuncId} (is : Is P n (a_x_BestQuestion f_szState f_toState f_s_BestQuestion f_BestQuestion f_eqState)) (h_szState : Γ f_szState = c_szState) (h_toState : Γ f_toState = c_toState) (h_s_BestQuestion : Γ f_s_BestQuestion = c_s_BestQuestion) (h_BestQuestion : Γ f_BestQuestion = c_BestQuestion) (h_eqState : Γ f_eqState = c_eqState)  : Says P n c_x_BestQuestion := by
  refine Says.pure fun args r fs h => ?_
  split at h
  case h_2 => cases h
  rename_i v m
  split at h
  case h_2 => cases h
  rename_i x hx
  split at h
  case isFalse => cases h
  rename_i hc
  simp only [Option.some.injEq, Prod.mk.injEq] at h
  obtain ⟨rfl, rfl⟩ := h
  have hlp := slI_lenP hx
  by_cases hk : (1048576 : Int) - (x.length : Int) < 0
  · refine is.go hm hΓ k_x_BestQuestion o_x_BestQuestion (by simp [a_x_BestQuestion]) ?_
    simp only [a_x_BestQuestion, h_szState, c_szState, h_toState, c_toState, h_s_BestQuestion, c_s_BestQuestion, h_BestQuestion, c_BestQuestion, h_eqState, c_eqState, hlp, hc, hk, Int.reduceLE, Int.reduceNeg, Int.reduceLT, List.zipIdx_cons, List.zipIdx_nil, ↓SP, SQ, Gam.add, stepM, callC, argC, lendO, nmBy, nmC, likeL, likeB, plainOb, offs, exL, X, F, trP, trO, stepD, stepW, newA, SV.tr, SV.trL, fz, allP, Ob.tr, loadA, cellsA, SV.cells, binA, binI, eqOut, isSl, isPt, natOf, callee, snap, SV.refsL, SV.refs, thaw, fzAll, loA, hiA, elemOf, partsA, buildA, putCells, ↓reduceIte, reduceCtorEq, okCell, Nat.reduceAdd, Nat.reduceEqDiff, Nat.reduceSub, Nat.reduceMul, Nat.reduceLeDiff, Nat.reduceLT, Nat.reduceBEq, PV.scal, PV.scalL, SV.scal, SV.scalL, Ob.scal, PV.isCell, pure', resO]
    exact finA_val (by simp [retA, rvA, mkE_cons, mk_nil, mkO_cons, mkO_nil, loadA, SV.tr, SV.trL, nmF, rn_nil, rn_cons1, rn_cons2, plainOb, SV.refsL, SV.refs, Ob.refs, X, F, List.range_succ, mkO, setO_mk]) (by simp [SV.tr, SV.trL])
  · have hlen : x.length ≤ 1048576 := by omega
    have hlen2 : x.length ≤ 1100000 := by omega
    generalize hg1 : (if bqOk x m = true then bqQ x m else 0) = v1 at *
    generalize hg2 : bqOk x m = v2 at *
    refine is.go hm hΓ k_x_BestQuestion o_x_BestQuestion (by simp [a_x_BestQuestion]) ?_
    simp only [a_x_BestQuestion, h_szState, c_szState, h_toState, c_toState, h_s_BestQuestion, c_s_BestQuestion, h_BestQuestion, c_BestQuestion, h_eqState, c_eqState, hx, hlp, hc, hk, hlen, hlen2, hg1, hg2, slI_sl, ints_len, isI_ints, ofI_ints, beq_self_eq_true, Bool.not_true, Int.reduceLE, Int.reduceNeg, Int.reduceLT, bne_self_eq_false, List.zipIdx_cons, List.zipIdx_nil, ↓SP, SQ, Gam.add, stepM, callC, argC, lendO, nmBy, nmC, likeL, likeB, plainOb, offs, exL, X, F, trP, trO, stepD, stepW, newA, SV.tr, SV.trL, fz, allP, Ob.tr, loadA, cellsA, SV.cells, binA, binI, eqOut, isSl, isPt, natOf, callee, snap, SV.refsL, SV.refs, thaw, fzAll, loA, hiA, elemOf, partsA, buildA, putCells, ↓reduceIte, reduceCtorEq, okCell, Nat.reduceAdd, Nat.reduceEqDiff, Nat.reduceSub, Nat.reduceMul, Nat.reduceLeDiff, Nat.reduceLT, Nat.reduceBEq, PV.scal, PV.scalL, SV.scal, SV.scalL, Ob.scal, PV.isCell, pure', resO]
    exact finA_val (by simp [retA, rvA, mkE_cons, mk_nil, mkO_cons, mkO_nil, loadA, SV.tr, SV.trL, nmF, rn_nil, rn_cons1, rn_cons2, plainOb, SV.refsL, SV.refs, Ob.refs, X, F, List.range_succ, mkO, setO_mk]) (by simp [SV.tr, SV.trL])
end Go.Proofs.Ytihpfhdkjlphhaa.Pam
