/- A part of the proof that stands in this folder: a small machine whose steps are shown to be the steps of the model, or walks of functions by it. No condition of its own. -/
import Derived.Test.YtmbljmolegalhaaGaOG
set_option linter.unusedVariables false
set_option linter.unusedSimpArgs false
namespace Go.Proofs.Ytmbljmolegalhaa.Pam
open Go
def a_isDrawn (f_in : FuncId) : AFn := ⟨1, 
  .seq (.reg [⟨some 2, none, .d (.mv (.c (.bool false)))⟩])
  (.seq (.reg [⟨some 3, none, .d (.mv (.t 0))⟩,
    ⟨some 4, none, .d (.call (.f f_in) [(.t 3), (.c (.int .i64 0)), (.c (.int .i64 12))])⟩,
    ⟨some 2, none, .d (.mv (.t 4))⟩])
  (.ret)), [.tmp 2]⟩
def n_isDrawn : Nat → Option Ann := fun _ => none
abbrev k_isDrawn : List Nat := [0, 2]
abbrev o_isDrawn : List Nat := []
def c_isDrawn : Con := pure' fun
  | [.p (.int .i64 m)] => if (True) then some (.p (.bool (decide (0 ≤ m) && decide (m ≤ 12))), []) else none
  | _ => none
theorem s_isDrawn {P : Program} (hm : P.follows .mixedOrders = true) {Γ : Gam} (hΓ : GS P Γ) {n : FuncId} {f_in : FuncId} (is : Is P n (a_isDrawn f_in)) (h_in : Γ f_in = c_in)  : Says P n c_isDrawn := by
  refine Says.pure fun args r fs h => ?_
  split at h
  case h_2 => cases h
  rename_i m
  split at h
  case isFalse => cases h
  rename_i hc
  simp only [ofI_ints, ofBo_bools, ofAs_asks, Option.some.injEq, Prod.mk.injEq] at h hc
  obtain ⟨rfl, rfl⟩ := h
  refine is.go hm hΓ k_isDrawn o_isDrawn (by simp [a_isDrawn]) ?_
  simp only [a_isDrawn, h_in, c_in, List.zipIdx_cons, List.zipIdx_nil, ↓SP, SQ, Gam.add, stepM, callC, argC, lendO, nmBy, nmC, likeL, likeB, plainOb, offs, exL, X, F, trP, trO, stepD, stepW, newA, SV.tr, SV.trL, fz, allP, Ob.tr, loadA, cellsA, SV.cells, binA, binI, eqOut, isSl, isPt, natOf, callee, snap, SV.refsL, SV.refs, thaw, fzAll, loA, hiA, elemOf, partsA, buildA, putCells, ↓reduceIte, reduceCtorEq, okCell, Nat.reduceAdd, Nat.reduceEqDiff, Nat.reduceSub, Nat.reduceMul, Nat.reduceLeDiff, Nat.reduceLT, Nat.reduceBEq, PV.scal, PV.scalL, SV.scal, SV.scalL, Ob.scal, PV.isCell, pure', resO]
  exact finA_val (by simp [retA, rvA, mkE_cons, mk_nil, mkO_cons, mkO_nil, loadA, SV.tr, SV.trL, nmF, rn_nil, rn_cons1, rn_cons2, plainOb, SV.refsL, SV.refs, Ob.refs, X, F, List.range_succ, mkO, setO_mk]) (by simp [SV.tr, SV.trL])
def a_l7Drawn (f_l7Good : FuncId) (f_l1In : FuncId) : AFn := ⟨3, 
  .seq (.reg [⟨some 5, none, .w (.box 2 (.t 2))⟩,
    ⟨some 6, none, .d (.mv (.c (.bool false)))⟩])
  (.seq (.reg [⟨some 7, none, .d (.load true 2 (.t 5))⟩,
    ⟨some 8, none, .d (.call (.f f_l7Good) [(.t 7)])⟩,
    ⟨some 9, none, .d (.mv (.t 8))⟩,
    ⟨some 10, some (9, true), .d (.mv (.t 0))⟩,
    ⟨some 11, some (9, true), .d (.call (.f f_l1In) [(.t 10), (.c (.int .i64 0)), (.c (.int .i64 12))])⟩,
    ⟨some 12, none, .d (.pick (.t 9) (.t 11) (.c (.bool false)))⟩,
    ⟨some 13, none, .d (.mv (.t 12))⟩,
    ⟨some 14, some (13, true), .d (.mv (.t 1))⟩,
    ⟨some 15, some (13, true), .d (.mv (.t 0))⟩,
    ⟨some 16, some (13, true), .d (.call (.f f_l1In) [(.t 14), (.c (.int .i64 0)), (.t 15)])⟩,
    ⟨some 17, none, .d (.pick (.t 13) (.t 16) (.c (.bool false)))⟩,
    ⟨some 6, none, .d (.mv (.t 17))⟩])
  (.ret)), [.tmp 6]⟩
def n_l7Drawn : Nat → Option Ann := fun _ => none
abbrev k_l7Drawn : List Nat := [0, 1, 2, 5, 6]
abbrev o_l7Drawn : List Nat := [5]
/-- Numbers of answers and a doubt that are right. -/
def vD (m k s o : Int) : Bool := isD s o && (decide (0 ≤ m) && decide (m ≤ 12)) && (decide (0 ≤ k) && decide (k ≤ m))
theorem vD_out {m k s o : Int} (h : vD m k s o = true) : isD s o = true ∧ (0 ≤ m ∧ m ≤ 12) ∧ 0 ≤ k ∧ k ≤ m := by
  simp only [vD, Bool.and_eq_true, decide_eq_true_eq] at h
  exact ⟨h.1.1, h.1.2, h.2⟩
def c_l7Drawn : Con := pure' fun
  | [.p (.int .i64 m), .p (.int .i64 k), .p (.agg [.int .i64 s, .int .i64 o])] => if (True) then some (.p (.bool (vD m k s o)), []) else none
  | _ => none
theorem s_l7Drawn {P : Program} (hm : P.follows .mixedOrders = true) {Γ : Gam} (hΓ : GS P Γ) {n : FuncId} {f_l7Good : FuncId} {f_l1In : FuncId} (is : Is P n (a_l7Drawn f_l7Good f_l1In)) (h_l7Good : Γ f_l7Good = c_IsDoubt) (h_l1In : Γ f_l1In = c_in)  : Says P n c_l7Drawn := by
  refine Says.pure fun args r fs h => ?_
  split at h
  case h_2 => cases h
  rename_i m k s o
  split at h
  case isFalse => cases h
  rename_i hc
  simp only [ofI_ints, ofBo_bools, ofAs_asks, Option.some.injEq, Prod.mk.injEq] at h hc
  obtain ⟨rfl, rfl⟩ := h
  cases h1 : isD s o with
  | false =>
    refine is.go hm hΓ k_l7Drawn o_l7Drawn (by simp [a_l7Drawn]) ?_
    simp only [a_l7Drawn, h_l7Good, c_IsDoubt, h_l1In, c_in, h1, List.zipIdx_cons, List.zipIdx_nil, ↓SP, SQ, Gam.add, stepM, callC, argC, lendO, nmBy, nmC, likeL, likeB, plainOb, offs, exL, X, F, trP, trO, stepD, stepW, newA, SV.tr, SV.trL, fz, allP, Ob.tr, loadA, cellsA, SV.cells, binA, binI, eqOut, isSl, isPt, natOf, callee, snap, SV.refsL, SV.refs, thaw, fzAll, loA, hiA, elemOf, partsA, buildA, putCells, ↓reduceIte, reduceCtorEq, okCell, Nat.reduceAdd, Nat.reduceEqDiff, Nat.reduceSub, Nat.reduceMul, Nat.reduceLeDiff, Nat.reduceLT, Nat.reduceBEq, PV.scal, PV.scalL, SV.scal, SV.scalL, Ob.scal, PV.isCell, pure', resO]
    exact finA_val (by simp [vD, h1, retA, rvA, mkE_cons, mk_nil, mkO_cons, mkO_nil, loadA, SV.tr, SV.trL, nmF, rn_nil, rn_cons1, rn_cons2, plainOb, SV.refsL, SV.refs, Ob.refs, X, F, List.range_succ, mkO, setO_mk]) (by simp [SV.tr, SV.trL])
  | true =>
    cases h2 : (decide (0 ≤ m) && decide (m ≤ 12)) with
    | false =>
      refine is.go hm hΓ k_l7Drawn o_l7Drawn (by simp [a_l7Drawn]) ?_
      simp only [a_l7Drawn, h_l7Good, c_IsDoubt, h_l1In, c_in, h1, h2, List.zipIdx_cons, List.zipIdx_nil, ↓SP, SQ, Gam.add, stepM, callC, argC, lendO, nmBy, nmC, likeL, likeB, plainOb, offs, exL, X, F, trP, trO, stepD, stepW, newA, SV.tr, SV.trL, fz, allP, Ob.tr, loadA, cellsA, SV.cells, binA, binI, eqOut, isSl, isPt, natOf, callee, snap, SV.refsL, SV.refs, thaw, fzAll, loA, hiA, elemOf, partsA, buildA, putCells, ↓reduceIte, reduceCtorEq, okCell, Nat.reduceAdd, Nat.reduceEqDiff, Nat.reduceSub, Nat.reduceMul, Nat.reduceLeDiff, Nat.reduceLT, Nat.reduceBEq, PV.scal, PV.scalL, SV.scal, SV.scalL, Ob.scal, PV.isCell, pure', resO]
      exact finA_val (by simp [vD, h1, h2, retA, rvA, mkE_cons, mk_nil, mkO_cons, mkO_nil, loadA, SV.tr, SV.trL, nmF, rn_nil, rn_cons1, rn_cons2, plainOb, SV.refsL, SV.refs, Ob.refs, X, F, List.range_succ, mkO, setO_mk]) (by simp [SV.tr, SV.trL])
    | true =>
      refine is.go hm hΓ k_l7Drawn o_l7Drawn (by simp [a_l7Drawn]) ?_
      simp only [a_l7Drawn, h_l7Good, c_IsDoubt, h_l1In, c_in, h1, h2, List.zipIdx_cons, List.zipIdx_nil, ↓SP, SQ, Gam.add, stepM, callC, argC, lendO, nmBy, nmC, likeL, likeB, plainOb, offs, exL, X, F, trP, trO, stepD, stepW, newA, SV.tr, SV.trL, fz, allP, Ob.tr, loadA, cellsA, SV.cells, binA, binI, eqOut, isSl, isPt, natOf, callee, snap, SV.refsL, SV.refs, thaw, fzAll, loA, hiA, elemOf, partsA, buildA, putCells, ↓reduceIte, reduceCtorEq, okCell, Nat.reduceAdd, Nat.reduceEqDiff, Nat.reduceSub, Nat.reduceMul, Nat.reduceLeDiff, Nat.reduceLT, Nat.reduceBEq, PV.scal, PV.scalL, SV.scal, SV.scalL, Ob.scal, PV.isCell, pure', resO]
      exact finA_val (by simp [vD, h1, h2, retA, rvA, mkE_cons, mk_nil, mkO_cons, mkO_nil, loadA, SV.tr, SV.trL, nmF, rn_nil, rn_cons1, rn_cons2, plainOb, SV.refsL, SV.refs, Ob.refs, X, F, List.range_succ, mkO, setO_mk]) (by simp [SV.tr, SV.trL])
/-- A fraction, cut. -/
def cuF (a b : Nat) : Int × Int := (frN a b, frD a b)
def cfV (m k s o : Int) : Int × Int := if vD m k s o = true then cuF (Wn m.toNat k.toNat * partN s.toNat o.toNat m.toNat k.toNat) (o.toNat ^ m.toNat) else (0, 0)
def cwV (m k s o : Int) : Int × Int := if vD m k s o = true then cuF (inB s.toNat o.toNat m.toNat (k.toNat + 1)) (o.toNat ^ m.toNat) else (0, 0)
def cmV (m s o : Int) : Int × Int := if vD m 0 s o = true then cuF (m.toNat * s.toNat) o.toNat else (0, 0)
def vM (m s o : Int) : Bool := decide (1 ≤ m) && decide (m ≤ 12) && isD s o
def caV (m s o : Int) : Int × Int := if vM m s o = true then cuF (inB s.toNat o.toNat m.toNat ((m.toNat - 1) / 2 + 1)) (o.toNat ^ m.toNat) else (0, 0)
def a_ChanceFalse (f_isDrawn : FuncId) (f_in : FuncId) (f_IsDoubt : FuncId) (f_ofAny : FuncId) (f_dOf : FuncId) : AFn := ⟨3, 
  .seq (.reg [⟨some 5, none, .w (.box 2 (.t 2))⟩,
    ⟨some 6, none, .w (.alloc [.int .i64 0, .int .i64 0])⟩,
    ⟨some 7, none, .d (.mv (.c (.bool false)))⟩])
  (.seq (.seq (.reg [⟨some 8, none, .d (.mv (.t 0))⟩,
    ⟨some 9, none, .d (.call (.f f_isDrawn) [(.t 8)])⟩,
    ⟨some 10, none, .d (.not (.t 9))⟩,
    ⟨some 11, none, .d (.mv (.t 10))⟩,
    ⟨some 12, some (11, false), .d (.mv (.t 1))⟩,
    ⟨some 13, some (11, false), .d (.mv (.t 0))⟩,
    ⟨some 14, some (11, false), .d (.call (.f f_in) [(.t 12), (.c (.int .i64 0)), (.t 13)])⟩,
    ⟨some 15, some (11, false), .d (.not (.t 14))⟩,
    ⟨some 16, none, .d (.pick (.t 11) (.c (.bool true)) (.t 15))⟩,
    ⟨some 17, none, .d (.mv (.t 16))⟩,
    ⟨some 18, some (17, false), .d (.load true 2 (.t 5))⟩,
    ⟨some 19, some (17, false), .d (.call (.f f_IsDoubt) [(.t 18)])⟩,
    ⟨some 20, some (17, false), .d (.not (.t 19))⟩,
    ⟨some 21, none, .d (.pick (.t 17) (.c (.bool true)) (.t 20))⟩])
  (.cond (.t 21) (.seq (.reg [⟨some 22, none, .d (.build [.int .i64 0, .int .i64 0] [])⟩,
     ⟨none, none, .w (.store 2 (.t 6) (.t 22))⟩,
     ⟨some 7, none, .d (.mv (.c (.bool false)))⟩])
   (.ret)) (.skip)))
  (.seq (.dreg [] [([], ⟨some 23, none, .d (.load true 2 (.t 5))⟩),
    ([], ⟨some 24, none, .d (.mv (.t 0))⟩),
    ([], ⟨some 25, none, .d (.load true 2 (.t 5))⟩),
    ([], ⟨some 26, none, .d (.mv (.t 0))⟩),
    ([], ⟨some 27, none, .d (.mv (.t 1))⟩),
    ([], ⟨some 28, none, .d (.call (.f f_ofAny) [(.t 25), (.t 26), (.t 27)])⟩)] [⟨some 29, none, .d (.call (.f f_dOf) [(.t 23), (.t 24), (.t 28)])⟩,
    ⟨none, none, .w (.store 2 (.t 6) (.t 29))⟩,
    ⟨some 7, none, .d (.mv (.c (.bool true)))⟩])
  (.ret))), [.cell 6 2 true, .tmp 7]⟩
def n_ChanceFalse : Nat → Option Ann := fun _ => none
abbrev k_ChanceFalse : List Nat := [0, 1, 2, 5, 6, 7, 21]
abbrev o_ChanceFalse : List Nat := [5, 6]
def a_s_ChanceFalse (f_l7Drawn : FuncId) (f_l3Ways : FuncId) (f_l7Parts : FuncId) (f_l7Power : FuncId) (f_l7Cut : FuncId) : AFn := ⟨3, 
  .seq (.reg [⟨some 5, none, .w (.box 2 (.t 2))⟩,
    ⟨some 6, none, .w (.alloc [.int .i64 0, .int .i64 0])⟩,
    ⟨some 7, none, .d (.mv (.c (.bool false)))⟩])
  (.seq (.seq (.reg [⟨some 8, none, .d (.mv (.t 0))⟩,
    ⟨some 9, none, .d (.mv (.t 1))⟩,
    ⟨some 10, none, .d (.load true 2 (.t 5))⟩,
    ⟨some 11, none, .d (.call (.f f_l7Drawn) [(.t 8), (.t 9), (.t 10)])⟩,
    ⟨some 12, none, .d (.not (.t 11))⟩])
  (.cond (.t 12) (.seq (.reg [⟨some 13, none, .d (.build [.int .i64 0, .int .i64 0] [])⟩,
     ⟨none, none, .w (.store 2 (.t 6) (.t 13))⟩,
     ⟨some 7, none, .d (.mv (.c (.bool false)))⟩])
   (.ret)) (.skip)))
  (.seq (.dreg [] [([], ⟨some 14, none, .d (.mv (.t 0))⟩),
    ([], ⟨some 15, none, .d (.mv (.t 1))⟩),
    ([], ⟨some 16, none, .d (.call (.f f_l3Ways) [(.t 14), (.t 15)])⟩),
    ([], ⟨some 17, none, .d (.mv (.t 0))⟩),
    ([], ⟨some 18, none, .d (.mv (.t 1))⟩),
    ([], ⟨some 19, none, .d (.load true 2 (.t 5))⟩),
    ([], ⟨some 20, none, .d (.call (.f f_l7Parts) [(.t 17), (.t 18), (.t 19)])⟩),
    ([], ⟨some 21, none, .d (.bin .arith .mul (.t 16) (.t 20))⟩),
    ([], ⟨some 22, none, .d (.fa 1 (.t 5))⟩),
    ([], ⟨some 23, none, .d (.load false 1 (.t 22))⟩),
    ([], ⟨some 24, none, .d (.mv (.t 0))⟩),
    ([], ⟨some 25, none, .d (.call (.f f_l7Power) [(.t 23), (.t 24)])⟩)] [⟨some 26, none, .d (.call (.f f_l7Cut) [(.t 21), (.t 25)])⟩,
    ⟨none, none, .w (.store 2 (.t 6) (.t 26))⟩,
    ⟨some 7, none, .d (.mv (.c (.bool true)))⟩])
  (.ret))), [.cell 6 2 true, .tmp 7]⟩
def n_s_ChanceFalse : Nat → Option Ann := fun _ => none
abbrev k_s_ChanceFalse : List Nat := [0, 1, 2, 5, 6, 7, 12]
abbrev o_s_ChanceFalse : List Nat := [5, 6]
def a_ChanceWithin (f_isDrawn : FuncId) (f_in : FuncId) (f_IsDoubt : FuncId) (f_dWithin : FuncId) (f_dOf : FuncId) : AFn := ⟨3, 
  .seq (.reg [⟨some 5, none, .w (.box 2 (.t 2))⟩,
    ⟨some 6, none, .w (.alloc [.int .i64 0, .int .i64 0])⟩,
    ⟨some 7, none, .d (.mv (.c (.bool false)))⟩])
  (.seq (.seq (.reg [⟨some 8, none, .d (.mv (.t 0))⟩,
    ⟨some 9, none, .d (.call (.f f_isDrawn) [(.t 8)])⟩,
    ⟨some 10, none, .d (.not (.t 9))⟩,
    ⟨some 11, none, .d (.mv (.t 10))⟩,
    ⟨some 12, some (11, false), .d (.mv (.t 1))⟩,
    ⟨some 13, some (11, false), .d (.mv (.t 0))⟩,
    ⟨some 14, some (11, false), .d (.call (.f f_in) [(.t 12), (.c (.int .i64 0)), (.t 13)])⟩,
    ⟨some 15, some (11, false), .d (.not (.t 14))⟩,
    ⟨some 16, none, .d (.pick (.t 11) (.c (.bool true)) (.t 15))⟩,
    ⟨some 17, none, .d (.mv (.t 16))⟩,
    ⟨some 18, some (17, false), .d (.load true 2 (.t 5))⟩,
    ⟨some 19, some (17, false), .d (.call (.f f_IsDoubt) [(.t 18)])⟩,
    ⟨some 20, some (17, false), .d (.not (.t 19))⟩,
    ⟨some 21, none, .d (.pick (.t 17) (.c (.bool true)) (.t 20))⟩])
  (.cond (.t 21) (.seq (.reg [⟨some 22, none, .d (.build [.int .i64 0, .int .i64 0] [])⟩,
     ⟨none, none, .w (.store 2 (.t 6) (.t 22))⟩,
     ⟨some 7, none, .d (.mv (.c (.bool false)))⟩])
   (.ret)) (.skip)))
  (.seq (.dreg [] [([], ⟨some 23, none, .d (.load true 2 (.t 5))⟩),
    ([], ⟨some 24, none, .d (.mv (.t 0))⟩),
    ([], ⟨some 25, none, .d (.load true 2 (.t 5))⟩),
    ([], ⟨some 26, none, .d (.mv (.t 0))⟩),
    ([], ⟨some 27, none, .d (.mv (.t 1))⟩),
    ([], ⟨some 28, none, .d (.call (.f f_dWithin) [(.t 25), (.t 26), (.t 27)])⟩)] [⟨some 29, none, .d (.call (.f f_dOf) [(.t 23), (.t 24), (.t 28)])⟩,
    ⟨none, none, .w (.store 2 (.t 6) (.t 29))⟩,
    ⟨some 7, none, .d (.mv (.c (.bool true)))⟩])
  (.ret))), [.cell 6 2 true, .tmp 7]⟩
def n_ChanceWithin : Nat → Option Ann := fun _ => none
abbrev k_ChanceWithin : List Nat := [0, 1, 2, 5, 6, 7, 21]
abbrev o_ChanceWithin : List Nat := [5, 6]
def a_s_ChanceWithin (f_l7Drawn : FuncId) (f_l7Within : FuncId) (f_l7Power : FuncId) (f_l7Cut : FuncId) : AFn := ⟨3, 
  .seq (.reg [⟨some 5, none, .w (.box 2 (.t 2))⟩,
    ⟨some 6, none, .w (.alloc [.int .i64 0, .int .i64 0])⟩,
    ⟨some 7, none, .d (.mv (.c (.bool false)))⟩])
  (.seq (.seq (.reg [⟨some 8, none, .d (.mv (.t 0))⟩,
    ⟨some 9, none, .d (.mv (.t 1))⟩,
    ⟨some 10, none, .d (.load true 2 (.t 5))⟩,
    ⟨some 11, none, .d (.call (.f f_l7Drawn) [(.t 8), (.t 9), (.t 10)])⟩,
    ⟨some 12, none, .d (.not (.t 11))⟩])
  (.cond (.t 12) (.seq (.reg [⟨some 13, none, .d (.build [.int .i64 0, .int .i64 0] [])⟩,
     ⟨none, none, .w (.store 2 (.t 6) (.t 13))⟩,
     ⟨some 7, none, .d (.mv (.c (.bool false)))⟩])
   (.ret)) (.skip)))
  (.seq (.dreg [] [([], ⟨some 14, none, .d (.mv (.t 0))⟩),
    ([], ⟨some 15, none, .d (.mv (.t 1))⟩),
    ([], ⟨some 16, none, .d (.load true 2 (.t 5))⟩),
    ([], ⟨some 17, none, .d (.call (.f f_l7Within) [(.t 14), (.t 15), (.t 16)])⟩),
    ([], ⟨some 18, none, .d (.fa 1 (.t 5))⟩),
    ([], ⟨some 19, none, .d (.load false 1 (.t 18))⟩),
    ([], ⟨some 20, none, .d (.mv (.t 0))⟩)] [⟨some 21, none, .d (.call (.f f_l7Power) [(.t 19), (.t 20)])⟩,
    ⟨some 22, none, .d (.call (.f f_l7Cut) [(.t 17), (.t 21)])⟩,
    ⟨none, none, .w (.store 2 (.t 6) (.t 22))⟩,
    ⟨some 7, none, .d (.mv (.c (.bool true)))⟩])
  (.ret))), [.cell 6 2 true, .tmp 7]⟩
def n_s_ChanceWithin : Nat → Option Ann := fun _ => none
abbrev k_s_ChanceWithin : List Nat := [0, 1, 2, 5, 6, 7, 12]
abbrev o_s_ChanceWithin : List Nat := [5, 6]
def a_MeanFalse (f_isDrawn : FuncId) (f_IsDoubt : FuncId) (f_fraction : FuncId) : AFn := ⟨2, 
  .seq (.reg [⟨some 3, none, .w (.box 2 (.t 1))⟩,
    ⟨some 4, none, .w (.alloc [.int .i64 0, .int .i64 0])⟩,
    ⟨some 5, none, .d (.mv (.c (.bool false)))⟩])
  (.seq (.seq (.reg [⟨some 6, none, .d (.mv (.t 0))⟩,
    ⟨some 7, none, .d (.call (.f f_isDrawn) [(.t 6)])⟩,
    ⟨some 8, none, .d (.not (.t 7))⟩,
    ⟨some 9, none, .d (.mv (.t 8))⟩,
    ⟨some 10, some (9, false), .d (.load true 2 (.t 3))⟩,
    ⟨some 11, some (9, false), .d (.call (.f f_IsDoubt) [(.t 10)])⟩,
    ⟨some 12, some (9, false), .d (.not (.t 11))⟩,
    ⟨some 13, none, .d (.pick (.t 9) (.c (.bool true)) (.t 12))⟩])
  (.cond (.t 13) (.seq (.reg [⟨some 14, none, .d (.build [.int .i64 0, .int .i64 0] [])⟩,
     ⟨none, none, .w (.store 2 (.t 4) (.t 14))⟩,
     ⟨some 5, none, .d (.mv (.c (.bool false)))⟩])
   (.ret)) (.skip)))
  (.seq (.reg [⟨some 15, none, .d (.mv (.t 0))⟩,
    ⟨some 16, none, .d (.fa 0 (.t 3))⟩,
    ⟨some 17, none, .d (.load false 1 (.t 16))⟩,
    ⟨some 18, none, .d (.bin .arith .mul (.t 15) (.t 17))⟩,
    ⟨some 19, none, .d (.fa 1 (.t 3))⟩,
    ⟨some 20, none, .d (.load false 1 (.t 19))⟩,
    ⟨some 21, none, .d (.call (.f f_fraction) [(.t 18), (.t 20)])⟩,
    ⟨none, none, .w (.store 2 (.t 4) (.t 21))⟩,
    ⟨some 5, none, .d (.mv (.c (.bool true)))⟩])
  (.ret))), [.cell 4 2 true, .tmp 5]⟩
def n_MeanFalse : Nat → Option Ann := fun _ => none
abbrev k_MeanFalse : List Nat := [0, 1, 3, 4, 5, 13]
abbrev o_MeanFalse : List Nat := [3, 4]
def a_s_MeanFalse (f_l7Drawn : FuncId) (f_l7Cut : FuncId) : AFn := ⟨2, 
  .seq (.reg [⟨some 3, none, .w (.box 2 (.t 1))⟩,
    ⟨some 4, none, .w (.alloc [.int .i64 0, .int .i64 0])⟩,
    ⟨some 5, none, .d (.mv (.c (.bool false)))⟩])
  (.seq (.seq (.reg [⟨some 6, none, .d (.mv (.t 0))⟩,
    ⟨some 7, none, .d (.load true 2 (.t 3))⟩,
    ⟨some 8, none, .d (.call (.f f_l7Drawn) [(.t 6), (.c (.int .i64 0)), (.t 7)])⟩,
    ⟨some 9, none, .d (.not (.t 8))⟩])
  (.cond (.t 9) (.seq (.reg [⟨some 10, none, .d (.build [.int .i64 0, .int .i64 0] [])⟩,
     ⟨none, none, .w (.store 2 (.t 4) (.t 10))⟩,
     ⟨some 5, none, .d (.mv (.c (.bool false)))⟩])
   (.ret)) (.skip)))
  (.seq (.reg [⟨some 11, none, .d (.mv (.t 0))⟩,
    ⟨some 12, none, .d (.fa 0 (.t 3))⟩,
    ⟨some 13, none, .d (.load false 1 (.t 12))⟩,
    ⟨some 14, none, .d (.bin .arith .mul (.t 11) (.t 13))⟩,
    ⟨some 15, none, .d (.fa 1 (.t 3))⟩,
    ⟨some 16, none, .d (.load false 1 (.t 15))⟩,
    ⟨some 17, none, .d (.call (.f f_l7Cut) [(.t 14), (.t 16)])⟩,
    ⟨none, none, .w (.store 2 (.t 4) (.t 17))⟩,
    ⟨some 5, none, .d (.mv (.c (.bool true)))⟩])
  (.ret))), [.cell 4 2 true, .tmp 5]⟩
def n_s_MeanFalse : Nat → Option Ann := fun _ => none
abbrev k_s_MeanFalse : List Nat := [0, 1, 3, 4, 5, 9]
abbrev o_s_MeanFalse : List Nat := [3, 4]
def c_ChanceFalse : Con := pure' fun
  | [.p (.int .i64 m), .p (.int .i64 k), .p (.agg [.int .i64 s, .int .i64 o])] => if (True) then some (.tp [.ag [.p (.int .i64 (cfV m k s o).1), .p (.int .i64 (cfV m k s o).2)], .p (.bool (vD m k s o))], []) else none
  | _ => none
def c_ChanceWithin : Con := pure' fun
  | [.p (.int .i64 m), .p (.int .i64 k), .p (.agg [.int .i64 s, .int .i64 o])] => if (True) then some (.tp [.ag [.p (.int .i64 (cwV m k s o).1), .p (.int .i64 (cwV m k s o).2)], .p (.bool (vD m k s o))], []) else none
  | _ => none
def c_MeanFalse : Con := pure' fun
  | [.p (.int .i64 m), .p (.agg [.int .i64 s, .int .i64 o])] => if (True) then some (.tp [.ag [.p (.int .i64 (cmV m s o).1), .p (.int .i64 (cmV m s o).2)], .p (.bool (vD m 0 s o))], []) else none
  | _ => none
theorem pw12 {s o : Int} (hd : isD s o = true) {m : Int} (h0 : 0 ≤ m) (h1 : m ≤ 12) : 0 < ((o.toNat ^ m.toNat : Nat) : Int) ∧ ((o.toNat ^ m.toNat : Nat) : Int) ≤ 4000000000000000000 := by
  obtain ⟨d1, d2, d3, d4⟩ := isD_out hd
  have hp := pow_le (b := o.toNat) (e := m.toNat) (by omega) (by omega)
  have hpos : 0 < o.toNat ^ m.toNat := Nat.pow_pos (by omega)
  omega
theorem s_ChanceFalse {P : Program} (hm : P.follows .mixedOrders = true) {Γ : Gam} (hΓ : GS P Γ) {n : FuncId} {f_isDrawn : FuncId} {f_in : FuncId} {f_IsDoubt : FuncId} {f_ofAny : FuncId} {f_dOf : FuncId} (is : Is P n (a_ChanceFalse f_isDrawn f_in f_IsDoubt f_ofAny f_dOf)) (h_isDrawn : Γ f_isDrawn = c_isDrawn) (h_in : Γ f_in = c_in) (h_IsDoubt : Γ f_IsDoubt = c_IsDoubt) (h_ofAny : Γ f_ofAny = c_ofAny) (h_dOf : Γ f_dOf = c_dOf)  : Says P n c_ChanceFalse := by
  refine Says.pure fun args r fs h => ?_
  split at h
  case h_2 => cases h
  rename_i m k s o
  split at h
  case isFalse => cases h
  rename_i hc
  simp only [ofI_ints, ofBo_bools, ofAs_asks, Option.some.injEq, Prod.mk.injEq] at h hc
  obtain ⟨rfl, rfl⟩ := h
  cases h2 : (decide (0 ≤ m) && decide (m ≤ 12)) with
  | false =>
    have hv : vD m k s o = false := by simp only [vD, h2, Bool.and_false, Bool.false_and]
    refine is.go hm hΓ k_ChanceFalse o_ChanceFalse (by simp [a_ChanceFalse]) ?_
    simp only [a_ChanceFalse, h_isDrawn, c_isDrawn, h_in, c_in, h_IsDoubt, c_IsDoubt, h_ofAny, c_ofAny, h_dOf, c_dOf, h2, List.zipIdx_cons, List.zipIdx_nil, ↓SP, SQ, Gam.add, stepM, callC, argC, lendO, nmBy, nmC, likeL, likeB, plainOb, offs, exL, X, F, trP, trO, stepD, stepW, newA, SV.tr, SV.trL, fz, allP, Ob.tr, loadA, cellsA, SV.cells, binA, binI, eqOut, isSl, isPt, natOf, callee, snap, SV.refsL, SV.refs, thaw, fzAll, loA, hiA, elemOf, partsA, buildA, putCells, ↓reduceIte, reduceCtorEq, okCell, Nat.reduceAdd, Nat.reduceEqDiff, Nat.reduceSub, Nat.reduceMul, Nat.reduceLeDiff, Nat.reduceLT, Nat.reduceBEq, PV.scal, PV.scalL, SV.scal, SV.scalL, Ob.scal, PV.isCell, pure', resO]
    exact finA_val (by simp [cfV, hv, retA, rvA, mkE_cons, mk_nil, mkO_cons, mkO_nil, loadA, SV.tr, SV.trL, nmF, rn_nil, rn_cons1, rn_cons2, plainOb, SV.refsL, SV.refs, Ob.refs, X, F, List.range_succ, mkO, setO_mk]) (by simp [SV.tr, SV.trL])
  | true =>
    cases h3 : (decide (0 ≤ k) && decide (k ≤ m)) with
    | false =>
      have hv : vD m k s o = false := by simp only [vD, h3, Bool.and_false]
      refine is.go hm hΓ k_ChanceFalse o_ChanceFalse (by simp [a_ChanceFalse]) ?_
      simp only [a_ChanceFalse, h_isDrawn, c_isDrawn, h_in, c_in, h_IsDoubt, c_IsDoubt, h_ofAny, c_ofAny, h_dOf, c_dOf, h2, h3, List.zipIdx_cons, List.zipIdx_nil, ↓SP, SQ, Gam.add, stepM, callC, argC, lendO, nmBy, nmC, likeL, likeB, plainOb, offs, exL, X, F, trP, trO, stepD, stepW, newA, SV.tr, SV.trL, fz, allP, Ob.tr, loadA, cellsA, SV.cells, binA, binI, eqOut, isSl, isPt, natOf, callee, snap, SV.refsL, SV.refs, thaw, fzAll, loA, hiA, elemOf, partsA, buildA, putCells, ↓reduceIte, reduceCtorEq, okCell, Nat.reduceAdd, Nat.reduceEqDiff, Nat.reduceSub, Nat.reduceMul, Nat.reduceLeDiff, Nat.reduceLT, Nat.reduceBEq, PV.scal, PV.scalL, SV.scal, SV.scalL, Ob.scal, PV.isCell, pure', resO]
      exact finA_val (by simp [cfV, hv, retA, rvA, mkE_cons, mk_nil, mkO_cons, mkO_nil, loadA, SV.tr, SV.trL, nmF, rn_nil, rn_cons1, rn_cons2, plainOb, SV.refsL, SV.refs, Ob.refs, X, F, List.range_succ, mkO, setO_mk]) (by simp [SV.tr, SV.trL])
    | true =>
      cases h1 : isD s o with
      | false =>
        have hv : vD m k s o = false := by simp only [vD, h1, Bool.false_and]
        refine is.go hm hΓ k_ChanceFalse o_ChanceFalse (by simp [a_ChanceFalse]) ?_
        simp only [a_ChanceFalse, h_isDrawn, c_isDrawn, h_in, c_in, h_IsDoubt, c_IsDoubt, h_ofAny, c_ofAny, h_dOf, c_dOf, h1, h2, h3, List.zipIdx_cons, List.zipIdx_nil, ↓SP, SQ, Gam.add, stepM, callC, argC, lendO, nmBy, nmC, likeL, likeB, plainOb, offs, exL, X, F, trP, trO, stepD, stepW, newA, SV.tr, SV.trL, fz, allP, Ob.tr, loadA, cellsA, SV.cells, binA, binI, eqOut, isSl, isPt, natOf, callee, snap, SV.refsL, SV.refs, thaw, fzAll, loA, hiA, elemOf, partsA, buildA, putCells, ↓reduceIte, reduceCtorEq, okCell, Nat.reduceAdd, Nat.reduceEqDiff, Nat.reduceSub, Nat.reduceMul, Nat.reduceLeDiff, Nat.reduceLT, Nat.reduceBEq, PV.scal, PV.scalL, SV.scal, SV.scalL, Ob.scal, PV.isCell, pure', resO]
        exact finA_val (by simp [cfV, hv, retA, rvA, mkE_cons, mk_nil, mkO_cons, mkO_nil, loadA, SV.tr, SV.trL, nmF, rn_nil, rn_cons1, rn_cons2, plainOb, SV.refsL, SV.refs, Ob.refs, X, F, List.range_succ, mkO, setO_mk]) (by simp [SV.tr, SV.trL])
      | true =>
        have hv : vD m k s o = true := by simp only [vD, h1, h2, h3, Bool.and_self]
        obtain ⟨hd, ⟨g1, g2⟩, g3, g4⟩ := vD_out hv
        obtain ⟨d1, d2, d3, d4⟩ := isD_out hd
        have hst := inB_step (s := s.toNat) (o := o.toNat) (n := m.toNat) (k := k.toNat) (by omega) (by omega) (by omega) (by omega)
        have a1 : (0 : Int) ≤ ((Wn m.toNat k.toNat * partN s.toNat o.toNat m.toNat k.toNat : Nat) : Int) := Int.natCast_nonneg _
        have a2 : ((Wn m.toNat k.toNat * partN s.toNat o.toNat m.toNat k.toNat : Nat) : Int) ≤ 4000000000000000000 := by omega
        have hcf : cfV m k s o = cuF (Wn m.toNat k.toNat * partN s.toNat o.toNat m.toNat k.toNat) (o.toNat ^ m.toNat) := by simp only [cfV, hv, if_true]
        refine is.go hm hΓ k_ChanceFalse o_ChanceFalse (by simp [a_ChanceFalse]) ?_
        simp only [a_ChanceFalse, h_isDrawn, c_isDrawn, h_in, c_in, h_IsDoubt, c_IsDoubt, h_ofAny, c_ofAny, h_dOf, c_dOf, h1, h2, h3, g1, g2, g3, g4, a1, a2, Int.toNat_natCast, List.zipIdx_cons, List.zipIdx_nil, ↓SP, SQ, Gam.add, stepM, callC, argC, lendO, nmBy, nmC, likeL, likeB, plainOb, offs, exL, X, F, trP, trO, stepD, stepW, newA, SV.tr, SV.trL, fz, allP, Ob.tr, loadA, cellsA, SV.cells, binA, binI, eqOut, isSl, isPt, natOf, callee, snap, SV.refsL, SV.refs, thaw, fzAll, loA, hiA, elemOf, partsA, buildA, putCells, ↓reduceIte, reduceCtorEq, okCell, Nat.reduceAdd, Nat.reduceEqDiff, Nat.reduceSub, Nat.reduceMul, Nat.reduceLeDiff, Nat.reduceLT, Nat.reduceBEq, PV.scal, PV.scalL, SV.scal, SV.scalL, Ob.scal, PV.isCell, pure', resO]
        exact finA_val (by simp [hcf, hv, cuF, retA, rvA, mkE_cons, mk_nil, mkO_cons, mkO_nil, loadA, SV.tr, SV.trL, nmF, rn_nil, rn_cons1, rn_cons2, plainOb, SV.refsL, SV.refs, Ob.refs, X, F, List.range_succ, mkO, setO_mk]) (by simp [SV.tr, SV.trL])
theorem cf_mul {m k s o : Int} (hv : vD m k s o = true) : IntKind.i64.wrap ((Wn m.toNat k.toNat : Int) * (partN s.toNat o.toNat m.toNat k.toNat : Int)) = ((Wn m.toNat k.toNat * partN s.toNat o.toNat m.toNat k.toNat : Nat) : Int) := by
  obtain ⟨hd, ⟨g1, g2⟩, g3, g4⟩ := vD_out hv
  obtain ⟨d1, d2, d3, d4⟩ := isD_out hd
  have hst := inB_step (s := s.toNat) (o := o.toNat) (n := m.toNat) (k := k.toNat) (by omega) (by omega) (by omega) (by omega)
  rw [← Int.natCast_mul]
  exact wrap_nat (by omega)
theorem cf_bd {m k s o : Int} (hv : vD m k s o = true) : ((Wn m.toNat k.toNat * partN s.toNat o.toNat m.toNat k.toNat : Nat) : Int) ≤ 4000000000000000000 := by
  obtain ⟨hd, ⟨g1, g2⟩, g3, g4⟩ := vD_out hv
  obtain ⟨d1, d2, d3, d4⟩ := isD_out hd
  have hst := inB_step (s := s.toNat) (o := o.toNat) (n := m.toNat) (k := k.toNat) (by omega) (by omega) (by omega) (by omega)
  omega
theorem cw_bd {m k s o : Int} (hv : vD m k s o = true) : ((inB s.toNat o.toNat m.toNat (k.toNat + 1) : Nat) : Int) ≤ 4000000000000000000 := by
  obtain ⟨hd, ⟨g1, g2⟩, g3, g4⟩ := vD_out hv
  obtain ⟨d1, d2, d3, d4⟩ := isD_out hd
  have hst := inB_le (s := s.toNat) (o := o.toNat) (n := m.toNat) (by omega) (by omega) (by omega) (k.toNat + 1) (by omega)
  omega
theorem s_s_ChanceFalse {P : Program} (hm : P.follows .mixedOrders = true) {Γ : Gam} (hΓ : GS P Γ) {n : FuncId} {f_l7Drawn : FuncId} {f_l3Ways : FuncId} {f_l7Parts : FuncId} {f_l7Power : FuncId} {f_l7Cut : FuncId} (is : Is P n (a_s_ChanceFalse f_l7Drawn f_l3Ways f_l7Parts f_l7Power f_l7Cut)) (h_l7Drawn : Γ f_l7Drawn = c_l7Drawn) (h_l3Ways : Γ f_l3Ways = c_ways) (h_l7Parts : Γ f_l7Parts = c_l7Parts) (h_l7Power : Γ f_l7Power = c_power) (h_l7Cut : Γ f_l7Cut = c_fraction)  : Says P n c_ChanceFalse := by
  refine Says.pure fun args r fs h => ?_
  split at h
  case h_2 => cases h
  rename_i m k s o
  split at h
  case isFalse => cases h
  rename_i hc
  simp only [ofI_ints, ofBo_bools, ofAs_asks, Option.some.injEq, Prod.mk.injEq] at h hc
  obtain ⟨rfl, rfl⟩ := h
  cases hv : vD m k s o with
  | false =>
    refine is.go hm hΓ k_s_ChanceFalse o_s_ChanceFalse (by simp [a_s_ChanceFalse]) ?_
    simp only [a_s_ChanceFalse, h_l7Drawn, c_l7Drawn, h_l3Ways, c_ways, h_l7Parts, c_l7Parts, h_l7Power, c_power, h_l7Cut, c_fraction, hv, List.zipIdx_cons, List.zipIdx_nil, ↓SP, SQ, Gam.add, stepM, callC, argC, lendO, nmBy, nmC, likeL, likeB, plainOb, offs, exL, X, F, trP, trO, stepD, stepW, newA, SV.tr, SV.trL, fz, allP, Ob.tr, loadA, cellsA, SV.cells, binA, binI, eqOut, isSl, isPt, natOf, callee, snap, SV.refsL, SV.refs, thaw, fzAll, loA, hiA, elemOf, partsA, buildA, putCells, ↓reduceIte, reduceCtorEq, okCell, Nat.reduceAdd, Nat.reduceEqDiff, Nat.reduceSub, Nat.reduceMul, Nat.reduceLeDiff, Nat.reduceLT, Nat.reduceBEq, PV.scal, PV.scalL, SV.scal, SV.scalL, Ob.scal, PV.isCell, pure', resO]
    exact finA_val (by simp [cfV, hv, retA, rvA, mkE_cons, mk_nil, mkO_cons, mkO_nil, loadA, SV.tr, SV.trL, nmF, rn_nil, rn_cons1, rn_cons2, plainOb, SV.refsL, SV.refs, Ob.refs, X, F, List.range_succ, mkO, setO_mk]) (by simp [SV.tr, SV.trL])
  | true =>
    obtain ⟨hd, ⟨g1, g2⟩, g3, g4⟩ := vD_out hv
    obtain ⟨d1, d2, d3, d4⟩ := isD_out hd
    have d0 : 0 ≤ o := by omega
    have g5 : m ≤ 20 := by omega
    obtain ⟨p1, p2⟩ := pw12 hd g1 g2
    have hm2 := cf_mul hv
    have a2 := cf_bd hv
    have a1 : (0 : Int) ≤ ((Wn m.toNat k.toNat * partN s.toNat o.toNat m.toNat k.toNat : Nat) : Int) := Int.natCast_nonneg _
    have hcf : cfV m k s o = cuF (Wn m.toNat k.toNat * partN s.toNat o.toNat m.toNat k.toNat) (o.toNat ^ m.toNat) := by simp only [cfV, hv, if_true]
    refine is.go hm hΓ k_s_ChanceFalse o_s_ChanceFalse (by simp [a_s_ChanceFalse]) ?_
    simp only [a_s_ChanceFalse, h_l7Drawn, c_l7Drawn, h_l3Ways, c_ways, h_l7Parts, c_l7Parts, h_l7Power, c_power, h_l7Cut, c_fraction, hv, hd, d0, d2, g1, g2, g3, g4, g5, p1, p2, hm2, a1, a2, Int.toNat_natCast, List.zipIdx_cons, List.zipIdx_nil, ↓SP, SQ, Gam.add, stepM, callC, argC, lendO, nmBy, nmC, likeL, likeB, plainOb, offs, exL, X, F, trP, trO, stepD, stepW, newA, SV.tr, SV.trL, fz, allP, Ob.tr, loadA, cellsA, SV.cells, binA, binI, eqOut, isSl, isPt, natOf, callee, snap, SV.refsL, SV.refs, thaw, fzAll, loA, hiA, elemOf, partsA, buildA, putCells, ↓reduceIte, reduceCtorEq, okCell, Nat.reduceAdd, Nat.reduceEqDiff, Nat.reduceSub, Nat.reduceMul, Nat.reduceLeDiff, Nat.reduceLT, Nat.reduceBEq, PV.scal, PV.scalL, SV.scal, SV.scalL, Ob.scal, PV.isCell, pure', resO]
    exact finA_val (by simp [hcf, hv, cuF, retA, rvA, mkE_cons, mk_nil, mkO_cons, mkO_nil, loadA, SV.tr, SV.trL, nmF, rn_nil, rn_cons1, rn_cons2, plainOb, SV.refsL, SV.refs, Ob.refs, X, F, List.range_succ, mkO, setO_mk]) (by simp [SV.tr, SV.trL])
theorem s_ChanceWithin {P : Program} (hm : P.follows .mixedOrders = true) {Γ : Gam} (hΓ : GS P Γ) {n : FuncId} {f_isDrawn : FuncId} {f_in : FuncId} {f_IsDoubt : FuncId} {f_dWithin : FuncId} {f_dOf : FuncId} (is : Is P n (a_ChanceWithin f_isDrawn f_in f_IsDoubt f_dWithin f_dOf)) (h_isDrawn : Γ f_isDrawn = c_isDrawn) (h_in : Γ f_in = c_in) (h_IsDoubt : Γ f_IsDoubt = c_IsDoubt) (h_dWithin : Γ f_dWithin = c_dWithin) (h_dOf : Γ f_dOf = c_dOf)  : Says P n c_ChanceWithin := by
  refine Says.pure fun args r fs h => ?_
  split at h
  case h_2 => cases h
  rename_i m k s o
  split at h
  case isFalse => cases h
  rename_i hc
  simp only [ofI_ints, ofBo_bools, ofAs_asks, Option.some.injEq, Prod.mk.injEq] at h hc
  obtain ⟨rfl, rfl⟩ := h
  cases h2 : (decide (0 ≤ m) && decide (m ≤ 12)) with
  | false =>
    have hv : vD m k s o = false := by simp only [vD, h2, Bool.and_false, Bool.false_and]
    refine is.go hm hΓ k_ChanceWithin o_ChanceWithin (by simp [a_ChanceWithin]) ?_
    simp only [a_ChanceWithin, h_isDrawn, c_isDrawn, h_in, c_in, h_IsDoubt, c_IsDoubt, h_dWithin, c_dWithin, h_dOf, c_dOf, h2, List.zipIdx_cons, List.zipIdx_nil, ↓SP, SQ, Gam.add, stepM, callC, argC, lendO, nmBy, nmC, likeL, likeB, plainOb, offs, exL, X, F, trP, trO, stepD, stepW, newA, SV.tr, SV.trL, fz, allP, Ob.tr, loadA, cellsA, SV.cells, binA, binI, eqOut, isSl, isPt, natOf, callee, snap, SV.refsL, SV.refs, thaw, fzAll, loA, hiA, elemOf, partsA, buildA, putCells, ↓reduceIte, reduceCtorEq, okCell, Nat.reduceAdd, Nat.reduceEqDiff, Nat.reduceSub, Nat.reduceMul, Nat.reduceLeDiff, Nat.reduceLT, Nat.reduceBEq, PV.scal, PV.scalL, SV.scal, SV.scalL, Ob.scal, PV.isCell, pure', resO]
    exact finA_val (by simp [cwV, hv, retA, rvA, mkE_cons, mk_nil, mkO_cons, mkO_nil, loadA, SV.tr, SV.trL, nmF, rn_nil, rn_cons1, rn_cons2, plainOb, SV.refsL, SV.refs, Ob.refs, X, F, List.range_succ, mkO, setO_mk]) (by simp [SV.tr, SV.trL])
  | true =>
    cases h3 : (decide (0 ≤ k) && decide (k ≤ m)) with
    | false =>
      have hv : vD m k s o = false := by simp only [vD, h3, Bool.and_false]
      refine is.go hm hΓ k_ChanceWithin o_ChanceWithin (by simp [a_ChanceWithin]) ?_
      simp only [a_ChanceWithin, h_isDrawn, c_isDrawn, h_in, c_in, h_IsDoubt, c_IsDoubt, h_dWithin, c_dWithin, h_dOf, c_dOf, h2, h3, List.zipIdx_cons, List.zipIdx_nil, ↓SP, SQ, Gam.add, stepM, callC, argC, lendO, nmBy, nmC, likeL, likeB, plainOb, offs, exL, X, F, trP, trO, stepD, stepW, newA, SV.tr, SV.trL, fz, allP, Ob.tr, loadA, cellsA, SV.cells, binA, binI, eqOut, isSl, isPt, natOf, callee, snap, SV.refsL, SV.refs, thaw, fzAll, loA, hiA, elemOf, partsA, buildA, putCells, ↓reduceIte, reduceCtorEq, okCell, Nat.reduceAdd, Nat.reduceEqDiff, Nat.reduceSub, Nat.reduceMul, Nat.reduceLeDiff, Nat.reduceLT, Nat.reduceBEq, PV.scal, PV.scalL, SV.scal, SV.scalL, Ob.scal, PV.isCell, pure', resO]
      exact finA_val (by simp [cwV, hv, retA, rvA, mkE_cons, mk_nil, mkO_cons, mkO_nil, loadA, SV.tr, SV.trL, nmF, rn_nil, rn_cons1, rn_cons2, plainOb, SV.refsL, SV.refs, Ob.refs, X, F, List.range_succ, mkO, setO_mk]) (by simp [SV.tr, SV.trL])
    | true =>
      cases h1 : isD s o with
      | false =>
        have hv : vD m k s o = false := by simp only [vD, h1, Bool.false_and]
        refine is.go hm hΓ k_ChanceWithin o_ChanceWithin (by simp [a_ChanceWithin]) ?_
        simp only [a_ChanceWithin, h_isDrawn, c_isDrawn, h_in, c_in, h_IsDoubt, c_IsDoubt, h_dWithin, c_dWithin, h_dOf, c_dOf, h1, h2, h3, List.zipIdx_cons, List.zipIdx_nil, ↓SP, SQ, Gam.add, stepM, callC, argC, lendO, nmBy, nmC, likeL, likeB, plainOb, offs, exL, X, F, trP, trO, stepD, stepW, newA, SV.tr, SV.trL, fz, allP, Ob.tr, loadA, cellsA, SV.cells, binA, binI, eqOut, isSl, isPt, natOf, callee, snap, SV.refsL, SV.refs, thaw, fzAll, loA, hiA, elemOf, partsA, buildA, putCells, ↓reduceIte, reduceCtorEq, okCell, Nat.reduceAdd, Nat.reduceEqDiff, Nat.reduceSub, Nat.reduceMul, Nat.reduceLeDiff, Nat.reduceLT, Nat.reduceBEq, PV.scal, PV.scalL, SV.scal, SV.scalL, Ob.scal, PV.isCell, pure', resO]
        exact finA_val (by simp [cwV, hv, retA, rvA, mkE_cons, mk_nil, mkO_cons, mkO_nil, loadA, SV.tr, SV.trL, nmF, rn_nil, rn_cons1, rn_cons2, plainOb, SV.refsL, SV.refs, Ob.refs, X, F, List.range_succ, mkO, setO_mk]) (by simp [SV.tr, SV.trL])
      | true =>
        have hv : vD m k s o = true := by simp only [vD, h1, h2, h3, Bool.and_self]
        obtain ⟨hd, ⟨g1, g2⟩, g3, g4⟩ := vD_out hv
        have a2 := cw_bd hv
        have a1 : (0 : Int) ≤ ((inB s.toNat o.toNat m.toNat (k.toNat + 1) : Nat) : Int) := Int.natCast_nonneg _
        have hcf : cwV m k s o = cuF (inB s.toNat o.toNat m.toNat (k.toNat + 1)) (o.toNat ^ m.toNat) := by simp only [cwV, hv, if_true]
        refine is.go hm hΓ k_ChanceWithin o_ChanceWithin (by simp [a_ChanceWithin]) ?_
        simp only [a_ChanceWithin, h_isDrawn, c_isDrawn, h_in, c_in, h_IsDoubt, c_IsDoubt, h_dWithin, c_dWithin, h_dOf, c_dOf, h1, h2, h3, g1, g2, g3, g4, a1, a2, Int.toNat_natCast, List.zipIdx_cons, List.zipIdx_nil, ↓SP, SQ, Gam.add, stepM, callC, argC, lendO, nmBy, nmC, likeL, likeB, plainOb, offs, exL, X, F, trP, trO, stepD, stepW, newA, SV.tr, SV.trL, fz, allP, Ob.tr, loadA, cellsA, SV.cells, binA, binI, eqOut, isSl, isPt, natOf, callee, snap, SV.refsL, SV.refs, thaw, fzAll, loA, hiA, elemOf, partsA, buildA, putCells, ↓reduceIte, reduceCtorEq, okCell, Nat.reduceAdd, Nat.reduceEqDiff, Nat.reduceSub, Nat.reduceMul, Nat.reduceLeDiff, Nat.reduceLT, Nat.reduceBEq, PV.scal, PV.scalL, SV.scal, SV.scalL, Ob.scal, PV.isCell, pure', resO]
        exact finA_val (by simp [hcf, hv, cuF, retA, rvA, mkE_cons, mk_nil, mkO_cons, mkO_nil, loadA, SV.tr, SV.trL, nmF, rn_nil, rn_cons1, rn_cons2, plainOb, SV.refsL, SV.refs, Ob.refs, X, F, List.range_succ, mkO, setO_mk]) (by simp [SV.tr, SV.trL])
theorem s_s_ChanceWithin {P : Program} (hm : P.follows .mixedOrders = true) {Γ : Gam} (hΓ : GS P Γ) {n : FuncId} {f_l7Drawn : FuncId} {f_l7Within : FuncId} {f_l7Power : FuncId} {f_l7Cut : FuncId} (is : Is P n (a_s_ChanceWithin f_l7Drawn f_l7Within f_l7Power f_l7Cut)) (h_l7Drawn : Γ f_l7Drawn = c_l7Drawn) (h_l7Within : Γ f_l7Within = c_l7Within) (h_l7Power : Γ f_l7Power = c_power) (h_l7Cut : Γ f_l7Cut = c_fraction)  : Says P n c_ChanceWithin := by
  refine Says.pure fun args r fs h => ?_
  split at h
  case h_2 => cases h
  rename_i m k s o
  split at h
  case isFalse => cases h
  rename_i hc
  simp only [ofI_ints, ofBo_bools, ofAs_asks, Option.some.injEq, Prod.mk.injEq] at h hc
  obtain ⟨rfl, rfl⟩ := h
  cases hv : vD m k s o with
  | false =>
    refine is.go hm hΓ k_s_ChanceWithin o_s_ChanceWithin (by simp [a_s_ChanceWithin]) ?_
    simp only [a_s_ChanceWithin, h_l7Drawn, c_l7Drawn, h_l7Within, c_l7Within, h_l7Power, c_power, h_l7Cut, c_fraction, hv, List.zipIdx_cons, List.zipIdx_nil, ↓SP, SQ, Gam.add, stepM, callC, argC, lendO, nmBy, nmC, likeL, likeB, plainOb, offs, exL, X, F, trP, trO, stepD, stepW, newA, SV.tr, SV.trL, fz, allP, Ob.tr, loadA, cellsA, SV.cells, binA, binI, eqOut, isSl, isPt, natOf, callee, snap, SV.refsL, SV.refs, thaw, fzAll, loA, hiA, elemOf, partsA, buildA, putCells, ↓reduceIte, reduceCtorEq, okCell, Nat.reduceAdd, Nat.reduceEqDiff, Nat.reduceSub, Nat.reduceMul, Nat.reduceLeDiff, Nat.reduceLT, Nat.reduceBEq, PV.scal, PV.scalL, SV.scal, SV.scalL, Ob.scal, PV.isCell, pure', resO]
    exact finA_val (by simp [cwV, hv, retA, rvA, mkE_cons, mk_nil, mkO_cons, mkO_nil, loadA, SV.tr, SV.trL, nmF, rn_nil, rn_cons1, rn_cons2, plainOb, SV.refsL, SV.refs, Ob.refs, X, F, List.range_succ, mkO, setO_mk]) (by simp [SV.tr, SV.trL])
  | true =>
    obtain ⟨hd, ⟨g1, g2⟩, g3, g4⟩ := vD_out hv
    obtain ⟨d1, d2, d3, d4⟩ := isD_out hd
    have d0 : 0 ≤ o := by omega
    obtain ⟨p1, p2⟩ := pw12 hd g1 g2
    have a2 := cw_bd hv
    have a1 : (0 : Int) ≤ ((inB s.toNat o.toNat m.toNat (k.toNat + 1) : Nat) : Int) := Int.natCast_nonneg _
    have hcf : cwV m k s o = cuF (inB s.toNat o.toNat m.toNat (k.toNat + 1)) (o.toNat ^ m.toNat) := by simp only [cwV, hv, if_true]
    refine is.go hm hΓ k_s_ChanceWithin o_s_ChanceWithin (by simp [a_s_ChanceWithin]) ?_
    simp only [a_s_ChanceWithin, h_l7Drawn, c_l7Drawn, h_l7Within, c_l7Within, h_l7Power, c_power, h_l7Cut, c_fraction, hv, hd, d0, d2, g1, g2, g3, g4, p1, p2, a1, a2, Int.toNat_natCast, List.zipIdx_cons, List.zipIdx_nil, ↓SP, SQ, Gam.add, stepM, callC, argC, lendO, nmBy, nmC, likeL, likeB, plainOb, offs, exL, X, F, trP, trO, stepD, stepW, newA, SV.tr, SV.trL, fz, allP, Ob.tr, loadA, cellsA, SV.cells, binA, binI, eqOut, isSl, isPt, natOf, callee, snap, SV.refsL, SV.refs, thaw, fzAll, loA, hiA, elemOf, partsA, buildA, putCells, ↓reduceIte, reduceCtorEq, okCell, Nat.reduceAdd, Nat.reduceEqDiff, Nat.reduceSub, Nat.reduceMul, Nat.reduceLeDiff, Nat.reduceLT, Nat.reduceBEq, PV.scal, PV.scalL, SV.scal, SV.scalL, Ob.scal, PV.isCell, pure', resO]
    exact finA_val (by simp [hcf, hv, cuF, retA, rvA, mkE_cons, mk_nil, mkO_cons, mkO_nil, loadA, SV.tr, SV.trL, nmF, rn_nil, rn_cons1, rn_cons2, plainOb, SV.refsL, SV.refs, Ob.refs, X, F, List.range_succ, mkO, setO_mk]) (by simp [SV.tr, SV.trL])
theorem cm_mul {m s o : Int} (hv : vD m 0 s o = true) : IntKind.i64.wrap (m * s) = ((m.toNat * s.toNat : Nat) : Int) ∧ ((m.toNat * s.toNat : Nat) : Int) ≤ 4000000000000000000 := by
  obtain ⟨hd, ⟨g1, g2⟩, g3, g4⟩ := vD_out hv
  obtain ⟨d1, d2, d3, d4⟩ := isD_out hd
  have h1 : m.toNat * s.toNat ≤ 12 * 10 := Nat.mul_le_mul (by omega) (by omega)
  have h2 : ((m.toNat * s.toNat : Nat) : Int) = m * s := by
    rw [Int.natCast_mul, Int.toNat_of_nonneg g1, Int.toNat_of_nonneg (by omega)]
  refine ⟨?_, by omega⟩
  rw [h2]
  exact wrap64 (by omega) (by omega)
theorem vD_0 {m s o : Int} : vD m 0 s o = (isD s o && (decide (0 ≤ m) && decide (m ≤ 12))) := by
  simp only [vD, Int.le_refl, decide_true, Bool.true_and]
  cases isD s o
  · rfl
  · cases decide (0 ≤ m) <;> simp
theorem s_MeanFalse {P : Program} (hm : P.follows .mixedOrders = true) {Γ : Gam} (hΓ : GS P Γ) {n : FuncId} {f_isDrawn : FuncId} {f_IsDoubt : FuncId} {f_fraction : FuncId} (is : Is P n (a_MeanFalse f_isDrawn f_IsDoubt f_fraction)) (h_isDrawn : Γ f_isDrawn = c_isDrawn) (h_IsDoubt : Γ f_IsDoubt = c_IsDoubt) (h_fraction : Γ f_fraction = c_fraction)  : Says P n c_MeanFalse := by
  refine Says.pure fun args r fs h => ?_
  split at h
  case h_2 => cases h
  rename_i m s o
  split at h
  case isFalse => cases h
  rename_i hc
  simp only [ofI_ints, ofBo_bools, ofAs_asks, Option.some.injEq, Prod.mk.injEq] at h hc
  obtain ⟨rfl, rfl⟩ := h
  cases h2 : (decide (0 ≤ m) && decide (m ≤ 12)) with
  | false =>
    have hv : vD m 0 s o = false := by simp only [vD, h2, Bool.and_false, Bool.false_and]
    refine is.go hm hΓ k_MeanFalse o_MeanFalse (by simp [a_MeanFalse]) ?_
    simp only [a_MeanFalse, h_isDrawn, c_isDrawn, h_IsDoubt, c_IsDoubt, h_fraction, c_fraction, h2, List.zipIdx_cons, List.zipIdx_nil, ↓SP, SQ, Gam.add, stepM, callC, argC, lendO, nmBy, nmC, likeL, likeB, plainOb, offs, exL, X, F, trP, trO, stepD, stepW, newA, SV.tr, SV.trL, fz, allP, Ob.tr, loadA, cellsA, SV.cells, binA, binI, eqOut, isSl, isPt, natOf, callee, snap, SV.refsL, SV.refs, thaw, fzAll, loA, hiA, elemOf, partsA, buildA, putCells, ↓reduceIte, reduceCtorEq, okCell, Nat.reduceAdd, Nat.reduceEqDiff, Nat.reduceSub, Nat.reduceMul, Nat.reduceLeDiff, Nat.reduceLT, Nat.reduceBEq, PV.scal, PV.scalL, SV.scal, SV.scalL, Ob.scal, PV.isCell, pure', resO]
    exact finA_val (by simp [cmV, hv, retA, rvA, mkE_cons, mk_nil, mkO_cons, mkO_nil, loadA, SV.tr, SV.trL, nmF, rn_nil, rn_cons1, rn_cons2, plainOb, SV.refsL, SV.refs, Ob.refs, X, F, List.range_succ, mkO, setO_mk]) (by simp [SV.tr, SV.trL])
  | true =>
    cases h1 : isD s o with
    | false =>
      have hv : vD m 0 s o = false := by simp only [vD, h1, Bool.false_and]
      refine is.go hm hΓ k_MeanFalse o_MeanFalse (by simp [a_MeanFalse]) ?_
      simp only [a_MeanFalse, h_isDrawn, c_isDrawn, h_IsDoubt, c_IsDoubt, h_fraction, c_fraction, h1, h2, List.zipIdx_cons, List.zipIdx_nil, ↓SP, SQ, Gam.add, stepM, callC, argC, lendO, nmBy, nmC, likeL, likeB, plainOb, offs, exL, X, F, trP, trO, stepD, stepW, newA, SV.tr, SV.trL, fz, allP, Ob.tr, loadA, cellsA, SV.cells, binA, binI, eqOut, isSl, isPt, natOf, callee, snap, SV.refsL, SV.refs, thaw, fzAll, loA, hiA, elemOf, partsA, buildA, putCells, ↓reduceIte, reduceCtorEq, okCell, Nat.reduceAdd, Nat.reduceEqDiff, Nat.reduceSub, Nat.reduceMul, Nat.reduceLeDiff, Nat.reduceLT, Nat.reduceBEq, PV.scal, PV.scalL, SV.scal, SV.scalL, Ob.scal, PV.isCell, pure', resO]
      exact finA_val (by simp [cmV, hv, retA, rvA, mkE_cons, mk_nil, mkO_cons, mkO_nil, loadA, SV.tr, SV.trL, nmF, rn_nil, rn_cons1, rn_cons2, plainOb, SV.refsL, SV.refs, Ob.refs, X, F, List.range_succ, mkO, setO_mk]) (by simp [SV.tr, SV.trL])
    | true =>
      have hv : vD m 0 s o = true := by rw [vD_0, h1, h2]; rfl
      obtain ⟨hd, _, _⟩ := vD_out hv
      obtain ⟨d1, d2, d3, d4⟩ := isD_out hd
      have d0 : 0 < o := by omega
      have dd : o ≤ 4000000000000000000 := by omega
      obtain ⟨hm2, a2⟩ := cm_mul hv
      have a1 : (0 : Int) ≤ ((m.toNat * s.toNat : Nat) : Int) := Int.natCast_nonneg _
      have hcf : cmV m s o = cuF (m.toNat * s.toNat) o.toNat := by simp only [cmV, hv, if_true]
      refine is.go hm hΓ k_MeanFalse o_MeanFalse (by simp [a_MeanFalse]) ?_
      simp only [a_MeanFalse, h_isDrawn, c_isDrawn, h_IsDoubt, c_IsDoubt, h_fraction, c_fraction, h1, h2, d0, dd, hm2, a1, a2, Int.toNat_natCast, List.zipIdx_cons, List.zipIdx_nil, ↓SP, SQ, Gam.add, stepM, callC, argC, lendO, nmBy, nmC, likeL, likeB, plainOb, offs, exL, X, F, trP, trO, stepD, stepW, newA, SV.tr, SV.trL, fz, allP, Ob.tr, loadA, cellsA, SV.cells, binA, binI, eqOut, isSl, isPt, natOf, callee, snap, SV.refsL, SV.refs, thaw, fzAll, loA, hiA, elemOf, partsA, buildA, putCells, ↓reduceIte, reduceCtorEq, okCell, Nat.reduceAdd, Nat.reduceEqDiff, Nat.reduceSub, Nat.reduceMul, Nat.reduceLeDiff, Nat.reduceLT, Nat.reduceBEq, PV.scal, PV.scalL, SV.scal, SV.scalL, Ob.scal, PV.isCell, pure', resO]
      exact finA_val (by simp [hcf, hv, cuF, retA, rvA, mkE_cons, mk_nil, mkO_cons, mkO_nil, loadA, SV.tr, SV.trL, nmF, rn_nil, rn_cons1, rn_cons2, plainOb, SV.refsL, SV.refs, Ob.refs, X, F, List.range_succ, mkO, setO_mk]) (by simp [SV.tr, SV.trL])
theorem s_s_MeanFalse {P : Program} (hm : P.follows .mixedOrders = true) {Γ : Gam} (hΓ : GS P Γ) {n : FuncId} {f_l7Drawn : FuncId} {f_l7Cut : FuncId} (is : Is P n (a_s_MeanFalse f_l7Drawn f_l7Cut)) (h_l7Drawn : Γ f_l7Drawn = c_l7Drawn) (h_l7Cut : Γ f_l7Cut = c_fraction)  : Says P n c_MeanFalse := by
  refine Says.pure fun args r fs h => ?_
  split at h
  case h_2 => cases h
  rename_i m s o
  split at h
  case isFalse => cases h
  rename_i hc
  simp only [ofI_ints, ofBo_bools, ofAs_asks, Option.some.injEq, Prod.mk.injEq] at h hc
  obtain ⟨rfl, rfl⟩ := h
  cases hv : vD m 0 s o with
  | false =>
    refine is.go hm hΓ k_s_MeanFalse o_s_MeanFalse (by simp [a_s_MeanFalse]) ?_
    simp only [a_s_MeanFalse, h_l7Drawn, c_l7Drawn, h_l7Cut, c_fraction, hv, List.zipIdx_cons, List.zipIdx_nil, ↓SP, SQ, Gam.add, stepM, callC, argC, lendO, nmBy, nmC, likeL, likeB, plainOb, offs, exL, X, F, trP, trO, stepD, stepW, newA, SV.tr, SV.trL, fz, allP, Ob.tr, loadA, cellsA, SV.cells, binA, binI, eqOut, isSl, isPt, natOf, callee, snap, SV.refsL, SV.refs, thaw, fzAll, loA, hiA, elemOf, partsA, buildA, putCells, ↓reduceIte, reduceCtorEq, okCell, Nat.reduceAdd, Nat.reduceEqDiff, Nat.reduceSub, Nat.reduceMul, Nat.reduceLeDiff, Nat.reduceLT, Nat.reduceBEq, PV.scal, PV.scalL, SV.scal, SV.scalL, Ob.scal, PV.isCell, pure', resO]
    exact finA_val (by simp [cmV, hv, retA, rvA, mkE_cons, mk_nil, mkO_cons, mkO_nil, loadA, SV.tr, SV.trL, nmF, rn_nil, rn_cons1, rn_cons2, plainOb, SV.refsL, SV.refs, Ob.refs, X, F, List.range_succ, mkO, setO_mk]) (by simp [SV.tr, SV.trL])
  | true =>
    obtain ⟨hd, _, _⟩ := vD_out hv
    obtain ⟨d1, d2, d3, d4⟩ := isD_out hd
    have d0 : 0 < o := by omega
    have dd : o ≤ 4000000000000000000 := by omega
    obtain ⟨hm2, a2⟩ := cm_mul hv
    have a1 : (0 : Int) ≤ ((m.toNat * s.toNat : Nat) : Int) := Int.natCast_nonneg _
    have hcf : cmV m s o = cuF (m.toNat * s.toNat) o.toNat := by simp only [cmV, hv, if_true]
    refine is.go hm hΓ k_s_MeanFalse o_s_MeanFalse (by simp [a_s_MeanFalse]) ?_
    simp only [a_s_MeanFalse, h_l7Drawn, c_l7Drawn, h_l7Cut, c_fraction, hv, d0, dd, hm2, a1, a2, Int.toNat_natCast, List.zipIdx_cons, List.zipIdx_nil, ↓SP, SQ, Gam.add, stepM, callC, argC, lendO, nmBy, nmC, likeL, likeB, plainOb, offs, exL, X, F, trP, trO, stepD, stepW, newA, SV.tr, SV.trL, fz, allP, Ob.tr, loadA, cellsA, SV.cells, binA, binI, eqOut, isSl, isPt, natOf, callee, snap, SV.refsL, SV.refs, thaw, fzAll, loA, hiA, elemOf, partsA, buildA, putCells, ↓reduceIte, reduceCtorEq, okCell, Nat.reduceAdd, Nat.reduceEqDiff, Nat.reduceSub, Nat.reduceMul, Nat.reduceLeDiff, Nat.reduceLT, Nat.reduceBEq, PV.scal, PV.scalL, SV.scal, SV.scalL, Ob.scal, PV.isCell, pure', resO]
    exact finA_val (by simp [hcf, hv, cuF, retA, rvA, mkE_cons, mk_nil, mkO_cons, mkO_nil, loadA, SV.tr, SV.trL, nmF, rn_nil, rn_cons1, rn_cons2, plainOb, SV.refsL, SV.refs, Ob.refs, X, F, List.range_succ, mkO, setO_mk]) (by simp [SV.tr, SV.trL])
def a_majority (f_dWithin : FuncId) : AFn := ⟨2, 
  .seq (.reg [⟨some 2, none, .w (.box 2 (.t 0))⟩,
    ⟨some 4, none, .d (.mv (.c (.int .i64 0)))⟩])
  (.seq (.reg [⟨some 5, none, .d (.load true 2 (.t 2))⟩,
    ⟨some 6, none, .d (.mv (.t 1))⟩,
    ⟨some 7, none, .d (.mv (.t 1))⟩,
    ⟨some 8, none, .d (.bin .arith .sub (.t 7) (.c (.int .i64 1)))⟩,
    ⟨some 9, none, .d (.bin .arith .quo (.t 8) (.c (.int .i64 2)))⟩,
    ⟨some 10, none, .d (.call (.f f_dWithin) [(.t 5), (.t 6), (.t 9)])⟩,
    ⟨some 4, none, .d (.mv (.t 10))⟩])
  (.ret)), [.tmp 4]⟩
def n_majority : Nat → Option Ann := fun _ => none
abbrev k_majority : List Nat := [0, 1, 2, 4]
abbrev o_majority : List Nat := [2]
def a_l7Majority (f_l7Within : FuncId) : AFn := ⟨2, 
  .seq (.reg [⟨some 3, none, .w (.box 2 (.t 1))⟩,
    ⟨some 4, none, .d (.mv (.c (.int .i64 0)))⟩])
  (.seq (.reg [⟨some 5, none, .d (.mv (.t 0))⟩,
    ⟨some 6, none, .d (.mv (.t 0))⟩,
    ⟨some 7, none, .d (.bin .arith .sub (.t 6) (.c (.int .i64 1)))⟩,
    ⟨some 8, none, .d (.bin .arith .quo (.t 7) (.c (.int .i64 2)))⟩,
    ⟨some 9, none, .d (.load true 2 (.t 3))⟩,
    ⟨some 10, none, .d (.call (.f f_l7Within) [(.t 5), (.t 8), (.t 9)])⟩,
    ⟨some 4, none, .d (.mv (.t 10))⟩])
  (.ret)), [.tmp 4]⟩
def n_l7Majority : Nat → Option Ann := fun _ => none
abbrev k_l7Majority : List Nat := [0, 1, 3, 4]
abbrev o_l7Majority : List Nat := [3]
def c_majority : Con := pure' fun
  | [.p (.agg [.int .i64 s, .int .i64 o]), .p (.int .i64 m)] => if (isD s o = true ∧ 1 ≤ m ∧ m ≤ 12) then some (.p (.int .i64 (inB s.toNat o.toNat m.toNat ((m.toNat - 1) / 2 + 1) : Int)), []) else none
  | _ => none
def c_l7Majority : Con := pure' fun
  | [.p (.int .i64 m), .p (.agg [.int .i64 s, .int .i64 o])] => if (isD s o = true ∧ 1 ≤ m ∧ m ≤ 12) then some (.p (.int .i64 (inB s.toNat o.toNat m.toNat ((m.toNat - 1) / 2 + 1) : Int)), []) else none
  | _ => none
theorem mj_half {m : Int} (h1 : 1 ≤ m) (h2 : m ≤ 12) : IntKind.i64.wrap (m - 1) = m - 1 ∧ IntKind.i64.wrap ((m - 1).tdiv 2) = ((((m.toNat - 1) / 2 : Nat)) : Int) ∧ (0 : Int) ≤ (((m.toNat - 1) / 2 : Nat) : Int) ∧ (((m.toNat - 1) / 2 : Nat) : Int) ≤ m := by
  have e : (m - 1).tdiv 2 = (((m.toNat - 1) / 2 : Nat) : Int) := by
    rw [Int.tdiv_eq_ediv_of_nonneg (by omega)]
    omega
  refine ⟨wrap64 (by omega) (by omega), ?_, by omega, by omega⟩
  rw [e]
  exact wrap64 (by omega) (by omega)
theorem s_majority {P : Program} (hm : P.follows .mixedOrders = true) {Γ : Gam} (hΓ : GS P Γ) {n : FuncId} {f_dWithin : FuncId} (is : Is P n (a_majority f_dWithin)) (h_dWithin : Γ f_dWithin = c_dWithin)  : Says P n c_majority := by
  refine Says.pure fun args r fs h => ?_
  split at h
  case h_2 => cases h
  rename_i s o m
  split at h
  case isFalse => cases h
  rename_i hc
  simp only [ofI_ints, ofBo_bools, ofAs_asks, Option.some.injEq, Prod.mk.injEq] at h hc
  obtain ⟨rfl, rfl⟩ := h
  obtain ⟨hd, h1, h2⟩ := hc
  obtain ⟨w1, w2, w3, w4⟩ := mj_half h1 h2
  refine is.go hm hΓ k_majority o_majority (by simp [a_majority]) ?_
  simp only [a_majority, h_dWithin, c_dWithin, (by decide : ¬ (2 : Int) = 0), hd, h2, w1, w2, w3, w4, Int.toNat_natCast, List.zipIdx_cons, List.zipIdx_nil, ↓SP, SQ, Gam.add, stepM, callC, argC, lendO, nmBy, nmC, likeL, likeB, plainOb, offs, exL, X, F, trP, trO, stepD, stepW, newA, SV.tr, SV.trL, fz, allP, Ob.tr, loadA, cellsA, SV.cells, binA, binI, eqOut, isSl, isPt, natOf, callee, snap, SV.refsL, SV.refs, thaw, fzAll, loA, hiA, elemOf, partsA, buildA, putCells, ↓reduceIte, reduceCtorEq, okCell, Nat.reduceAdd, Nat.reduceEqDiff, Nat.reduceSub, Nat.reduceMul, Nat.reduceLeDiff, Nat.reduceLT, Nat.reduceBEq, PV.scal, PV.scalL, SV.scal, SV.scalL, Ob.scal, PV.isCell, pure', resO]
  exact finA_val (by simp [retA, rvA, mkE_cons, mk_nil, mkO_cons, mkO_nil, loadA, SV.tr, SV.trL, nmF, rn_nil, rn_cons1, rn_cons2, plainOb, SV.refsL, SV.refs, Ob.refs, X, F, List.range_succ, mkO, setO_mk]) (by simp [SV.tr, SV.trL])
theorem s_l7Majority {P : Program} (hm : P.follows .mixedOrders = true) {Γ : Gam} (hΓ : GS P Γ) {n : FuncId} {f_l7Within : FuncId} (is : Is P n (a_l7Majority f_l7Within)) (h_l7Within : Γ f_l7Within = c_l7Within)  : Says P n c_l7Majority := by
  refine Says.pure fun args r fs h => ?_
  split at h
  case h_2 => cases h
  rename_i m s o
  split at h
  case isFalse => cases h
  rename_i hc
  simp only [ofI_ints, ofBo_bools, ofAs_asks, Option.some.injEq, Prod.mk.injEq] at h hc
  obtain ⟨rfl, rfl⟩ := h
  obtain ⟨hd, h1, h2⟩ := hc
  obtain ⟨w1, w2, w3, w4⟩ := mj_half h1 h2
  refine is.go hm hΓ k_l7Majority o_l7Majority (by simp [a_l7Majority]) ?_
  simp only [a_l7Majority, h_l7Within, c_l7Within, (by decide : ¬ (2 : Int) = 0), hd, h2, w1, w2, w3, w4, Int.toNat_natCast, List.zipIdx_cons, List.zipIdx_nil, ↓SP, SQ, Gam.add, stepM, callC, argC, lendO, nmBy, nmC, likeL, likeB, plainOb, offs, exL, X, F, trP, trO, stepD, stepW, newA, SV.tr, SV.trL, fz, allP, Ob.tr, loadA, cellsA, SV.cells, binA, binI, eqOut, isSl, isPt, natOf, callee, snap, SV.refsL, SV.refs, thaw, fzAll, loA, hiA, elemOf, partsA, buildA, putCells, ↓reduceIte, reduceCtorEq, okCell, Nat.reduceAdd, Nat.reduceEqDiff, Nat.reduceSub, Nat.reduceMul, Nat.reduceLeDiff, Nat.reduceLT, Nat.reduceBEq, PV.scal, PV.scalL, SV.scal, SV.scalL, Ob.scal, PV.isCell, pure', resO]
  exact finA_val (by simp [retA, rvA, mkE_cons, mk_nil, mkO_cons, mkO_nil, loadA, SV.tr, SV.trL, nmF, rn_nil, rn_cons1, rn_cons2, plainOb, SV.refsL, SV.refs, Ob.refs, X, F, List.range_succ, mkO, setO_mk]) (by simp [SV.tr, SV.trL])
def a_ChanceMajority (f_in : FuncId) (f_IsDoubt : FuncId) (f_majority : FuncId) (f_dOf : FuncId) : AFn := ⟨2, 
  .seq (.reg [⟨some 3, none, .w (.box 2 (.t 1))⟩,
    ⟨some 4, none, .w (.alloc [.int .i64 0, .int .i64 0])⟩,
    ⟨some 5, none, .d (.mv (.c (.bool false)))⟩])
  (.seq (.seq (.reg [⟨some 6, none, .d (.mv (.t 0))⟩,
    ⟨some 7, none, .d (.call (.f f_in) [(.t 6), (.c (.int .i64 1)), (.c (.int .i64 12))])⟩,
    ⟨some 8, none, .d (.not (.t 7))⟩,
    ⟨some 9, none, .d (.mv (.t 8))⟩,
    ⟨some 10, some (9, false), .d (.load true 2 (.t 3))⟩,
    ⟨some 11, some (9, false), .d (.call (.f f_IsDoubt) [(.t 10)])⟩,
    ⟨some 12, some (9, false), .d (.not (.t 11))⟩,
    ⟨some 13, none, .d (.pick (.t 9) (.c (.bool true)) (.t 12))⟩])
  (.cond (.t 13) (.seq (.reg [⟨some 14, none, .d (.build [.int .i64 0, .int .i64 0] [])⟩,
     ⟨none, none, .w (.store 2 (.t 4) (.t 14))⟩,
     ⟨some 5, none, .d (.mv (.c (.bool false)))⟩])
   (.ret)) (.skip)))
  (.seq (.dreg [] [([], ⟨some 15, none, .d (.load true 2 (.t 3))⟩),
    ([], ⟨some 16, none, .d (.mv (.t 0))⟩),
    ([], ⟨some 17, none, .d (.load true 2 (.t 3))⟩),
    ([], ⟨some 18, none, .d (.mv (.t 0))⟩),
    ([], ⟨some 19, none, .d (.call (.f f_majority) [(.t 17), (.t 18)])⟩)] [⟨some 20, none, .d (.call (.f f_dOf) [(.t 15), (.t 16), (.t 19)])⟩,
    ⟨none, none, .w (.store 2 (.t 4) (.t 20))⟩,
    ⟨some 5, none, .d (.mv (.c (.bool true)))⟩])
  (.ret))), [.cell 4 2 true, .tmp 5]⟩
def n_ChanceMajority : Nat → Option Ann := fun _ => none
abbrev k_ChanceMajority : List Nat := [0, 1, 3, 4, 5, 13]
abbrev o_ChanceMajority : List Nat := [3, 4]
def a_s_ChanceMajority (f_l7Drawn : FuncId) (f_l7Majority : FuncId) (f_l7Power : FuncId) (f_l7Cut : FuncId) : AFn := ⟨2, 
  .seq (.reg [⟨some 3, none, .w (.box 2 (.t 1))⟩,
    ⟨some 4, none, .w (.alloc [.int .i64 0, .int .i64 0])⟩,
    ⟨some 5, none, .d (.mv (.c (.bool false)))⟩])
  (.seq (.seq (.reg [⟨some 6, none, .d (.mv (.t 0))⟩,
    ⟨some 7, none, .d (.load true 2 (.t 3))⟩,
    ⟨some 8, none, .d (.call (.f f_l7Drawn) [(.t 6), (.c (.int .i64 0)), (.t 7)])⟩,
    ⟨some 9, none, .d (.not (.t 8))⟩,
    ⟨some 10, none, .d (.mv (.t 9))⟩,
    ⟨some 11, some (10, false), .d (.mv (.t 0))⟩,
    ⟨some 12, some (10, false), .d (.bin .arith .eql (.t 11) (.c (.int .i64 0)))⟩,
    ⟨some 13, none, .d (.pick (.t 10) (.c (.bool true)) (.t 12))⟩])
  (.cond (.t 13) (.seq (.reg [⟨some 14, none, .d (.build [.int .i64 0, .int .i64 0] [])⟩,
     ⟨none, none, .w (.store 2 (.t 4) (.t 14))⟩,
     ⟨some 5, none, .d (.mv (.c (.bool false)))⟩])
   (.ret)) (.skip)))
  (.seq (.dreg [] [([], ⟨some 15, none, .d (.mv (.t 0))⟩),
    ([], ⟨some 16, none, .d (.load true 2 (.t 3))⟩),
    ([], ⟨some 17, none, .d (.call (.f f_l7Majority) [(.t 15), (.t 16)])⟩),
    ([], ⟨some 18, none, .d (.fa 1 (.t 3))⟩),
    ([], ⟨some 19, none, .d (.load false 1 (.t 18))⟩),
    ([], ⟨some 20, none, .d (.mv (.t 0))⟩)] [⟨some 21, none, .d (.call (.f f_l7Power) [(.t 19), (.t 20)])⟩,
    ⟨some 22, none, .d (.call (.f f_l7Cut) [(.t 17), (.t 21)])⟩,
    ⟨none, none, .w (.store 2 (.t 4) (.t 22))⟩,
    ⟨some 5, none, .d (.mv (.c (.bool true)))⟩])
  (.ret))), [.cell 4 2 true, .tmp 5]⟩
def n_s_ChanceMajority : Nat → Option Ann := fun _ => none
abbrev k_s_ChanceMajority : List Nat := [0, 1, 3, 4, 5, 13]
abbrev o_s_ChanceMajority : List Nat := [3, 4]
def c_ChanceMajority : Con := pure' fun
  | [.p (.int .i64 m), .p (.agg [.int .i64 s, .int .i64 o])] => if (True) then some (.tp [.ag [.p (.int .i64 (caV m s o).1), .p (.int .i64 (caV m s o).2)], .p (.bool (vM m s o))], []) else none
  | _ => none
theorem vM_out {m s o : Int} (h : vM m s o = true) : isD s o = true ∧ 1 ≤ m ∧ m ≤ 12 := by
  simp only [vM, Bool.and_eq_true, decide_eq_true_eq] at h
  exact ⟨h.2, h.1⟩
theorem ca_bd {m s o : Int} (hv : vM m s o = true) : ((inB s.toNat o.toNat m.toNat ((m.toNat - 1) / 2 + 1) : Nat) : Int) ≤ 4000000000000000000 := by
  obtain ⟨hd, g1, g2⟩ := vM_out hv
  obtain ⟨d1, d2, d3, d4⟩ := isD_out hd
  have hst := inB_le (s := s.toNat) (o := o.toNat) (n := m.toNat) (by omega) (by omega) (by omega) ((m.toNat - 1) / 2 + 1) (by omega)
  omega
theorem s_ChanceMajority {P : Program} (hm : P.follows .mixedOrders = true) {Γ : Gam} (hΓ : GS P Γ) {n : FuncId} {f_in : FuncId} {f_IsDoubt : FuncId} {f_majority : FuncId} {f_dOf : FuncId} (is : Is P n (a_ChanceMajority f_in f_IsDoubt f_majority f_dOf)) (h_in : Γ f_in = c_in) (h_IsDoubt : Γ f_IsDoubt = c_IsDoubt) (h_majority : Γ f_majority = c_majority) (h_dOf : Γ f_dOf = c_dOf)  : Says P n c_ChanceMajority := by
  refine Says.pure fun args r fs h => ?_
  split at h
  case h_2 => cases h
  rename_i m s o
  split at h
  case isFalse => cases h
  rename_i hc
  simp only [ofI_ints, ofBo_bools, ofAs_asks, Option.some.injEq, Prod.mk.injEq] at h hc
  obtain ⟨rfl, rfl⟩ := h
  cases h2 : (decide (1 ≤ m) && decide (m ≤ 12)) with
  | false =>
    have hv : vM m s o = false := by simp only [vM, h2, Bool.false_and]
    refine is.go hm hΓ k_ChanceMajority o_ChanceMajority (by simp [a_ChanceMajority]) ?_
    simp only [a_ChanceMajority, h_in, c_in, h_IsDoubt, c_IsDoubt, h_majority, c_majority, h_dOf, c_dOf, h2, List.zipIdx_cons, List.zipIdx_nil, ↓SP, SQ, Gam.add, stepM, callC, argC, lendO, nmBy, nmC, likeL, likeB, plainOb, offs, exL, X, F, trP, trO, stepD, stepW, newA, SV.tr, SV.trL, fz, allP, Ob.tr, loadA, cellsA, SV.cells, binA, binI, eqOut, isSl, isPt, natOf, callee, snap, SV.refsL, SV.refs, thaw, fzAll, loA, hiA, elemOf, partsA, buildA, putCells, ↓reduceIte, reduceCtorEq, okCell, Nat.reduceAdd, Nat.reduceEqDiff, Nat.reduceSub, Nat.reduceMul, Nat.reduceLeDiff, Nat.reduceLT, Nat.reduceBEq, PV.scal, PV.scalL, SV.scal, SV.scalL, Ob.scal, PV.isCell, pure', resO]
    exact finA_val (by simp [caV, hv, retA, rvA, mkE_cons, mk_nil, mkO_cons, mkO_nil, loadA, SV.tr, SV.trL, nmF, rn_nil, rn_cons1, rn_cons2, plainOb, SV.refsL, SV.refs, Ob.refs, X, F, List.range_succ, mkO, setO_mk]) (by simp [SV.tr, SV.trL])
  | true =>
    cases h1 : isD s o with
    | false =>
      have hv : vM m s o = false := by simp only [vM, h1, Bool.and_false]
      refine is.go hm hΓ k_ChanceMajority o_ChanceMajority (by simp [a_ChanceMajority]) ?_
      simp only [a_ChanceMajority, h_in, c_in, h_IsDoubt, c_IsDoubt, h_majority, c_majority, h_dOf, c_dOf, h1, h2, List.zipIdx_cons, List.zipIdx_nil, ↓SP, SQ, Gam.add, stepM, callC, argC, lendO, nmBy, nmC, likeL, likeB, plainOb, offs, exL, X, F, trP, trO, stepD, stepW, newA, SV.tr, SV.trL, fz, allP, Ob.tr, loadA, cellsA, SV.cells, binA, binI, eqOut, isSl, isPt, natOf, callee, snap, SV.refsL, SV.refs, thaw, fzAll, loA, hiA, elemOf, partsA, buildA, putCells, ↓reduceIte, reduceCtorEq, okCell, Nat.reduceAdd, Nat.reduceEqDiff, Nat.reduceSub, Nat.reduceMul, Nat.reduceLeDiff, Nat.reduceLT, Nat.reduceBEq, PV.scal, PV.scalL, SV.scal, SV.scalL, Ob.scal, PV.isCell, pure', resO]
      exact finA_val (by simp [caV, hv, retA, rvA, mkE_cons, mk_nil, mkO_cons, mkO_nil, loadA, SV.tr, SV.trL, nmF, rn_nil, rn_cons1, rn_cons2, plainOb, SV.refsL, SV.refs, Ob.refs, X, F, List.range_succ, mkO, setO_mk]) (by simp [SV.tr, SV.trL])
    | true =>
      have hv : vM m s o = true := by simp only [vM, h1, h2, Bool.and_self]
      obtain ⟨hd, g1, g2⟩ := vM_out hv
      have g0 : 0 ≤ m := by omega
      have a2 := ca_bd hv
      have a1 : (0 : Int) ≤ ((inB s.toNat o.toNat m.toNat ((m.toNat - 1) / 2 + 1) : Nat) : Int) := Int.natCast_nonneg _
      have hcf : caV m s o = cuF (inB s.toNat o.toNat m.toNat ((m.toNat - 1) / 2 + 1)) (o.toNat ^ m.toNat) := by simp only [caV, hv, if_true]
      refine is.go hm hΓ k_ChanceMajority o_ChanceMajority (by simp [a_ChanceMajority]) ?_
      simp only [a_ChanceMajority, h_in, c_in, h_IsDoubt, c_IsDoubt, h_majority, c_majority, h_dOf, c_dOf, h1, h2, g0, g1, g2, a1, a2, Int.toNat_natCast, List.zipIdx_cons, List.zipIdx_nil, ↓SP, SQ, Gam.add, stepM, callC, argC, lendO, nmBy, nmC, likeL, likeB, plainOb, offs, exL, X, F, trP, trO, stepD, stepW, newA, SV.tr, SV.trL, fz, allP, Ob.tr, loadA, cellsA, SV.cells, binA, binI, eqOut, isSl, isPt, natOf, callee, snap, SV.refsL, SV.refs, thaw, fzAll, loA, hiA, elemOf, partsA, buildA, putCells, ↓reduceIte, reduceCtorEq, okCell, Nat.reduceAdd, Nat.reduceEqDiff, Nat.reduceSub, Nat.reduceMul, Nat.reduceLeDiff, Nat.reduceLT, Nat.reduceBEq, PV.scal, PV.scalL, SV.scal, SV.scalL, Ob.scal, PV.isCell, pure', resO]
      exact finA_val (by simp [hcf, hv, cuF, retA, rvA, mkE_cons, mk_nil, mkO_cons, mkO_nil, loadA, SV.tr, SV.trL, nmF, rn_nil, rn_cons1, rn_cons2, plainOb, SV.refsL, SV.refs, Ob.refs, X, F, List.range_succ, mkO, setO_mk]) (by simp [SV.tr, SV.trL])
theorem s_s_ChanceMajority {P : Program} (hm : P.follows .mixedOrders = true) {Γ : Gam} (hΓ : GS P Γ) {n : FuncId} {f_l7Drawn : FuncId} {f_l7Majority : FuncId} {f_l7Power : FuncId} {f_l7Cut : FuncId} (is : Is P n (a_s_ChanceMajority f_l7Drawn f_l7Majority f_l7Power f_l7Cut)) (h_l7Drawn : Γ f_l7Drawn = c_l7Drawn) (h_l7Majority : Γ f_l7Majority = c_l7Majority) (h_l7Power : Γ f_l7Power = c_power) (h_l7Cut : Γ f_l7Cut = c_fraction)  : Says P n c_ChanceMajority := by
  refine Says.pure fun args r fs h => ?_
  split at h
  case h_2 => cases h
  rename_i m s o
  split at h
  case isFalse => cases h
  rename_i hc
  simp only [ofI_ints, ofBo_bools, ofAs_asks, Option.some.injEq, Prod.mk.injEq] at h hc
  obtain ⟨rfl, rfl⟩ := h
  cases h3 : vD m 0 s o with
  | false =>
    have hv : vM m s o = false := by
      rw [vD_0] at h3
      cases hv : vM m s o with
      | false => rfl
      | true =>
        obtain ⟨hd, g1, g2⟩ := vM_out hv
        rw [hd, dec_t (show 0 ≤ m by omega), dec_t g2] at h3; cases h3
    refine is.go hm hΓ k_s_ChanceMajority o_s_ChanceMajority (by simp [a_s_ChanceMajority]) ?_
    simp only [a_s_ChanceMajority, h_l7Drawn, c_l7Drawn, h_l7Majority, c_l7Majority, h_l7Power, c_power, h_l7Cut, c_fraction, h3, List.zipIdx_cons, List.zipIdx_nil, ↓SP, SQ, Gam.add, stepM, callC, argC, lendO, nmBy, nmC, likeL, likeB, plainOb, offs, exL, X, F, trP, trO, stepD, stepW, newA, SV.tr, SV.trL, fz, allP, Ob.tr, loadA, cellsA, SV.cells, binA, binI, eqOut, isSl, isPt, natOf, callee, snap, SV.refsL, SV.refs, thaw, fzAll, loA, hiA, elemOf, partsA, buildA, putCells, ↓reduceIte, reduceCtorEq, okCell, Nat.reduceAdd, Nat.reduceEqDiff, Nat.reduceSub, Nat.reduceMul, Nat.reduceLeDiff, Nat.reduceLT, Nat.reduceBEq, PV.scal, PV.scalL, SV.scal, SV.scalL, Ob.scal, PV.isCell, pure', resO]
    exact finA_val (by simp [caV, hv, retA, rvA, mkE_cons, mk_nil, mkO_cons, mkO_nil, loadA, SV.tr, SV.trL, nmF, rn_nil, rn_cons1, rn_cons2, plainOb, SV.refsL, SV.refs, Ob.refs, X, F, List.range_succ, mkO, setO_mk]) (by simp [SV.tr, SV.trL])
  | true =>
    obtain ⟨hd, ⟨g0, g2⟩, _⟩ := vD_out h3
    by_cases h0 : m = 0
    · have hv : vM m s o = false := by subst h0; rfl
      have he : (m == 0) = true := by simp [h0]
      refine is.go hm hΓ k_s_ChanceMajority o_s_ChanceMajority (by simp [a_s_ChanceMajority]) ?_
      simp only [a_s_ChanceMajority, h_l7Drawn, c_l7Drawn, h_l7Majority, c_l7Majority, h_l7Power, c_power, h_l7Cut, c_fraction, h3, he, List.zipIdx_cons, List.zipIdx_nil, ↓SP, SQ, Gam.add, stepM, callC, argC, lendO, nmBy, nmC, likeL, likeB, plainOb, offs, exL, X, F, trP, trO, stepD, stepW, newA, SV.tr, SV.trL, fz, allP, Ob.tr, loadA, cellsA, SV.cells, binA, binI, eqOut, isSl, isPt, natOf, callee, snap, SV.refsL, SV.refs, thaw, fzAll, loA, hiA, elemOf, partsA, buildA, putCells, ↓reduceIte, reduceCtorEq, okCell, Nat.reduceAdd, Nat.reduceEqDiff, Nat.reduceSub, Nat.reduceMul, Nat.reduceLeDiff, Nat.reduceLT, Nat.reduceBEq, PV.scal, PV.scalL, SV.scal, SV.scalL, Ob.scal, PV.isCell, pure', resO]
      exact finA_val (by simp [caV, hv, retA, rvA, mkE_cons, mk_nil, mkO_cons, mkO_nil, loadA, SV.tr, SV.trL, nmF, rn_nil, rn_cons1, rn_cons2, plainOb, SV.refsL, SV.refs, Ob.refs, X, F, List.range_succ, mkO, setO_mk]) (by simp [SV.tr, SV.trL])
    · have he : (m == 0) = false := by simp [h0]
      have g1 : 1 ≤ m := by omega
      have hv : vM m s o = true := by simp only [vM, hd, dec_t g1, dec_t g2, Bool.and_self]
      obtain ⟨d1, d2, d3, d4⟩ := isD_out hd
      have d0 : 0 ≤ o := by omega
      obtain ⟨p1, p2⟩ := pw12 hd g0 g2
      have a2 := ca_bd hv
      have a1 : (0 : Int) ≤ ((inB s.toNat o.toNat m.toNat ((m.toNat - 1) / 2 + 1) : Nat) : Int) := Int.natCast_nonneg _
      have hcf : caV m s o = cuF (inB s.toNat o.toNat m.toNat ((m.toNat - 1) / 2 + 1)) (o.toNat ^ m.toNat) := by simp only [caV, hv, if_true]
      refine is.go hm hΓ k_s_ChanceMajority o_s_ChanceMajority (by simp [a_s_ChanceMajority]) ?_
      simp only [a_s_ChanceMajority, h_l7Drawn, c_l7Drawn, h_l7Majority, c_l7Majority, h_l7Power, c_power, h_l7Cut, c_fraction, h3, he, hd, d0, d2, g0, g1, g2, p1, p2, a1, a2, Int.toNat_natCast, List.zipIdx_cons, List.zipIdx_nil, ↓SP, SQ, Gam.add, stepM, callC, argC, lendO, nmBy, nmC, likeL, likeB, plainOb, offs, exL, X, F, trP, trO, stepD, stepW, newA, SV.tr, SV.trL, fz, allP, Ob.tr, loadA, cellsA, SV.cells, binA, binI, eqOut, isSl, isPt, natOf, callee, snap, SV.refsL, SV.refs, thaw, fzAll, loA, hiA, elemOf, partsA, buildA, putCells, ↓reduceIte, reduceCtorEq, okCell, Nat.reduceAdd, Nat.reduceEqDiff, Nat.reduceSub, Nat.reduceMul, Nat.reduceLeDiff, Nat.reduceLT, Nat.reduceBEq, PV.scal, PV.scalL, SV.scal, SV.scalL, Ob.scal, PV.isCell, pure', resO]
      exact finA_val (by simp [hcf, hv, cuF, retA, rvA, mkE_cons, mk_nil, mkO_cons, mkO_nil, loadA, SV.tr, SV.trL, nmF, rn_nil, rn_cons1, rn_cons2, plainOb, SV.refsL, SV.refs, Ob.refs, X, F, List.range_succ, mkO, setO_mk]) (by simp [SV.tr, SV.trL])
end Go.Proofs.Ytmbljmolegalhaa.Pam
