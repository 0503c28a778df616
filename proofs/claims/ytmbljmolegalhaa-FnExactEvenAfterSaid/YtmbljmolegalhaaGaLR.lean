/- A part of the proof that stands in this folder: a small machine whose steps are shown to be the steps of the model, or walks of functions by it. No condition of its own. -/
import Derived.Test.YtmbljmolegalhaaGaLQ
set_option linter.unusedVariables false
set_option linter.unusedSimpArgs false
namespace Go.Proofs.Ytmbljmolegalhaa.Pam
open Go
def a_x_LikeliestAfter (f_szAskedS : FuncId) (f_toAskedS : FuncId) (f_toDoubt : FuncId) (f_s_LikeliestAfter : FuncId) (f_LikeliestAfter : FuncId) (f_eqAskedS : FuncId) : AFn := ⟨3, 
  .seq (.reg [⟨some 5, none, .w (.box 2 (.t 2))⟩,
    ⟨some 6, none, .d (.mv (.c (.bool false)))⟩])
  (.seq (.reg [⟨some 7, none, .d (.mv (.c (.int .i64 1048576)))⟩])
  (.seq (.reg [⟨some 13, none, .d (.mv (.t 1))⟩,
    ⟨some 14, none, .d (.mv (.t 7))⟩,
    ⟨some 15, none, .d (.call (.f f_szAskedS) [(.t 13), (.t 14)])⟩,
    ⟨some 7, none, .d (.mv (.t 15))⟩])
  (.seq (.seq (.reg [⟨some 16, none, .d (.mv (.t 7))⟩,
    ⟨some 17, none, .d (.bin .arith .lss (.t 16) (.c (.int .i64 0)))⟩])
  (.cond (.t 17) (.seq (.reg [⟨some 6, none, .d (.mv (.c (.bool true)))⟩])
   (.ret)) (.skip)))
  (.seq (.dreg [] [([], ⟨some 19, none, .d (.mv (.t 0))⟩),
    ([], ⟨some 20, none, .d (.mv (.t 1))⟩),
    ([], ⟨some 21, none, .d (.call (.f f_toAskedS) [(.t 20)])⟩),
    ([], ⟨some 22, none, .d (.load true 2 (.t 5))⟩),
    ([], ⟨some 23, none, .d (.call (.f f_toDoubt) [(.t 22)])⟩),
    ([], ⟨some 24, none, .d (.call (.f f_s_LikeliestAfter) [(.t 19), (.t 21), (.t 23)])⟩),
    ([], ⟨some 18, none, .d (.mv (.t 24))⟩),
    ([], ⟨some 25, none, .d (.extract (.t 18) 0)⟩),
    ([], ⟨some 26, none, .d (.extract (.t 18) 1)⟩),
    ([], ⟨some 8, none, .d (.mv (.t 25))⟩)] [⟨some 9, none, .d (.mv (.t 26))⟩])
  (.seq (.reg [⟨some 27, none, .d (.mv (.t 1))⟩,
    ⟨some 28, none, .d (.call (.f f_toAskedS) [(.t 27)])⟩,
    ⟨some 10, none, .d (.mv (.t 28))⟩])
  (.seq (.reg [⟨some 30, none, .d (.mv (.t 0))⟩,
    ⟨some 31, none, .d (.mv (.t 10))⟩,
    ⟨some 32, none, .d (.load true 2 (.t 5))⟩,
    ⟨some 33, none, .d (.call (.f f_toDoubt) [(.t 32)])⟩,
    ⟨some 34, none, .d (.call (.f f_LikeliestAfter) [(.t 30), (.t 31), (.t 33)])⟩,
    ⟨some 29, none, .d (.mv (.t 34))⟩,
    ⟨some 35, none, .d (.extract (.t 29) 0)⟩,
    ⟨some 36, none, .d (.extract (.t 29) 1)⟩,
    ⟨some 11, none, .d (.mv (.t 35))⟩,
    ⟨some 12, none, .d (.mv (.t 36))⟩])
  (.seq (.seq (.reg [⟨some 37, none, .d (.mv (.t 11))⟩,
    ⟨some 38, none, .d (.mv (.t 8))⟩,
    ⟨some 39, none, .d (.bin .arith .neq (.t 37) (.t 38))⟩,
    ⟨some 40, none, .d (.mv (.t 39))⟩,
    ⟨some 41, some (40, false), .d (.mv (.t 12))⟩,
    ⟨some 42, some (40, false), .d (.mv (.t 9))⟩,
    ⟨some 43, some (40, false), .d (.bin .bool .neq (.t 41) (.t 42))⟩,
    ⟨some 44, none, .d (.pick (.t 40) (.c (.bool true)) (.t 43))⟩])
  (.cond (.t 44) (.seq (.reg [⟨some 6, none, .d (.mv (.c (.bool false)))⟩])
   (.ret)) (.skip)))
  (.seq (.seq (.reg [⟨some 45, none, .d (.mv (.t 10))⟩,
    ⟨some 46, none, .d (.mv (.t 1))⟩,
    ⟨some 47, none, .d (.call (.f f_toAskedS) [(.t 46)])⟩,
    ⟨some 48, none, .d (.call (.f f_eqAskedS) [(.t 45), (.t 47)])⟩,
    ⟨some 49, none, .d (.not (.t 48))⟩])
  (.cond (.t 49) (.seq (.reg [⟨some 6, none, .d (.mv (.c (.bool false)))⟩])
   (.ret)) (.skip)))
  (.seq (.reg [⟨some 6, none, .d (.mv (.c (.bool true)))⟩])
  (.ret)))))))))), [.tmp 6]⟩
def n_x_LikeliestAfter : Nat → Option Ann := fun _ => none
abbrev k_x_LikeliestAfter : List Nat := [0, 1, 2, 5, 6, 7, 8, 9, 10, 11, 12, 17, 44, 49]
abbrev o_x_LikeliestAfter : List Nat := [5]
def c_x_LikeliestAfter : Con := pure' fun
  | [.p (.int .i64 n), .p v, .p (.agg [.int .i64 s, .int .i64 o])] => match slA v with
    | some l => if l.length ≤ 9223372036854775807 then some (.p (.bool true), []) else none
    | none => none
  | _ => none
set_option maxRecDepth 100000 in
theorem s_x_LikeliestAfter {P : Program} (hm : P.follows .mixedOrders = true) {Γ : Gam} (hΓ : GS P Γ) {n : FuncId} {f_szAskedS : FuncId} {f_toAskedS : FuncId} {f_toDoubt : FuncId} {f_s_LikeliestAfter : FuncId} {f_LikeliestAfter : FuncId} {f_eqAskedS : FuncId} (is : Is P n (a_x_LikeliestAfter f_szAskedS f_toAskedS f_toDoubt f_s_LikeliestAfter f_LikeliestAfter f_eqAskedS)) (h_szAskedS : Γ f_szAskedS = c_szAskedS) (h_toAskedS : Γ f_toAskedS = c_toAskedS) (h_toDoubt : Γ f_toDoubt = c_toDoubt) (h_s_LikeliestAfter : Γ f_s_LikeliestAfter = c_LikeliestAfter) (h_LikeliestAfter : Γ f_LikeliestAfter = c_LikeliestAfter) (h_eqAskedS : Γ f_eqAskedS = c_eqAskedS)  : Says P n c_x_LikeliestAfter := by
  refine Says.pure fun args r fs h => ?_
  split at h
  case h_2 => cases h
  rename_i n v s o
  split at h
  case h_2 => cases h
  rename_i l hl
  split at h
  case isFalse => cases h
  rename_i hc
  simp only [Option.some.injEq, Prod.mk.injEq] at h
  obtain ⟨rfl, rfl⟩ := h
  have hlp := slA_lenP hl
  by_cases hk : (1048576 : Int) - (l.length : Int) < 0
  · refine is.go hm hΓ k_x_LikeliestAfter o_x_LikeliestAfter (by simp [a_x_LikeliestAfter]) ?_
    simp only [a_x_LikeliestAfter, h_szAskedS, c_szAskedS, h_toAskedS, c_toAskedS, h_toDoubt, c_toDoubt, h_s_LikeliestAfter, c_LikeliestAfter, h_LikeliestAfter, c_LikeliestAfter, h_eqAskedS, c_eqAskedS, hlp, hc, hk, Int.reduceLE, Int.reduceNeg, Int.reduceLT, List.zipIdx_cons, List.zipIdx_nil, ↓SP, SQ, Gam.add, stepM, callC, argC, lendO, nmBy, nmC, likeL, likeB, plainOb, offs, X, F, trP, trO, stepD, stepW, newA, SV.tr, SV.trL, fz, allP, Ob.tr, loadA, cellsA, SV.cells, binA, binI, eqOut, isSl, isPt, natOf, callee, snap, SV.refsL, SV.refs, thaw, fzAll, loA, hiA, elemOf, partsA, buildA, putCells, ↓reduceIte, reduceCtorEq, okCell, Nat.reduceAdd, Nat.reduceEqDiff, Nat.reduceSub, Nat.reduceMul, Nat.reduceLeDiff, Nat.reduceLT, Nat.reduceBEq, PV.scal, PV.scalL, SV.scal, SV.scalL, Ob.scal, PV.isCell, pure', resO]
    exact finA_val (by simp [retA, rvA, List.mapM_cons, List.mapM_nil, Option.pure_def, Option.bind_eq_bind, Option.bind_some, Option.map_some, mkE_cons, mk_nil, mkO_cons, mkO_nil, loadA, ↓reduceIte, List.take_succ_cons, List.take_zero, List.drop_zero, List.drop_succ_cons, List.length_cons, List.length_nil, Nat.reduceAdd, Nat.reduceEqDiff, Nat.reduceLeDiff, Nat.zero_add, Nat.le_refl, reduceCtorEq, SV.tr, SV.trL, nmF, rn_nil, rn_cons1, rn_cons2, List.map_cons, List.map_nil, List.all_cons, List.all_nil, plainOb, SV.refsL, SV.refs, Ob.refs, X, F, List.range_succ, List.range_zero, List.nil_append, List.cons_append, List.isEmpty_nil, decide_true, Nat.reduceLT, Bool.and_self, Bool.and_true, and_self, and_true, List.getElem?_cons_zero, List.getElem?_cons_succ, List.nodup_cons, List.nodup_nil, List.mem_cons, List.not_mem_nil, not_false_eq_true, or_false, List.append_nil, mkO, setO_mk, List.mem_singleton]) (by simp [SV.tr, SV.trL])
  · have hlen : l.length ≤ 1048576 := by omega
    have hlen2 : l.length ≤ 1100000 := by omega
    generalize hg1 : (if okP n l s o = true then (amI (partL s o l n.toNat) n.toNat : Int) else 0) = b1 at *
    generalize hg2 : okP n l s o = b2 at *
    refine is.go hm hΓ k_x_LikeliestAfter o_x_LikeliestAfter (by simp [a_x_LikeliestAfter]) ?_
    simp only [a_x_LikeliestAfter, h_szAskedS, c_szAskedS, h_toAskedS, c_toAskedS, h_toDoubt, c_toDoubt, h_s_LikeliestAfter, c_LikeliestAfter, h_LikeliestAfter, c_LikeliestAfter, h_eqAskedS, c_eqAskedS, hl, hlp, hc, hk, hlen, hlen2, hg1, hg2, slA_sl, beq_self_eq_true, Bool.not_true, Int.reduceLE, Int.reduceNeg, Int.reduceLT, bne_self_eq_false, List.zipIdx_cons, List.zipIdx_nil, ↓SP, SQ, Gam.add, stepM, callC, argC, lendO, nmBy, nmC, likeL, likeB, plainOb, offs, X, F, trP, trO, stepD, stepW, newA, SV.tr, SV.trL, fz, allP, Ob.tr, loadA, cellsA, SV.cells, binA, binI, eqOut, isSl, isPt, natOf, callee, snap, SV.refsL, SV.refs, thaw, fzAll, loA, hiA, elemOf, partsA, buildA, putCells, ↓reduceIte, reduceCtorEq, okCell, Nat.reduceAdd, Nat.reduceEqDiff, Nat.reduceSub, Nat.reduceMul, Nat.reduceLeDiff, Nat.reduceLT, Nat.reduceBEq, PV.scal, PV.scalL, SV.scal, SV.scalL, Ob.scal, PV.isCell, pure', resO]
    exact finA_val (by simp [retA, rvA, List.mapM_cons, List.mapM_nil, Option.pure_def, Option.bind_eq_bind, Option.bind_some, Option.map_some, mkE_cons, mk_nil, mkO_cons, mkO_nil, loadA, ↓reduceIte, List.take_succ_cons, List.take_zero, List.drop_zero, List.drop_succ_cons, List.length_cons, List.length_nil, Nat.reduceAdd, Nat.reduceEqDiff, Nat.reduceLeDiff, Nat.zero_add, Nat.le_refl, reduceCtorEq, SV.tr, SV.trL, nmF, rn_nil, rn_cons1, rn_cons2, List.map_cons, List.map_nil, List.all_cons, List.all_nil, plainOb, SV.refsL, SV.refs, Ob.refs, X, F, List.range_succ, List.range_zero, List.nil_append, List.cons_append, List.isEmpty_nil, decide_true, Nat.reduceLT, Bool.and_self, Bool.and_true, and_self, and_true, List.getElem?_cons_zero, List.getElem?_cons_succ, List.nodup_cons, List.nodup_nil, List.mem_cons, List.not_mem_nil, not_false_eq_true, or_false, List.append_nil, mkO, setO_mk, List.mem_singleton]) (by simp [SV.tr, SV.trL])
def a_x_EvenAfter (f_szAskedS : FuncId) (f_toAskedS : FuncId) (f_toDoubt : FuncId) (f_s_EvenAfter : FuncId) (f_EvenAfter : FuncId) (f_eqAskedS : FuncId) : AFn := ⟨3, 
  .seq (.reg [⟨some 5, none, .w (.box 2 (.t 2))⟩,
    ⟨some 6, none, .d (.mv (.c (.bool false)))⟩])
  (.seq (.reg [⟨some 7, none, .d (.mv (.c (.int .i64 1048576)))⟩])
  (.seq (.reg [⟨some 13, none, .d (.mv (.t 1))⟩,
    ⟨some 14, none, .d (.mv (.t 7))⟩,
    ⟨some 15, none, .d (.call (.f f_szAskedS) [(.t 13), (.t 14)])⟩,
    ⟨some 7, none, .d (.mv (.t 15))⟩])
  (.seq (.seq (.reg [⟨some 16, none, .d (.mv (.t 7))⟩,
    ⟨some 17, none, .d (.bin .arith .lss (.t 16) (.c (.int .i64 0)))⟩])
  (.cond (.t 17) (.seq (.reg [⟨some 6, none, .d (.mv (.c (.bool true)))⟩])
   (.ret)) (.skip)))
  (.seq (.dreg [] [([], ⟨some 19, none, .d (.mv (.t 0))⟩),
    ([], ⟨some 20, none, .d (.mv (.t 1))⟩),
    ([], ⟨some 21, none, .d (.call (.f f_toAskedS) [(.t 20)])⟩),
    ([], ⟨some 22, none, .d (.load true 2 (.t 5))⟩),
    ([], ⟨some 23, none, .d (.call (.f f_toDoubt) [(.t 22)])⟩),
    ([], ⟨some 24, none, .d (.call (.f f_s_EvenAfter) [(.t 19), (.t 21), (.t 23)])⟩),
    ([], ⟨some 18, none, .d (.mv (.t 24))⟩),
    ([], ⟨some 25, none, .d (.extract (.t 18) 0)⟩),
    ([], ⟨some 26, none, .d (.extract (.t 18) 1)⟩),
    ([], ⟨some 8, none, .d (.mv (.t 25))⟩)] [⟨some 9, none, .d (.mv (.t 26))⟩])
  (.seq (.reg [⟨some 27, none, .d (.mv (.t 1))⟩,
    ⟨some 28, none, .d (.call (.f f_toAskedS) [(.t 27)])⟩,
    ⟨some 10, none, .d (.mv (.t 28))⟩])
  (.seq (.reg [⟨some 30, none, .d (.mv (.t 0))⟩,
    ⟨some 31, none, .d (.mv (.t 10))⟩,
    ⟨some 32, none, .d (.load true 2 (.t 5))⟩,
    ⟨some 33, none, .d (.call (.f f_toDoubt) [(.t 32)])⟩,
    ⟨some 34, none, .d (.call (.f f_EvenAfter) [(.t 30), (.t 31), (.t 33)])⟩,
    ⟨some 29, none, .d (.mv (.t 34))⟩,
    ⟨some 35, none, .d (.extract (.t 29) 0)⟩,
    ⟨some 36, none, .d (.extract (.t 29) 1)⟩,
    ⟨some 11, none, .d (.mv (.t 35))⟩,
    ⟨some 12, none, .d (.mv (.t 36))⟩])
  (.seq (.seq (.reg [⟨some 37, none, .d (.mv (.t 11))⟩,
    ⟨some 38, none, .d (.mv (.t 8))⟩,
    ⟨some 39, none, .d (.bin .arith .neq (.t 37) (.t 38))⟩,
    ⟨some 40, none, .d (.mv (.t 39))⟩,
    ⟨some 41, some (40, false), .d (.mv (.t 12))⟩,
    ⟨some 42, some (40, false), .d (.mv (.t 9))⟩,
    ⟨some 43, some (40, false), .d (.bin .bool .neq (.t 41) (.t 42))⟩,
    ⟨some 44, none, .d (.pick (.t 40) (.c (.bool true)) (.t 43))⟩])
  (.cond (.t 44) (.seq (.reg [⟨some 6, none, .d (.mv (.c (.bool false)))⟩])
   (.ret)) (.skip)))
  (.seq (.seq (.reg [⟨some 45, none, .d (.mv (.t 10))⟩,
    ⟨some 46, none, .d (.mv (.t 1))⟩,
    ⟨some 47, none, .d (.call (.f f_toAskedS) [(.t 46)])⟩,
    ⟨some 48, none, .d (.call (.f f_eqAskedS) [(.t 45), (.t 47)])⟩,
    ⟨some 49, none, .d (.not (.t 48))⟩])
  (.cond (.t 49) (.seq (.reg [⟨some 6, none, .d (.mv (.c (.bool false)))⟩])
   (.ret)) (.skip)))
  (.seq (.reg [⟨some 6, none, .d (.mv (.c (.bool true)))⟩])
  (.ret)))))))))), [.tmp 6]⟩
def n_x_EvenAfter : Nat → Option Ann := fun _ => none
abbrev k_x_EvenAfter : List Nat := [0, 1, 2, 5, 6, 7, 8, 9, 10, 11, 12, 17, 44, 49]
abbrev o_x_EvenAfter : List Nat := [5]
def c_x_EvenAfter : Con := pure' fun
  | [.p (.int .i64 n), .p v, .p (.agg [.int .i64 s, .int .i64 o])] => match slA v with
    | some l => if l.length ≤ 9223372036854775807 then some (.p (.bool true), []) else none
    | none => none
  | _ => none
set_option maxRecDepth 100000 in
theorem s_x_EvenAfter {P : Program} (hm : P.follows .mixedOrders = true) {Γ : Gam} (hΓ : GS P Γ) {n : FuncId} {f_szAskedS : FuncId} {f_toAskedS : FuncId} {f_toDoubt : FuncId} {f_s_EvenAfter : FuncId} {f_EvenAfter : FuncId} {f_eqAskedS : FuncId} (is : Is P n (a_x_EvenAfter f_szAskedS f_toAskedS f_toDoubt f_s_EvenAfter f_EvenAfter f_eqAskedS)) (h_szAskedS : Γ f_szAskedS = c_szAskedS) (h_toAskedS : Γ f_toAskedS = c_toAskedS) (h_toDoubt : Γ f_toDoubt = c_toDoubt) (h_s_EvenAfter : Γ f_s_EvenAfter = c_EvenAfter) (h_EvenAfter : Γ f_EvenAfter = c_EvenAfter) (h_eqAskedS : Γ f_eqAskedS = c_eqAskedS)  : Says P n c_x_EvenAfter := by
  refine Says.pure fun args r fs h => ?_
  split at h
  case h_2 => cases h
  rename_i n v s o
  split at h
  case h_2 => cases h
  rename_i l hl
  split at h
  case isFalse => cases h
  rename_i hc
  simp only [Option.some.injEq, Prod.mk.injEq] at h
  obtain ⟨rfl, rfl⟩ := h
  have hlp := slA_lenP hl
  by_cases hk : (1048576 : Int) - (l.length : Int) < 0
  · refine is.go hm hΓ k_x_EvenAfter o_x_EvenAfter (by simp [a_x_EvenAfter]) ?_
    simp only [a_x_EvenAfter, h_szAskedS, c_szAskedS, h_toAskedS, c_toAskedS, h_toDoubt, c_toDoubt, h_s_EvenAfter, c_EvenAfter, h_EvenAfter, c_EvenAfter, h_eqAskedS, c_eqAskedS, hlp, hc, hk, Int.reduceLE, Int.reduceNeg, Int.reduceLT, List.zipIdx_cons, List.zipIdx_nil, ↓SP, SQ, Gam.add, stepM, callC, argC, lendO, nmBy, nmC, likeL, likeB, plainOb, offs, X, F, trP, trO, stepD, stepW, newA, SV.tr, SV.trL, fz, allP, Ob.tr, loadA, cellsA, SV.cells, binA, binI, eqOut, isSl, isPt, natOf, callee, snap, SV.refsL, SV.refs, thaw, fzAll, loA, hiA, elemOf, partsA, buildA, putCells, ↓reduceIte, reduceCtorEq, okCell, Nat.reduceAdd, Nat.reduceEqDiff, Nat.reduceSub, Nat.reduceMul, Nat.reduceLeDiff, Nat.reduceLT, Nat.reduceBEq, PV.scal, PV.scalL, SV.scal, SV.scalL, Ob.scal, PV.isCell, pure', resO]
    exact finA_val (by simp [retA, rvA, List.mapM_cons, List.mapM_nil, Option.pure_def, Option.bind_eq_bind, Option.bind_some, Option.map_some, mkE_cons, mk_nil, mkO_cons, mkO_nil, loadA, ↓reduceIte, List.take_succ_cons, List.take_zero, List.drop_zero, List.drop_succ_cons, List.length_cons, List.length_nil, Nat.reduceAdd, Nat.reduceEqDiff, Nat.reduceLeDiff, Nat.zero_add, Nat.le_refl, reduceCtorEq, SV.tr, SV.trL, nmF, rn_nil, rn_cons1, rn_cons2, List.map_cons, List.map_nil, List.all_cons, List.all_nil, plainOb, SV.refsL, SV.refs, Ob.refs, X, F, List.range_succ, List.range_zero, List.nil_append, List.cons_append, List.isEmpty_nil, decide_true, Nat.reduceLT, Bool.and_self, Bool.and_true, and_self, and_true, List.getElem?_cons_zero, List.getElem?_cons_succ, List.nodup_cons, List.nodup_nil, List.mem_cons, List.not_mem_nil, not_false_eq_true, or_false, List.append_nil, mkO, setO_mk, List.mem_singleton]) (by simp [SV.tr, SV.trL])
  · have hlen : l.length ≤ 1048576 := by omega
    have hlen2 : l.length ≤ 1100000 := by omega
    generalize hg1 : (if okP n l s o = true then ((evI (partL s o l n.toNat) (sumL (partL s o l n.toNat)) (2 ^ n.toNat)).1 : Int) else 0) = b1 at *
    generalize hg2 : okP n l s o = b2 at *
    refine is.go hm hΓ k_x_EvenAfter o_x_EvenAfter (by simp [a_x_EvenAfter]) ?_
    simp only [a_x_EvenAfter, h_szAskedS, c_szAskedS, h_toAskedS, c_toAskedS, h_toDoubt, c_toDoubt, h_s_EvenAfter, c_EvenAfter, h_EvenAfter, c_EvenAfter, h_eqAskedS, c_eqAskedS, hl, hlp, hc, hk, hlen, hlen2, hg1, hg2, slA_sl, beq_self_eq_true, Bool.not_true, Int.reduceLE, Int.reduceNeg, Int.reduceLT, bne_self_eq_false, List.zipIdx_cons, List.zipIdx_nil, ↓SP, SQ, Gam.add, stepM, callC, argC, lendO, nmBy, nmC, likeL, likeB, plainOb, offs, X, F, trP, trO, stepD, stepW, newA, SV.tr, SV.trL, fz, allP, Ob.tr, loadA, cellsA, SV.cells, binA, binI, eqOut, isSl, isPt, natOf, callee, snap, SV.refsL, SV.refs, thaw, fzAll, loA, hiA, elemOf, partsA, buildA, putCells, ↓reduceIte, reduceCtorEq, okCell, Nat.reduceAdd, Nat.reduceEqDiff, Nat.reduceSub, Nat.reduceMul, Nat.reduceLeDiff, Nat.reduceLT, Nat.reduceBEq, PV.scal, PV.scalL, SV.scal, SV.scalL, Ob.scal, PV.isCell, pure', resO]
    exact finA_val (by simp [retA, rvA, List.mapM_cons, List.mapM_nil, Option.pure_def, Option.bind_eq_bind, Option.bind_some, Option.map_some, mkE_cons, mk_nil, mkO_cons, mkO_nil, loadA, ↓reduceIte, List.take_succ_cons, List.take_zero, List.drop_zero, List.drop_succ_cons, List.length_cons, List.length_nil, Nat.reduceAdd, Nat.reduceEqDiff, Nat.reduceLeDiff, Nat.zero_add, Nat.le_refl, reduceCtorEq, SV.tr, SV.trL, nmF, rn_nil, rn_cons1, rn_cons2, List.map_cons, List.map_nil, List.all_cons, List.all_nil, plainOb, SV.refsL, SV.refs, Ob.refs, X, F, List.range_succ, List.range_zero, List.nil_append, List.cons_append, List.isEmpty_nil, decide_true, Nat.reduceLT, Bool.and_self, Bool.and_true, and_self, and_true, List.getElem?_cons_zero, List.getElem?_cons_succ, List.nodup_cons, List.nodup_nil, List.mem_cons, List.not_mem_nil, not_false_eq_true, or_false, List.append_nil, mkO, setO_mk, List.mem_singleton]) (by simp [SV.tr, SV.trL])
end Go.Proofs.Ytmbljmolegalhaa.Pam
