/- A part of the proof that stands in this folder: a small machine whose steps are shown to be the steps of the model, or walks of functions by it. No condition of its own. -/
import Derived.Test.YtmncbkkpchmjhaaGcMN
set_option linter.unusedVariables false
set_option linter.unusedSimpArgs false
namespace Go.Proofs.Ytmncbkkpchmjhaa.Pam
open Go
def a_x_NeedOf (f_toIntS : FuncId) (f_s_NeedOf : FuncId) (f_NeedOf : FuncId) (f_eqIntS : FuncId) : AFn := ⟨1, 
  .seq (.reg [⟨some 2, none, .d (.mv (.c (.bool false)))⟩])
  (.seq (.seq (.reg [⟨some 8, none, .d (.mv (.t 0))⟩,
    ⟨some 9, none, .d (.len (.t 8))⟩,
    ⟨some 10, none, .d (.bin .arith .gtr (.t 9) (.c (.int .i64 1048576)))⟩])
  (.cond (.t 10) (.seq (.reg [⟨some 2, none, .d (.mv (.c (.bool true)))⟩])
   (.ret)) (.skip)))
  (.seq (.reg [⟨some 12, none, .d (.mv (.t 0))⟩,
    ⟨some 13, none, .d (.call (.f f_toIntS) [(.t 12)])⟩,
    ⟨some 14, none, .d (.call (.f f_s_NeedOf) [(.t 13)])⟩,
    ⟨some 11, none, .d (.mv (.t 14))⟩,
    ⟨some 15, none, .d (.extract (.t 11) 0)⟩,
    ⟨some 16, none, .d (.extract (.t 11) 1)⟩,
    ⟨some 3, none, .d (.mv (.t 15))⟩,
    ⟨some 4, none, .d (.mv (.t 16))⟩])
  (.seq (.reg [⟨some 17, none, .d (.mv (.t 0))⟩,
    ⟨some 18, none, .d (.call (.f f_toIntS) [(.t 17)])⟩,
    ⟨some 5, none, .d (.mv (.t 18))⟩])
  (.seq (.reg [⟨some 20, none, .d (.mv (.t 5))⟩,
    ⟨some 21, none, .d (.call (.f f_NeedOf) [(.t 20)])⟩,
    ⟨some 19, none, .d (.mv (.t 21))⟩,
    ⟨some 22, none, .d (.extract (.t 19) 0)⟩,
    ⟨some 23, none, .d (.extract (.t 19) 1)⟩,
    ⟨some 6, none, .d (.mv (.t 22))⟩,
    ⟨some 7, none, .d (.mv (.t 23))⟩])
  (.seq (.seq (.reg [⟨some 24, none, .d (.mv (.t 6))⟩,
    ⟨some 25, none, .d (.mv (.t 3))⟩,
    ⟨some 26, none, .d (.bin .arith .neq (.t 24) (.t 25))⟩,
    ⟨some 27, none, .d (.mv (.t 26))⟩,
    ⟨some 28, some (27, false), .d (.mv (.t 7))⟩,
    ⟨some 29, some (27, false), .d (.mv (.t 4))⟩,
    ⟨some 30, some (27, false), .d (.bin .bool .neq (.t 28) (.t 29))⟩,
    ⟨some 31, none, .d (.pick (.t 27) (.c (.bool true)) (.t 30))⟩])
  (.cond (.t 31) (.seq (.reg [⟨some 2, none, .d (.mv (.c (.bool false)))⟩])
   (.ret)) (.skip)))
  (.seq (.seq (.reg [⟨some 32, none, .d (.mv (.t 5))⟩,
    ⟨some 33, none, .d (.mv (.t 0))⟩,
    ⟨some 34, none, .d (.call (.f f_toIntS) [(.t 33)])⟩,
    ⟨some 35, none, .d (.call (.f f_eqIntS) [(.t 32), (.t 34)])⟩,
    ⟨some 36, none, .d (.not (.t 35))⟩])
  (.cond (.t 36) (.seq (.reg [⟨some 2, none, .d (.mv (.c (.bool false)))⟩])
   (.ret)) (.skip)))
  (.seq (.reg [⟨some 2, none, .d (.mv (.c (.bool true)))⟩])
  (.ret)))))))), [.tmp 2]⟩
def n_x_NeedOf : Nat → Option Ann := fun _ => none
abbrev k_x_NeedOf : List Nat := [0, 2, 3, 4, 5, 6, 7, 10, 31, 36]
abbrev o_x_NeedOf : List Nat := []
def c_x_NeedOf : Con := pure' fun
  | [.p v] => match slI v with
    | some c => if c.length ≤ 9223372036854775807 then some (.p (.bool true), []) else none
    | none => none
  | _ => none
set_option maxRecDepth 100000 in
theorem s_x_NeedOf {P : Program} (hm : P.follows .mixedOrders = true) {Γ : Gam} (hΓ : GS P Γ) {n : FuncId} {f_toIntS : FuncId} {f_s_NeedOf : FuncId} {f_NeedOf : FuncId} {f_eqIntS : FuncId} (is : Is P n (a_x_NeedOf f_toIntS f_s_NeedOf f_NeedOf f_eqIntS)) (h_toIntS : Γ f_toIntS = c_toIntS) (h_s_NeedOf : Γ f_s_NeedOf = c_NeedOf) (h_NeedOf : Γ f_NeedOf = c_NeedOf) (h_eqIntS : Γ f_eqIntS = c_eqIntS)  : Says P n c_x_NeedOf := by
  refine Says.pure fun args r fs h => ?_
  split at h
  case h_2 => cases h
  rename_i v
  split at h
  case h_2 => cases h
  rename_i c hv
  split at h
  case isFalse => cases h
  rename_i hc
  simp only [Option.some.injEq, Prod.mk.injEq] at h
  obtain ⟨rfl, rfl⟩ := h
  have hlv := slI_len hv
  by_cases hkv : (c.length : Int) > 1048576
  · refine is.go hm hΓ k_x_NeedOf o_x_NeedOf (by simp [a_x_NeedOf]) ?_
    simp only [a_x_NeedOf, h_toIntS, c_toIntS, h_s_NeedOf, c_NeedOf, h_NeedOf, c_NeedOf, h_eqIntS, c_eqIntS, hlv, hc, hkv, Int.reduceLE, Int.reduceNeg, Int.reduceLT, List.zipIdx_cons, List.zipIdx_nil, ↓SP, SQ, Gam.add, stepM, callC, argC, lendO, nmBy, nmC, likeL, likeB, plainOb, offs, X, F, trP, trO, stepD, stepW, newA, SV.tr, SV.trL, fz, allP, Ob.tr, loadA, cellsA, SV.cells, binA, binI, eqOut, isSl, isPt, natOf, callee, snap, SV.refsL, SV.refs, thaw, fzAll, loA, hiA, elemOf, partsA, buildA, putCells, ↓reduceIte, reduceCtorEq, okCell, Nat.reduceAdd, Nat.reduceEqDiff, Nat.reduceSub, Nat.reduceMul, Nat.reduceLeDiff, Nat.reduceLT, Nat.reduceBEq, PV.scal, PV.scalL, SV.scal, SV.scalL, Ob.scal, PV.isCell, pure', resO]
    exact finA_val (by simp [retA, rvA, List.mapM_cons, List.mapM_nil, Option.pure_def, Option.bind_eq_bind, Option.bind_some, Option.map_some, mkE_cons, mk_nil, mkO_cons, mkO_nil, loadA, ↓reduceIte, List.take_succ_cons, List.take_zero, List.drop_zero, List.drop_succ_cons, List.length_cons, List.length_nil, Nat.reduceAdd, Nat.reduceEqDiff, Nat.reduceLeDiff, Nat.zero_add, Nat.le_refl, reduceCtorEq, SV.tr, SV.trL, nmF, rn_nil, rn_cons1, rn_cons2, List.map_cons, List.map_nil, List.all_cons, List.all_nil, plainOb, SV.refsL, SV.refs, Ob.refs, X, F, List.range_succ, List.range_zero, List.nil_append, List.cons_append, List.isEmpty_nil, decide_true, Nat.reduceLT, Bool.and_self, Bool.and_true, and_self, and_true, List.getElem?_cons_zero, List.getElem?_cons_succ, List.nodup_cons, List.nodup_nil, List.mem_cons, List.not_mem_nil, not_false_eq_true, or_false, List.append_nil, mkO, setO_mk, List.mem_singleton]) (by simp [SV.tr, SV.trL])
  · have q1 : c.length ≤ 1048576 := by omega
    have q2 : c.length ≤ 1100000 := by omega
    generalize hg1 : (if okC c = true then ndI true c else 0) = b1 at *
    generalize hg2 : okC c = b2 at *
    refine is.go hm hΓ k_x_NeedOf o_x_NeedOf (by simp [a_x_NeedOf]) ?_
    simp only [a_x_NeedOf, h_toIntS, c_toIntS, h_s_NeedOf, c_NeedOf, h_NeedOf, c_NeedOf, h_eqIntS, c_eqIntS, hv, hlv, hc, hkv, q1, q2, hg1, hg2, slI_sl, beq_self_eq_true, Bool.not_true, Int.reduceLE, Int.reduceNeg, Int.reduceLT, bne_self_eq_false, List.zipIdx_cons, List.zipIdx_nil, ↓SP, SQ, Gam.add, stepM, callC, argC, lendO, nmBy, nmC, likeL, likeB, plainOb, offs, X, F, trP, trO, stepD, stepW, newA, SV.tr, SV.trL, fz, allP, Ob.tr, loadA, cellsA, SV.cells, binA, binI, eqOut, isSl, isPt, natOf, callee, snap, SV.refsL, SV.refs, thaw, fzAll, loA, hiA, elemOf, partsA, buildA, putCells, ↓reduceIte, reduceCtorEq, okCell, Nat.reduceAdd, Nat.reduceEqDiff, Nat.reduceSub, Nat.reduceMul, Nat.reduceLeDiff, Nat.reduceLT, Nat.reduceBEq, PV.scal, PV.scalL, SV.scal, SV.scalL, Ob.scal, PV.isCell, pure', resO]
    exact finA_val (by simp [retA, rvA, List.mapM_cons, List.mapM_nil, Option.pure_def, Option.bind_eq_bind, Option.bind_some, Option.map_some, mkE_cons, mk_nil, mkO_cons, mkO_nil, loadA, ↓reduceIte, List.take_succ_cons, List.take_zero, List.drop_zero, List.drop_succ_cons, List.length_cons, List.length_nil, Nat.reduceAdd, Nat.reduceEqDiff, Nat.reduceLeDiff, Nat.zero_add, Nat.le_refl, reduceCtorEq, SV.tr, SV.trL, nmF, rn_nil, rn_cons1, rn_cons2, List.map_cons, List.map_nil, List.all_cons, List.all_nil, plainOb, SV.refsL, SV.refs, Ob.refs, X, F, List.range_succ, List.range_zero, List.nil_append, List.cons_append, List.isEmpty_nil, decide_true, Nat.reduceLT, Bool.and_self, Bool.and_true, and_self, and_true, List.getElem?_cons_zero, List.getElem?_cons_succ, List.nodup_cons, List.nodup_nil, List.mem_cons, List.not_mem_nil, not_false_eq_true, or_false, List.append_nil, mkO, setO_mk, List.mem_singleton]) (by simp [SV.tr, SV.trL])
def a_x_OneWayNeed (f_toIntS : FuncId) (f_s_OneWayNeed : FuncId) (f_OneWayNeed : FuncId) (f_eqIntS : FuncId) : AFn := ⟨1, 
  .seq (.reg [⟨some 2, none, .d (.mv (.c (.bool false)))⟩])
  (.seq (.seq (.reg [⟨some 8, none, .d (.mv (.t 0))⟩,
    ⟨some 9, none, .d (.len (.t 8))⟩,
    ⟨some 10, none, .d (.bin .arith .gtr (.t 9) (.c (.int .i64 1048576)))⟩])
  (.cond (.t 10) (.seq (.reg [⟨some 2, none, .d (.mv (.c (.bool true)))⟩])
   (.ret)) (.skip)))
  (.seq (.reg [⟨some 12, none, .d (.mv (.t 0))⟩,
    ⟨some 13, none, .d (.call (.f f_toIntS) [(.t 12)])⟩,
    ⟨some 14, none, .d (.call (.f f_s_OneWayNeed) [(.t 13)])⟩,
    ⟨some 11, none, .d (.mv (.t 14))⟩,
    ⟨some 15, none, .d (.extract (.t 11) 0)⟩,
    ⟨some 16, none, .d (.extract (.t 11) 1)⟩,
    ⟨some 3, none, .d (.mv (.t 15))⟩,
    ⟨some 4, none, .d (.mv (.t 16))⟩])
  (.seq (.reg [⟨some 17, none, .d (.mv (.t 0))⟩,
    ⟨some 18, none, .d (.call (.f f_toIntS) [(.t 17)])⟩,
    ⟨some 5, none, .d (.mv (.t 18))⟩])
  (.seq (.reg [⟨some 20, none, .d (.mv (.t 5))⟩,
    ⟨some 21, none, .d (.call (.f f_OneWayNeed) [(.t 20)])⟩,
    ⟨some 19, none, .d (.mv (.t 21))⟩,
    ⟨some 22, none, .d (.extract (.t 19) 0)⟩,
    ⟨some 23, none, .d (.extract (.t 19) 1)⟩,
    ⟨some 6, none, .d (.mv (.t 22))⟩,
    ⟨some 7, none, .d (.mv (.t 23))⟩])
  (.seq (.seq (.reg [⟨some 24, none, .d (.mv (.t 6))⟩,
    ⟨some 25, none, .d (.mv (.t 3))⟩,
    ⟨some 26, none, .d (.bin .arith .neq (.t 24) (.t 25))⟩,
    ⟨some 27, none, .d (.mv (.t 26))⟩,
    ⟨some 28, some (27, false), .d (.mv (.t 7))⟩,
    ⟨some 29, some (27, false), .d (.mv (.t 4))⟩,
    ⟨some 30, some (27, false), .d (.bin .bool .neq (.t 28) (.t 29))⟩,
    ⟨some 31, none, .d (.pick (.t 27) (.c (.bool true)) (.t 30))⟩])
  (.cond (.t 31) (.seq (.reg [⟨some 2, none, .d (.mv (.c (.bool false)))⟩])
   (.ret)) (.skip)))
  (.seq (.seq (.reg [⟨some 32, none, .d (.mv (.t 5))⟩,
    ⟨some 33, none, .d (.mv (.t 0))⟩,
    ⟨some 34, none, .d (.call (.f f_toIntS) [(.t 33)])⟩,
    ⟨some 35, none, .d (.call (.f f_eqIntS) [(.t 32), (.t 34)])⟩,
    ⟨some 36, none, .d (.not (.t 35))⟩])
  (.cond (.t 36) (.seq (.reg [⟨some 2, none, .d (.mv (.c (.bool false)))⟩])
   (.ret)) (.skip)))
  (.seq (.reg [⟨some 2, none, .d (.mv (.c (.bool true)))⟩])
  (.ret)))))))), [.tmp 2]⟩
def n_x_OneWayNeed : Nat → Option Ann := fun _ => none
abbrev k_x_OneWayNeed : List Nat := [0, 2, 3, 4, 5, 6, 7, 10, 31, 36]
abbrev o_x_OneWayNeed : List Nat := []
def c_x_OneWayNeed : Con := pure' fun
  | [.p v] => match slI v with
    | some c => if c.length ≤ 9223372036854775807 then some (.p (.bool true), []) else none
    | none => none
  | _ => none
set_option maxRecDepth 100000 in
theorem s_x_OneWayNeed {P : Program} (hm : P.follows .mixedOrders = true) {Γ : Gam} (hΓ : GS P Γ) {n : FuncId} {f_toIntS : FuncId} {f_s_OneWayNeed : FuncId} {f_OneWayNeed : FuncId} {f_eqIntS : FuncId} (is : Is P n (a_x_OneWayNeed f_toIntS f_s_OneWayNeed f_OneWayNeed f_eqIntS)) (h_toIntS : Γ f_toIntS = c_toIntS) (h_s_OneWayNeed : Γ f_s_OneWayNeed = c_OneWayNeed) (h_OneWayNeed : Γ f_OneWayNeed = c_OneWayNeed) (h_eqIntS : Γ f_eqIntS = c_eqIntS)  : Says P n c_x_OneWayNeed := by
  refine Says.pure fun args r fs h => ?_
  split at h
  case h_2 => cases h
  rename_i v
  split at h
  case h_2 => cases h
  rename_i c hv
  split at h
  case isFalse => cases h
  rename_i hc
  simp only [Option.some.injEq, Prod.mk.injEq] at h
  obtain ⟨rfl, rfl⟩ := h
  have hlv := slI_len hv
  by_cases hkv : (c.length : Int) > 1048576
  · refine is.go hm hΓ k_x_OneWayNeed o_x_OneWayNeed (by simp [a_x_OneWayNeed]) ?_
    simp only [a_x_OneWayNeed, h_toIntS, c_toIntS, h_s_OneWayNeed, c_OneWayNeed, h_OneWayNeed, c_OneWayNeed, h_eqIntS, c_eqIntS, hlv, hc, hkv, Int.reduceLE, Int.reduceNeg, Int.reduceLT, List.zipIdx_cons, List.zipIdx_nil, ↓SP, SQ, Gam.add, stepM, callC, argC, lendO, nmBy, nmC, likeL, likeB, plainOb, offs, X, F, trP, trO, stepD, stepW, newA, SV.tr, SV.trL, fz, allP, Ob.tr, loadA, cellsA, SV.cells, binA, binI, eqOut, isSl, isPt, natOf, callee, snap, SV.refsL, SV.refs, thaw, fzAll, loA, hiA, elemOf, partsA, buildA, putCells, ↓reduceIte, reduceCtorEq, okCell, Nat.reduceAdd, Nat.reduceEqDiff, Nat.reduceSub, Nat.reduceMul, Nat.reduceLeDiff, Nat.reduceLT, Nat.reduceBEq, PV.scal, PV.scalL, SV.scal, SV.scalL, Ob.scal, PV.isCell, pure', resO]
    exact finA_val (by simp [retA, rvA, List.mapM_cons, List.mapM_nil, Option.pure_def, Option.bind_eq_bind, Option.bind_some, Option.map_some, mkE_cons, mk_nil, mkO_cons, mkO_nil, loadA, ↓reduceIte, List.take_succ_cons, List.take_zero, List.drop_zero, List.drop_succ_cons, List.length_cons, List.length_nil, Nat.reduceAdd, Nat.reduceEqDiff, Nat.reduceLeDiff, Nat.zero_add, Nat.le_refl, reduceCtorEq, SV.tr, SV.trL, nmF, rn_nil, rn_cons1, rn_cons2, List.map_cons, List.map_nil, List.all_cons, List.all_nil, plainOb, SV.refsL, SV.refs, Ob.refs, X, F, List.range_succ, List.range_zero, List.nil_append, List.cons_append, List.isEmpty_nil, decide_true, Nat.reduceLT, Bool.and_self, Bool.and_true, and_self, and_true, List.getElem?_cons_zero, List.getElem?_cons_succ, List.nodup_cons, List.nodup_nil, List.mem_cons, List.not_mem_nil, not_false_eq_true, or_false, List.append_nil, mkO, setO_mk, List.mem_singleton]) (by simp [SV.tr, SV.trL])
  · have q1 : c.length ≤ 1048576 := by omega
    have q2 : c.length ≤ 1100000 := by omega
    generalize hg1 : (if okC c = true then ndI false c else 0) = b1 at *
    generalize hg2 : okC c = b2 at *
    refine is.go hm hΓ k_x_OneWayNeed o_x_OneWayNeed (by simp [a_x_OneWayNeed]) ?_
    simp only [a_x_OneWayNeed, h_toIntS, c_toIntS, h_s_OneWayNeed, c_OneWayNeed, h_OneWayNeed, c_OneWayNeed, h_eqIntS, c_eqIntS, hv, hlv, hc, hkv, q1, q2, hg1, hg2, slI_sl, beq_self_eq_true, Bool.not_true, Int.reduceLE, Int.reduceNeg, Int.reduceLT, bne_self_eq_false, List.zipIdx_cons, List.zipIdx_nil, ↓SP, SQ, Gam.add, stepM, callC, argC, lendO, nmBy, nmC, likeL, likeB, plainOb, offs, X, F, trP, trO, stepD, stepW, newA, SV.tr, SV.trL, fz, allP, Ob.tr, loadA, cellsA, SV.cells, binA, binI, eqOut, isSl, isPt, natOf, callee, snap, SV.refsL, SV.refs, thaw, fzAll, loA, hiA, elemOf, partsA, buildA, putCells, ↓reduceIte, reduceCtorEq, okCell, Nat.reduceAdd, Nat.reduceEqDiff, Nat.reduceSub, Nat.reduceMul, Nat.reduceLeDiff, Nat.reduceLT, Nat.reduceBEq, PV.scal, PV.scalL, SV.scal, SV.scalL, Ob.scal, PV.isCell, pure', resO]
    exact finA_val (by simp [retA, rvA, List.mapM_cons, List.mapM_nil, Option.pure_def, Option.bind_eq_bind, Option.bind_some, Option.map_some, mkE_cons, mk_nil, mkO_cons, mkO_nil, loadA, ↓reduceIte, List.take_succ_cons, List.take_zero, List.drop_zero, List.drop_succ_cons, List.length_cons, List.length_nil, Nat.reduceAdd, Nat.reduceEqDiff, Nat.reduceLeDiff, Nat.zero_add, Nat.le_refl, reduceCtorEq, SV.tr, SV.trL, nmF, rn_nil, rn_cons1, rn_cons2, List.map_cons, List.map_nil, List.all_cons, List.all_nil, plainOb, SV.refsL, SV.refs, Ob.refs, X, F, List.range_succ, List.range_zero, List.nil_append, List.cons_append, List.isEmpty_nil, decide_true, Nat.reduceLT, Bool.and_self, Bool.and_true, and_self, and_true, List.getElem?_cons_zero, List.getElem?_cons_succ, List.nodup_cons, List.nodup_nil, List.mem_cons, List.not_mem_nil, not_false_eq_true, or_false, List.append_nil, mkO, setO_mk, List.mem_singleton]) (by simp [SV.tr, SV.trL])
def a_x_SavedOneWay (f_toIntS : FuncId) (f_s_SavedOneWay : FuncId) (f_SavedOneWay : FuncId) (f_eqIntS : FuncId) : AFn := ⟨1, 
  .seq (.reg [⟨some 2, none, .d (.mv (.c (.bool false)))⟩])
  (.seq (.seq (.reg [⟨some 8, none, .d (.mv (.t 0))⟩,
    ⟨some 9, none, .d (.len (.t 8))⟩,
    ⟨some 10, none, .d (.bin .arith .gtr (.t 9) (.c (.int .i64 1048576)))⟩])
  (.cond (.t 10) (.seq (.reg [⟨some 2, none, .d (.mv (.c (.bool true)))⟩])
   (.ret)) (.skip)))
  (.seq (.reg [⟨some 12, none, .d (.mv (.t 0))⟩,
    ⟨some 13, none, .d (.call (.f f_toIntS) [(.t 12)])⟩,
    ⟨some 14, none, .d (.call (.f f_s_SavedOneWay) [(.t 13)])⟩,
    ⟨some 11, none, .d (.mv (.t 14))⟩,
    ⟨some 15, none, .d (.extract (.t 11) 0)⟩,
    ⟨some 16, none, .d (.extract (.t 11) 1)⟩,
    ⟨some 3, none, .d (.mv (.t 15))⟩,
    ⟨some 4, none, .d (.mv (.t 16))⟩])
  (.seq (.reg [⟨some 17, none, .d (.mv (.t 0))⟩,
    ⟨some 18, none, .d (.call (.f f_toIntS) [(.t 17)])⟩,
    ⟨some 5, none, .d (.mv (.t 18))⟩])
  (.seq (.reg [⟨some 20, none, .d (.mv (.t 5))⟩,
    ⟨some 21, none, .d (.call (.f f_SavedOneWay) [(.t 20)])⟩,
    ⟨some 19, none, .d (.mv (.t 21))⟩,
    ⟨some 22, none, .d (.extract (.t 19) 0)⟩,
    ⟨some 23, none, .d (.extract (.t 19) 1)⟩,
    ⟨some 6, none, .d (.mv (.t 22))⟩,
    ⟨some 7, none, .d (.mv (.t 23))⟩])
  (.seq (.seq (.reg [⟨some 24, none, .d (.mv (.t 6))⟩,
    ⟨some 25, none, .d (.mv (.t 3))⟩,
    ⟨some 26, none, .d (.bin .arith .neq (.t 24) (.t 25))⟩,
    ⟨some 27, none, .d (.mv (.t 26))⟩,
    ⟨some 28, some (27, false), .d (.mv (.t 7))⟩,
    ⟨some 29, some (27, false), .d (.mv (.t 4))⟩,
    ⟨some 30, some (27, false), .d (.bin .bool .neq (.t 28) (.t 29))⟩,
    ⟨some 31, none, .d (.pick (.t 27) (.c (.bool true)) (.t 30))⟩])
  (.cond (.t 31) (.seq (.reg [⟨some 2, none, .d (.mv (.c (.bool false)))⟩])
   (.ret)) (.skip)))
  (.seq (.seq (.reg [⟨some 32, none, .d (.mv (.t 5))⟩,
    ⟨some 33, none, .d (.mv (.t 0))⟩,
    ⟨some 34, none, .d (.call (.f f_toIntS) [(.t 33)])⟩,
    ⟨some 35, none, .d (.call (.f f_eqIntS) [(.t 32), (.t 34)])⟩,
    ⟨some 36, none, .d (.not (.t 35))⟩])
  (.cond (.t 36) (.seq (.reg [⟨some 2, none, .d (.mv (.c (.bool false)))⟩])
   (.ret)) (.skip)))
  (.seq (.reg [⟨some 2, none, .d (.mv (.c (.bool true)))⟩])
  (.ret)))))))), [.tmp 2]⟩
def n_x_SavedOneWay : Nat → Option Ann := fun _ => none
abbrev k_x_SavedOneWay : List Nat := [0, 2, 3, 4, 5, 6, 7, 10, 31, 36]
abbrev o_x_SavedOneWay : List Nat := []
def c_x_SavedOneWay : Con := pure' fun
  | [.p v] => match slI v with
    | some c => if c.length ≤ 9223372036854775807 then some (.p (.bool true), []) else none
    | none => none
  | _ => none
set_option maxRecDepth 100000 in
theorem s_x_SavedOneWay {P : Program} (hm : P.follows .mixedOrders = true) {Γ : Gam} (hΓ : GS P Γ) {n : FuncId} {f_toIntS : FuncId} {f_s_SavedOneWay : FuncId} {f_SavedOneWay : FuncId} {f_eqIntS : FuncId} (is : Is P n (a_x_SavedOneWay f_toIntS f_s_SavedOneWay f_SavedOneWay f_eqIntS)) (h_toIntS : Γ f_toIntS = c_toIntS) (h_s_SavedOneWay : Γ f_s_SavedOneWay = c_SavedOneWay) (h_SavedOneWay : Γ f_SavedOneWay = c_SavedOneWay) (h_eqIntS : Γ f_eqIntS = c_eqIntS)  : Says P n c_x_SavedOneWay := by
  refine Says.pure fun args r fs h => ?_
  split at h
  case h_2 => cases h
  rename_i v
  split at h
  case h_2 => cases h
  rename_i c hv
  split at h
  case isFalse => cases h
  rename_i hc
  simp only [Option.some.injEq, Prod.mk.injEq] at h
  obtain ⟨rfl, rfl⟩ := h
  have hlv := slI_len hv
  by_cases hkv : (c.length : Int) > 1048576
  · refine is.go hm hΓ k_x_SavedOneWay o_x_SavedOneWay (by simp [a_x_SavedOneWay]) ?_
    simp only [a_x_SavedOneWay, h_toIntS, c_toIntS, h_s_SavedOneWay, c_SavedOneWay, h_SavedOneWay, c_SavedOneWay, h_eqIntS, c_eqIntS, hlv, hc, hkv, Int.reduceLE, Int.reduceNeg, Int.reduceLT, List.zipIdx_cons, List.zipIdx_nil, ↓SP, SQ, Gam.add, stepM, callC, argC, lendO, nmBy, nmC, likeL, likeB, plainOb, offs, X, F, trP, trO, stepD, stepW, newA, SV.tr, SV.trL, fz, allP, Ob.tr, loadA, cellsA, SV.cells, binA, binI, eqOut, isSl, isPt, natOf, callee, snap, SV.refsL, SV.refs, thaw, fzAll, loA, hiA, elemOf, partsA, buildA, putCells, ↓reduceIte, reduceCtorEq, okCell, Nat.reduceAdd, Nat.reduceEqDiff, Nat.reduceSub, Nat.reduceMul, Nat.reduceLeDiff, Nat.reduceLT, Nat.reduceBEq, PV.scal, PV.scalL, SV.scal, SV.scalL, Ob.scal, PV.isCell, pure', resO]
    exact finA_val (by simp [retA, rvA, List.mapM_cons, List.mapM_nil, Option.pure_def, Option.bind_eq_bind, Option.bind_some, Option.map_some, mkE_cons, mk_nil, mkO_cons, mkO_nil, loadA, ↓reduceIte, List.take_succ_cons, List.take_zero, List.drop_zero, List.drop_succ_cons, List.length_cons, List.length_nil, Nat.reduceAdd, Nat.reduceEqDiff, Nat.reduceLeDiff, Nat.zero_add, Nat.le_refl, reduceCtorEq, SV.tr, SV.trL, nmF, rn_nil, rn_cons1, rn_cons2, List.map_cons, List.map_nil, List.all_cons, List.all_nil, plainOb, SV.refsL, SV.refs, Ob.refs, X, F, List.range_succ, List.range_zero, List.nil_append, List.cons_append, List.isEmpty_nil, decide_true, Nat.reduceLT, Bool.and_self, Bool.and_true, and_self, and_true, List.getElem?_cons_zero, List.getElem?_cons_succ, List.nodup_cons, List.nodup_nil, List.mem_cons, List.not_mem_nil, not_false_eq_true, or_false, List.append_nil, mkO, setO_mk, List.mem_singleton]) (by simp [SV.tr, SV.trL])
  · have q1 : c.length ≤ 1048576 := by omega
    have q2 : c.length ≤ 1100000 := by omega
    generalize hg1 : (if okC c = true then ndI true c - ndI false c else 0) = b1 at *
    generalize hg2 : okC c = b2 at *
    refine is.go hm hΓ k_x_SavedOneWay o_x_SavedOneWay (by simp [a_x_SavedOneWay]) ?_
    simp only [a_x_SavedOneWay, h_toIntS, c_toIntS, h_s_SavedOneWay, c_SavedOneWay, h_SavedOneWay, c_SavedOneWay, h_eqIntS, c_eqIntS, hv, hlv, hc, hkv, q1, q2, hg1, hg2, slI_sl, beq_self_eq_true, Bool.not_true, Int.reduceLE, Int.reduceNeg, Int.reduceLT, bne_self_eq_false, List.zipIdx_cons, List.zipIdx_nil, ↓SP, SQ, Gam.add, stepM, callC, argC, lendO, nmBy, nmC, likeL, likeB, plainOb, offs, X, F, trP, trO, stepD, stepW, newA, SV.tr, SV.trL, fz, allP, Ob.tr, loadA, cellsA, SV.cells, binA, binI, eqOut, isSl, isPt, natOf, callee, snap, SV.refsL, SV.refs, thaw, fzAll, loA, hiA, elemOf, partsA, buildA, putCells, ↓reduceIte, reduceCtorEq, okCell, Nat.reduceAdd, Nat.reduceEqDiff, Nat.reduceSub, Nat.reduceMul, Nat.reduceLeDiff, Nat.reduceLT, Nat.reduceBEq, PV.scal, PV.scalL, SV.scal, SV.scalL, Ob.scal, PV.isCell, pure', resO]
    exact finA_val (by simp [retA, rvA, List.mapM_cons, List.mapM_nil, Option.pure_def, Option.bind_eq_bind, Option.bind_some, Option.map_some, mkE_cons, mk_nil, mkO_cons, mkO_nil, loadA, ↓reduceIte, List.take_succ_cons, List.take_zero, List.drop_zero, List.drop_succ_cons, List.length_cons, List.length_nil, Nat.reduceAdd, Nat.reduceEqDiff, Nat.reduceLeDiff, Nat.zero_add, Nat.le_refl, reduceCtorEq, SV.tr, SV.trL, nmF, rn_nil, rn_cons1, rn_cons2, List.map_cons, List.map_nil, List.all_cons, List.all_nil, plainOb, SV.refsL, SV.refs, Ob.refs, X, F, List.range_succ, List.range_zero, List.nil_append, List.cons_append, List.isEmpty_nil, decide_true, Nat.reduceLT, Bool.and_self, Bool.and_true, and_self, and_true, List.getElem?_cons_zero, List.getElem?_cons_succ, List.nodup_cons, List.nodup_nil, List.mem_cons, List.not_mem_nil, not_false_eq_true, or_false, List.append_nil, mkO, setO_mk, List.mem_singleton]) (by simp [SV.tr, SV.trL])
def a_x_MostByNeed (f_s_MostByNeed : FuncId) (f_MostByNeed : FuncId) : AFn := ⟨2, 
  .seq (.reg [⟨some 4, none, .d (.mv (.c (.bool false)))⟩])
  (.seq (.reg [⟨some 10, none, .d (.mv (.t 0))⟩,
    ⟨some 11, none, .d (.mv (.t 1))⟩,
    ⟨some 12, none, .d (.call (.f f_s_MostByNeed) [(.t 10), (.t 11)])⟩,
    ⟨some 9, none, .d (.mv (.t 12))⟩,
    ⟨some 13, none, .d (.extract (.t 9) 0)⟩,
    ⟨some 14, none, .d (.extract (.t 9) 1)⟩,
    ⟨some 5, none, .d (.mv (.t 13))⟩,
    ⟨some 6, none, .d (.mv (.t 14))⟩])
  (.seq (.reg [⟨some 16, none, .d (.mv (.t 0))⟩,
    ⟨some 17, none, .d (.mv (.t 1))⟩,
    ⟨some 18, none, .d (.call (.f f_MostByNeed) [(.t 16), (.t 17)])⟩,
    ⟨some 15, none, .d (.mv (.t 18))⟩,
    ⟨some 19, none, .d (.extract (.t 15) 0)⟩,
    ⟨some 20, none, .d (.extract (.t 15) 1)⟩,
    ⟨some 7, none, .d (.mv (.t 19))⟩,
    ⟨some 8, none, .d (.mv (.t 20))⟩])
  (.seq (.seq (.reg [⟨some 21, none, .d (.mv (.t 7))⟩,
    ⟨some 22, none, .d (.mv (.t 5))⟩,
    ⟨some 23, none, .d (.bin .arith .neq (.t 21) (.t 22))⟩,
    ⟨some 24, none, .d (.mv (.t 23))⟩,
    ⟨some 25, some (24, false), .d (.mv (.t 8))⟩,
    ⟨some 26, some (24, false), .d (.mv (.t 6))⟩,
    ⟨some 27, some (24, false), .d (.bin .bool .neq (.t 25) (.t 26))⟩,
    ⟨some 28, none, .d (.pick (.t 24) (.c (.bool true)) (.t 27))⟩])
  (.cond (.t 28) (.seq (.reg [⟨some 4, none, .d (.mv (.c (.bool false)))⟩])
   (.ret)) (.skip)))
  (.seq (.reg [⟨some 4, none, .d (.mv (.c (.bool true)))⟩])
  (.ret))))), [.tmp 4]⟩
def n_x_MostByNeed : Nat → Option Ann := fun _ => none
abbrev k_x_MostByNeed : List Nat := [0, 1, 4, 5, 6, 7, 8, 28]
abbrev o_x_MostByNeed : List Nat := []
def c_x_MostByNeed : Con := pure' fun
  | [.p (.int .i64 q), .p (.int .i64 m)] => if (True) then some (.p (.bool true), []) else none
  | _ => none
theorem s_x_MostByNeed {P : Program} (hm : P.follows .mixedOrders = true) {Γ : Gam} (hΓ : GS P Γ) {n : FuncId} {f_s_MostByNeed : FuncId} {f_MostByNeed : FuncId} (is : Is P n (a_x_MostByNeed f_s_MostByNeed f_MostByNeed)) (h_s_MostByNeed : Γ f_s_MostByNeed = c_MostByNeed) (h_MostByNeed : Γ f_MostByNeed = c_MostByNeed)  : Says P n c_x_MostByNeed := by
  refine Says.pure fun args r fs h => ?_
  split at h
  case h_2 => cases h
  rename_i q m
  split at h
  case isFalse => cases h
  rename_i hc
  simp only [ofI_ints, ofBo_bools, ofAs_asks, Option.some.injEq, Prod.mk.injEq] at h hc
  obtain ⟨rfl, rfl⟩ := h
  generalize hg2 : (decide (0 ≤ q) && decide (q ≤ 20) && (decide (0 ≤ m) && decide (m ≤ 2))) = b2 at *
  generalize hg1 : (if b2 = true then moF (gF true m) q 9 else 0) = b1 at *
  refine is.go hm hΓ k_x_MostByNeed o_x_MostByNeed (by simp [a_x_MostByNeed]) ?_
  simp only [a_x_MostByNeed, h_s_MostByNeed, c_MostByNeed, h_MostByNeed, c_MostByNeed, hg2, hg1, beq_self_eq_true, Bool.not_true, bne_self_eq_false, List.zipIdx_cons, List.zipIdx_nil, ↓SP, SQ, Gam.add, stepM, callC, argC, lendO, nmBy, nmC, likeL, likeB, plainOb, offs, X, F, trP, trO, stepD, stepW, newA, SV.tr, SV.trL, fz, allP, Ob.tr, loadA, cellsA, SV.cells, binA, binI, eqOut, isSl, isPt, natOf, callee, snap, SV.refsL, SV.refs, thaw, fzAll, loA, hiA, elemOf, partsA, buildA, putCells, ↓reduceIte, reduceCtorEq, okCell, Nat.reduceAdd, Nat.reduceEqDiff, Nat.reduceSub, Nat.reduceMul, Nat.reduceLeDiff, Nat.reduceLT, Nat.reduceBEq, PV.scal, PV.scalL, SV.scal, SV.scalL, Ob.scal, PV.isCell, pure', resO]
  exact finA_val (by simp [retA, rvA, List.mapM_cons, List.mapM_nil, Option.pure_def, Option.bind_eq_bind, Option.bind_some, Option.map_some, mkE_cons, mk_nil, mkO_cons, mkO_nil, loadA, ↓reduceIte, List.take_succ_cons, List.take_zero, List.drop_zero, List.drop_succ_cons, List.length_cons, List.length_nil, Nat.reduceAdd, Nat.reduceEqDiff, Nat.reduceLeDiff, Nat.zero_add, Nat.le_refl, reduceCtorEq, SV.tr, SV.trL, nmF, rn_nil, rn_cons1, rn_cons2, List.map_cons, List.map_nil, List.all_cons, List.all_nil, plainOb, SV.refsL, SV.refs, Ob.refs, X, F, List.range_succ, List.range_zero, List.nil_append, List.cons_append, List.isEmpty_nil, decide_true, Nat.reduceLT, Bool.and_self, Bool.and_true, and_self, and_true, List.getElem?_cons_zero, List.getElem?_cons_succ, List.nodup_cons, List.nodup_nil, List.mem_cons, List.not_mem_nil, not_false_eq_true, or_false, List.append_nil, mkO, setO_mk, List.mem_singleton]) (by simp [SV.tr, SV.trL])
def a_x_OneWayMost (f_s_OneWayMost : FuncId) (f_OneWayMost : FuncId) : AFn := ⟨2, 
  .seq (.reg [⟨some 4, none, .d (.mv (.c (.bool false)))⟩])
  (.seq (.reg [⟨some 10, none, .d (.mv (.t 0))⟩,
    ⟨some 11, none, .d (.mv (.t 1))⟩,
    ⟨some 12, none, .d (.call (.f f_s_OneWayMost) [(.t 10), (.t 11)])⟩,
    ⟨some 9, none, .d (.mv (.t 12))⟩,
    ⟨some 13, none, .d (.extract (.t 9) 0)⟩,
    ⟨some 14, none, .d (.extract (.t 9) 1)⟩,
    ⟨some 5, none, .d (.mv (.t 13))⟩,
    ⟨some 6, none, .d (.mv (.t 14))⟩])
  (.seq (.reg [⟨some 16, none, .d (.mv (.t 0))⟩,
    ⟨some 17, none, .d (.mv (.t 1))⟩,
    ⟨some 18, none, .d (.call (.f f_OneWayMost) [(.t 16), (.t 17)])⟩,
    ⟨some 15, none, .d (.mv (.t 18))⟩,
    ⟨some 19, none, .d (.extract (.t 15) 0)⟩,
    ⟨some 20, none, .d (.extract (.t 15) 1)⟩,
    ⟨some 7, none, .d (.mv (.t 19))⟩,
    ⟨some 8, none, .d (.mv (.t 20))⟩])
  (.seq (.seq (.reg [⟨some 21, none, .d (.mv (.t 7))⟩,
    ⟨some 22, none, .d (.mv (.t 5))⟩,
    ⟨some 23, none, .d (.bin .arith .neq (.t 21) (.t 22))⟩,
    ⟨some 24, none, .d (.mv (.t 23))⟩,
    ⟨some 25, some (24, false), .d (.mv (.t 8))⟩,
    ⟨some 26, some (24, false), .d (.mv (.t 6))⟩,
    ⟨some 27, some (24, false), .d (.bin .bool .neq (.t 25) (.t 26))⟩,
    ⟨some 28, none, .d (.pick (.t 24) (.c (.bool true)) (.t 27))⟩])
  (.cond (.t 28) (.seq (.reg [⟨some 4, none, .d (.mv (.c (.bool false)))⟩])
   (.ret)) (.skip)))
  (.seq (.reg [⟨some 4, none, .d (.mv (.c (.bool true)))⟩])
  (.ret))))), [.tmp 4]⟩
def n_x_OneWayMost : Nat → Option Ann := fun _ => none
abbrev k_x_OneWayMost : List Nat := [0, 1, 4, 5, 6, 7, 8, 28]
abbrev o_x_OneWayMost : List Nat := []
def c_x_OneWayMost : Con := pure' fun
  | [.p (.int .i64 q), .p (.int .i64 m)] => if (True) then some (.p (.bool true), []) else none
  | _ => none
theorem s_x_OneWayMost {P : Program} (hm : P.follows .mixedOrders = true) {Γ : Gam} (hΓ : GS P Γ) {n : FuncId} {f_s_OneWayMost : FuncId} {f_OneWayMost : FuncId} (is : Is P n (a_x_OneWayMost f_s_OneWayMost f_OneWayMost)) (h_s_OneWayMost : Γ f_s_OneWayMost = c_OneWayMost) (h_OneWayMost : Γ f_OneWayMost = c_OneWayMost)  : Says P n c_x_OneWayMost := by
  refine Says.pure fun args r fs h => ?_
  split at h
  case h_2 => cases h
  rename_i q m
  split at h
  case isFalse => cases h
  rename_i hc
  simp only [ofI_ints, ofBo_bools, ofAs_asks, Option.some.injEq, Prod.mk.injEq] at h hc
  obtain ⟨rfl, rfl⟩ := h
  generalize hg2 : (decide (0 ≤ q) && decide (q ≤ 20) && (decide (0 ≤ m) && decide (m ≤ 2))) = b2 at *
  generalize hg1 : (if b2 = true then moF (gF false m) q 9 else 0) = b1 at *
  refine is.go hm hΓ k_x_OneWayMost o_x_OneWayMost (by simp [a_x_OneWayMost]) ?_
  simp only [a_x_OneWayMost, h_s_OneWayMost, c_OneWayMost, h_OneWayMost, c_OneWayMost, hg2, hg1, beq_self_eq_true, Bool.not_true, bne_self_eq_false, List.zipIdx_cons, List.zipIdx_nil, ↓SP, SQ, Gam.add, stepM, callC, argC, lendO, nmBy, nmC, likeL, likeB, plainOb, offs, X, F, trP, trO, stepD, stepW, newA, SV.tr, SV.trL, fz, allP, Ob.tr, loadA, cellsA, SV.cells, binA, binI, eqOut, isSl, isPt, natOf, callee, snap, SV.refsL, SV.refs, thaw, fzAll, loA, hiA, elemOf, partsA, buildA, putCells, ↓reduceIte, reduceCtorEq, okCell, Nat.reduceAdd, Nat.reduceEqDiff, Nat.reduceSub, Nat.reduceMul, Nat.reduceLeDiff, Nat.reduceLT, Nat.reduceBEq, PV.scal, PV.scalL, SV.scal, SV.scalL, Ob.scal, PV.isCell, pure', resO]
  exact finA_val (by simp [retA, rvA, List.mapM_cons, List.mapM_nil, Option.pure_def, Option.bind_eq_bind, Option.bind_some, Option.map_some, mkE_cons, mk_nil, mkO_cons, mkO_nil, loadA, ↓reduceIte, List.take_succ_cons, List.take_zero, List.drop_zero, List.drop_succ_cons, List.length_cons, List.length_nil, Nat.reduceAdd, Nat.reduceEqDiff, Nat.reduceLeDiff, Nat.zero_add, Nat.le_refl, reduceCtorEq, SV.tr, SV.trL, nmF, rn_nil, rn_cons1, rn_cons2, List.map_cons, List.map_nil, List.all_cons, List.all_nil, plainOb, SV.refsL, SV.refs, Ob.refs, X, F, List.range_succ, List.range_zero, List.nil_append, List.cons_append, List.isEmpty_nil, decide_true, Nat.reduceLT, Bool.and_self, Bool.and_true, and_self, and_true, List.getElem?_cons_zero, List.getElem?_cons_succ, List.nodup_cons, List.nodup_nil, List.mem_cons, List.not_mem_nil, not_false_eq_true, or_false, List.append_nil, mkO, setO_mk, List.mem_singleton]) (by simp [SV.tr, SV.trL])
def a_x_NeedTable (f_s_NeedTable : FuncId) (f_NeedTable : FuncId) (f_eqIntS : FuncId) (f_markIntS : FuncId) (f_heldIntS : FuncId) : AFn := ⟨1, 
  .seq (.reg [⟨some 2, none, .d (.mv (.c (.bool false)))⟩])
  (.seq (.reg [⟨some 12, none, .d (.mv (.t 0))⟩,
    ⟨some 13, none, .d (.call (.f f_s_NeedTable) [(.t 12)])⟩,
    ⟨some 11, none, .d (.mv (.t 13))⟩,
    ⟨some 14, none, .d (.extract (.t 11) 0)⟩,
    ⟨some 15, none, .d (.extract (.t 11) 1)⟩,
    ⟨some 3, none, .d (.mv (.t 14))⟩,
    ⟨some 4, none, .d (.mv (.t 15))⟩])
  (.seq (.reg [⟨some 17, none, .d (.mv (.t 0))⟩,
    ⟨some 18, none, .w (.callL (.f f_NeedTable) [(.t 17)] [] 1 false)⟩,
    ⟨some 16, none, .d (.mv (.t 18))⟩,
    ⟨some 19, none, .d (.extract (.t 16) 0)⟩,
    ⟨some 20, none, .d (.extract (.t 16) 1)⟩,
    ⟨some 5, none, .d (.mv (.t 19))⟩,
    ⟨some 6, none, .d (.mv (.t 20))⟩])
  (.seq (.seq (.reg [⟨some 21, none, .d (.mv (.t 5))⟩,
    ⟨some 22, none, .d (.mv (.t 3))⟩,
    ⟨some 23, none, .d (.call (.f f_eqIntS) [(.t 21), (.t 22)])⟩,
    ⟨some 24, none, .d (.not (.t 23))⟩,
    ⟨some 25, none, .d (.mv (.t 24))⟩,
    ⟨some 26, some (25, false), .d (.mv (.t 6))⟩,
    ⟨some 27, some (25, false), .d (.mv (.t 4))⟩,
    ⟨some 28, some (25, false), .d (.bin .bool .neq (.t 26) (.t 27))⟩,
    ⟨some 29, none, .d (.pick (.t 25) (.c (.bool true)) (.t 28))⟩])
  (.cond (.t 29) (.seq (.reg [⟨some 2, none, .d (.mv (.c (.bool false)))⟩])
   (.ret)) (.skip)))
  (.seq (.reg [⟨some 7, none, .d (.mv (.c (.int .i64 1)))⟩])
  (.seq (.reg [⟨some 30, none, .d (.mv (.t 5))⟩,
    ⟨some 31, none, .d (.mv (.t 7))⟩,
    ⟨some 32, none, .w (.callL (.f f_markIntS) [(.t 30), (.t 31)] [18] 0 false)⟩,
    ⟨some 7, none, .d (.mv (.t 32))⟩])
  (.seq (.reg [⟨some 8, none, .d (.mv (.c (.int .i64 1)))⟩])
  (.seq (.reg [⟨some 33, none, .d (.mv (.t 5))⟩,
    ⟨some 34, none, .d (.mv (.t 8))⟩,
    ⟨some 35, none, .d (.call (.f f_heldIntS) [(.t 33), (.t 34)])⟩,
    ⟨some 8, none, .d (.mv (.t 35))⟩])
  (.seq (.seq (.reg [⟨some 36, none, .d (.mv (.t 8))⟩,
    ⟨some 37, none, .d (.bin .arith .lss (.t 36) (.c (.int .i64 0)))⟩])
  (.cond (.t 37) (.seq (.reg [⟨some 2, none, .d (.mv (.c (.bool false)))⟩])
   (.ret)) (.skip)))
  (.seq (.seq (.reg [⟨some 38, none, .d (.mv (.t 8))⟩,
    ⟨some 39, none, .d (.mv (.t 7))⟩,
    ⟨some 40, none, .d (.bin .arith .neq (.t 38) (.t 39))⟩])
  (.cond (.t 40) (.seq (.reg [⟨some 2, none, .d (.mv (.c (.bool false)))⟩])
   (.ret)) (.skip)))
  (.seq (.reg [⟨some 42, none, .d (.mv (.t 0))⟩,
    ⟨some 43, none, .d (.call (.f f_NeedTable) [(.t 42)])⟩,
    ⟨some 41, none, .d (.mv (.t 43))⟩,
    ⟨some 44, none, .d (.extract (.t 41) 0)⟩,
    ⟨some 45, none, .d (.extract (.t 41) 1)⟩,
    ⟨some 9, none, .d (.mv (.t 44))⟩,
    ⟨some 10, none, .d (.mv (.t 45))⟩])
  (.seq (.seq (.reg [⟨some 46, none, .d (.mv (.t 9))⟩,
    ⟨some 47, none, .d (.mv (.t 3))⟩,
    ⟨some 48, none, .d (.call (.f f_eqIntS) [(.t 46), (.t 47)])⟩,
    ⟨some 49, none, .d (.not (.t 48))⟩,
    ⟨some 50, none, .d (.mv (.t 49))⟩,
    ⟨some 51, some (50, false), .d (.mv (.t 10))⟩,
    ⟨some 52, some (50, false), .d (.mv (.t 4))⟩,
    ⟨some 53, some (50, false), .d (.bin .bool .neq (.t 51) (.t 52))⟩,
    ⟨some 54, none, .d (.pick (.t 50) (.c (.bool true)) (.t 53))⟩])
  (.cond (.t 54) (.seq (.reg [⟨some 2, none, .d (.mv (.c (.bool false)))⟩])
   (.ret)) (.skip)))
  (.seq (.reg [⟨some 8, none, .d (.mv (.c (.int .i64 1)))⟩])
  (.seq (.reg [⟨some 55, none, .d (.mv (.t 5))⟩,
    ⟨some 56, none, .d (.mv (.t 8))⟩,
    ⟨some 57, none, .d (.call (.f f_heldIntS) [(.t 55), (.t 56)])⟩,
    ⟨some 8, none, .d (.mv (.t 57))⟩])
  (.seq (.seq (.reg [⟨some 58, none, .d (.mv (.t 8))⟩,
    ⟨some 59, none, .d (.bin .arith .lss (.t 58) (.c (.int .i64 0)))⟩])
  (.cond (.t 59) (.seq (.reg [⟨some 2, none, .d (.mv (.c (.bool false)))⟩])
   (.ret)) (.skip)))
  (.seq (.seq (.reg [⟨some 60, none, .d (.mv (.t 8))⟩,
    ⟨some 61, none, .d (.mv (.t 7))⟩,
    ⟨some 62, none, .d (.bin .arith .neq (.t 60) (.t 61))⟩])
  (.cond (.t 62) (.seq (.reg [⟨some 2, none, .d (.mv (.c (.bool false)))⟩])
   (.ret)) (.skip)))
  (.seq (.reg [⟨some 2, none, .d (.mv (.c (.bool true)))⟩])
  (.ret))))))))))))))))), [.tmp 2]⟩
def n_x_NeedTable : Nat → Option Ann := fun d => if d = 18 then some ⟨[], 1, false⟩ else if d = 32 then some ⟨[18], 0, false⟩ else none
abbrev k_x_NeedTable : List Nat := [0, 2, 3, 4, 5, 6, 7, 8, 9, 10, 29, 37, 40, 54, 59, 62]
abbrev o_x_NeedTable : List Nat := [18]
def c_x_NeedTable : Con := pure' fun
  | [.p (.int .i64 m)] => if (True) then some (.p (.bool true), []) else none
  | _ => none
set_option maxRecDepth 100000 in
theorem s_x_NeedTable {P : Program} (hm : P.follows .mixedOrders = true) {Γ : Gam} (hΓ : GS P Γ) {n : FuncId} {f_s_NeedTable : FuncId} {f_NeedTable : FuncId} {f_eqIntS : FuncId} {f_markIntS : FuncId} {f_heldIntS : FuncId} (is : Is P n (a_x_NeedTable f_s_NeedTable f_NeedTable f_eqIntS f_markIntS f_heldIntS)) (h_s_NeedTable : Γ f_s_NeedTable = c_s_NeedTable) (h_NeedTable : Γ f_NeedTable = c_NeedTable) (h_eqIntS : Γ f_eqIntS = c_eqIntS) (h_markIntS : Γ f_markIntS = c_markIntS) (h_heldIntS : Γ f_heldIntS = c_heldIntS)  : Says P n c_x_NeedTable := by
  refine Says.pure fun args r fs h => ?_
  split at h
  case h_2 => cases h
  rename_i m
  split at h
  case isFalse => cases h
  rename_i hc
  simp only [ofI_ints, ofBo_bools, ofAs_asks, Option.some.injEq, Prod.mk.injEq] at h hc
  obtain ⟨rfl, rfl⟩ := h
  generalize hgy : taF (gF true m) 8 = y at *
  have q4 : y.length ≤ 1100000 := by rw [← hgy, taF_len]; omega
  have q5 : y.length ≤ 1048576 := by rw [← hgy, taF_len]; omega
  have hmy := marks_len 1 y.length
  have hhy := held_marks 1 y.length
  have q3 : ¬ (1 : Int) + y.length < 0 := by omega
  have hnb : held [] 1 := fun j hj => by simp at hj
  cases hg2 : (decide (0 ≤ m) && decide (m ≤ 2)) with
  | true =>
    refine is.go hm hΓ k_x_NeedTable o_x_NeedTable (by simp [a_x_NeedTable]) ?_
    simp only [a_x_NeedTable, h_s_NeedTable, c_s_NeedTable, h_NeedTable, c_NeedTable, h_eqIntS, c_eqIntS, h_markIntS, c_markIntS, h_heldIntS, c_heldIntS, hgy, hg2, q3, q4, q5, hmy, hhy, ints_len, slI_sl, beq_self_eq_true, Bool.not_true, Int.reduceLE, Int.reduceNeg, Int.reduceLT, bne_self_eq_false, List.zipIdx_cons, List.zipIdx_nil, ↓SP, SQ, Gam.add, stepM, callC, argC, lendO, nmBy, nmC, likeL, likeB, plainOb, offs, X, F, trP, trO, stepD, stepW, newA, SV.tr, SV.trL, fz, allP, Ob.tr, loadA, cellsA, SV.cells, binA, binI, eqOut, isSl, isPt, natOf, callee, snap, SV.refsL, SV.refs, thaw, fzAll, loA, hiA, elemOf, partsA, buildA, putCells, ↓reduceIte, reduceCtorEq, okCell, Nat.reduceAdd, Nat.reduceEqDiff, Nat.reduceSub, Nat.reduceMul, Nat.reduceLeDiff, Nat.reduceLT, Nat.reduceBEq, PV.scal, PV.scalL, SV.scal, SV.scalL, Ob.scal, PV.isCell, pure', resO]
    exact finA_val (by simp [retA, rvA, List.mapM_cons, List.mapM_nil, Option.pure_def, Option.bind_eq_bind, Option.bind_some, Option.map_some, mkE_cons, mk_nil, mkO_cons, mkO_nil, loadA, ↓reduceIte, List.take_succ_cons, List.take_zero, List.drop_zero, List.drop_succ_cons, List.length_cons, List.length_nil, Nat.reduceAdd, Nat.reduceEqDiff, Nat.reduceLeDiff, Nat.zero_add, Nat.le_refl, reduceCtorEq, SV.tr, SV.trL, nmF, rn_nil, rn_cons1, rn_cons2, List.map_cons, List.map_nil, List.all_cons, List.all_nil, plainOb, SV.refsL, SV.refs, Ob.refs, X, F, List.range_succ, List.range_zero, List.nil_append, List.cons_append, List.isEmpty_nil, decide_true, Nat.reduceLT, Bool.and_self, Bool.and_true, and_self, and_true, List.getElem?_cons_zero, List.getElem?_cons_succ, List.nodup_cons, List.nodup_nil, List.mem_cons, List.not_mem_nil, not_false_eq_true, or_false, List.append_nil, mkO, setO_mk, List.mem_singleton]) (by simp [SV.tr, SV.trL])
  | false =>
    refine is.go hm hΓ k_x_NeedTable o_x_NeedTable (by simp [a_x_NeedTable]) ?_
    simp only [a_x_NeedTable, h_s_NeedTable, c_s_NeedTable, h_NeedTable, c_NeedTable, h_eqIntS, c_eqIntS, h_markIntS, c_markIntS, h_heldIntS, c_heldIntS, hgy, hg2, hnb, ints_len, slI_sl, slI_nil, Bool.false_eq_true, beq_self_eq_true, Bool.not_true, Int.reduceLE, Int.reduceNeg, Int.reduceLT, bne_self_eq_false, List.zipIdx_cons, List.zipIdx_nil, ↓SP, SQ, Gam.add, stepM, callC, argC, lendO, nmBy, nmC, likeL, likeB, plainOb, offs, X, F, trP, trO, stepD, stepW, newA, SV.tr, SV.trL, fz, allP, Ob.tr, loadA, cellsA, SV.cells, binA, binI, eqOut, isSl, isPt, natOf, callee, snap, SV.refsL, SV.refs, thaw, fzAll, loA, hiA, elemOf, partsA, buildA, putCells, ↓reduceIte, reduceCtorEq, okCell, Nat.reduceAdd, Nat.reduceEqDiff, Nat.reduceSub, Nat.reduceMul, Nat.reduceLeDiff, Nat.reduceLT, Nat.reduceBEq, PV.scal, PV.scalL, SV.scal, SV.scalL, Ob.scal, PV.isCell, pure', resO]
    exact finA_val (by simp [retA, rvA, List.mapM_cons, List.mapM_nil, Option.pure_def, Option.bind_eq_bind, Option.bind_some, Option.map_some, mkE_cons, mk_nil, mkO_cons, mkO_nil, loadA, ↓reduceIte, List.take_succ_cons, List.take_zero, List.drop_zero, List.drop_succ_cons, List.length_cons, List.length_nil, Nat.reduceAdd, Nat.reduceEqDiff, Nat.reduceLeDiff, Nat.zero_add, Nat.le_refl, reduceCtorEq, SV.tr, SV.trL, nmF, rn_nil, rn_cons1, rn_cons2, List.map_cons, List.map_nil, List.all_cons, List.all_nil, plainOb, SV.refsL, SV.refs, Ob.refs, X, F, List.range_succ, List.range_zero, List.nil_append, List.cons_append, List.isEmpty_nil, decide_true, Nat.reduceLT, Bool.and_self, Bool.and_true, and_self, and_true, List.getElem?_cons_zero, List.getElem?_cons_succ, List.nodup_cons, List.nodup_nil, List.mem_cons, List.not_mem_nil, not_false_eq_true, or_false, List.append_nil, mkO, setO_mk, List.mem_singleton]) (by simp [SV.tr, SV.trL])
def a_x_OneWayTable (f_s_OneWayTable : FuncId) (f_OneWayTable : FuncId) (f_eqIntS : FuncId) (f_markIntS : FuncId) (f_heldIntS : FuncId) : AFn := ⟨1, 
  .seq (.reg [⟨some 2, none, .d (.mv (.c (.bool false)))⟩])
  (.seq (.reg [⟨some 12, none, .d (.mv (.t 0))⟩,
    ⟨some 13, none, .d (.call (.f f_s_OneWayTable) [(.t 12)])⟩,
    ⟨some 11, none, .d (.mv (.t 13))⟩,
    ⟨some 14, none, .d (.extract (.t 11) 0)⟩,
    ⟨some 15, none, .d (.extract (.t 11) 1)⟩,
    ⟨some 3, none, .d (.mv (.t 14))⟩,
    ⟨some 4, none, .d (.mv (.t 15))⟩])
  (.seq (.reg [⟨some 17, none, .d (.mv (.t 0))⟩,
    ⟨some 18, none, .w (.callL (.f f_OneWayTable) [(.t 17)] [] 1 false)⟩,
    ⟨some 16, none, .d (.mv (.t 18))⟩,
    ⟨some 19, none, .d (.extract (.t 16) 0)⟩,
    ⟨some 20, none, .d (.extract (.t 16) 1)⟩,
    ⟨some 5, none, .d (.mv (.t 19))⟩,
    ⟨some 6, none, .d (.mv (.t 20))⟩])
  (.seq (.seq (.reg [⟨some 21, none, .d (.mv (.t 5))⟩,
    ⟨some 22, none, .d (.mv (.t 3))⟩,
    ⟨some 23, none, .d (.call (.f f_eqIntS) [(.t 21), (.t 22)])⟩,
    ⟨some 24, none, .d (.not (.t 23))⟩,
    ⟨some 25, none, .d (.mv (.t 24))⟩,
    ⟨some 26, some (25, false), .d (.mv (.t 6))⟩,
    ⟨some 27, some (25, false), .d (.mv (.t 4))⟩,
    ⟨some 28, some (25, false), .d (.bin .bool .neq (.t 26) (.t 27))⟩,
    ⟨some 29, none, .d (.pick (.t 25) (.c (.bool true)) (.t 28))⟩])
  (.cond (.t 29) (.seq (.reg [⟨some 2, none, .d (.mv (.c (.bool false)))⟩])
   (.ret)) (.skip)))
  (.seq (.reg [⟨some 7, none, .d (.mv (.c (.int .i64 1)))⟩])
  (.seq (.reg [⟨some 30, none, .d (.mv (.t 5))⟩,
    ⟨some 31, none, .d (.mv (.t 7))⟩,
    ⟨some 32, none, .w (.callL (.f f_markIntS) [(.t 30), (.t 31)] [18] 0 false)⟩,
    ⟨some 7, none, .d (.mv (.t 32))⟩])
  (.seq (.reg [⟨some 8, none, .d (.mv (.c (.int .i64 1)))⟩])
  (.seq (.reg [⟨some 33, none, .d (.mv (.t 5))⟩,
    ⟨some 34, none, .d (.mv (.t 8))⟩,
    ⟨some 35, none, .d (.call (.f f_heldIntS) [(.t 33), (.t 34)])⟩,
    ⟨some 8, none, .d (.mv (.t 35))⟩])
  (.seq (.seq (.reg [⟨some 36, none, .d (.mv (.t 8))⟩,
    ⟨some 37, none, .d (.bin .arith .lss (.t 36) (.c (.int .i64 0)))⟩])
  (.cond (.t 37) (.seq (.reg [⟨some 2, none, .d (.mv (.c (.bool false)))⟩])
   (.ret)) (.skip)))
  (.seq (.seq (.reg [⟨some 38, none, .d (.mv (.t 8))⟩,
    ⟨some 39, none, .d (.mv (.t 7))⟩,
    ⟨some 40, none, .d (.bin .arith .neq (.t 38) (.t 39))⟩])
  (.cond (.t 40) (.seq (.reg [⟨some 2, none, .d (.mv (.c (.bool false)))⟩])
   (.ret)) (.skip)))
  (.seq (.reg [⟨some 42, none, .d (.mv (.t 0))⟩,
    ⟨some 43, none, .d (.call (.f f_OneWayTable) [(.t 42)])⟩,
    ⟨some 41, none, .d (.mv (.t 43))⟩,
    ⟨some 44, none, .d (.extract (.t 41) 0)⟩,
    ⟨some 45, none, .d (.extract (.t 41) 1)⟩,
    ⟨some 9, none, .d (.mv (.t 44))⟩,
    ⟨some 10, none, .d (.mv (.t 45))⟩])
  (.seq (.seq (.reg [⟨some 46, none, .d (.mv (.t 9))⟩,
    ⟨some 47, none, .d (.mv (.t 3))⟩,
    ⟨some 48, none, .d (.call (.f f_eqIntS) [(.t 46), (.t 47)])⟩,
    ⟨some 49, none, .d (.not (.t 48))⟩,
    ⟨some 50, none, .d (.mv (.t 49))⟩,
    ⟨some 51, some (50, false), .d (.mv (.t 10))⟩,
    ⟨some 52, some (50, false), .d (.mv (.t 4))⟩,
    ⟨some 53, some (50, false), .d (.bin .bool .neq (.t 51) (.t 52))⟩,
    ⟨some 54, none, .d (.pick (.t 50) (.c (.bool true)) (.t 53))⟩])
  (.cond (.t 54) (.seq (.reg [⟨some 2, none, .d (.mv (.c (.bool false)))⟩])
   (.ret)) (.skip)))
  (.seq (.reg [⟨some 8, none, .d (.mv (.c (.int .i64 1)))⟩])
  (.seq (.reg [⟨some 55, none, .d (.mv (.t 5))⟩,
    ⟨some 56, none, .d (.mv (.t 8))⟩,
    ⟨some 57, none, .d (.call (.f f_heldIntS) [(.t 55), (.t 56)])⟩,
    ⟨some 8, none, .d (.mv (.t 57))⟩])
  (.seq (.seq (.reg [⟨some 58, none, .d (.mv (.t 8))⟩,
    ⟨some 59, none, .d (.bin .arith .lss (.t 58) (.c (.int .i64 0)))⟩])
  (.cond (.t 59) (.seq (.reg [⟨some 2, none, .d (.mv (.c (.bool false)))⟩])
   (.ret)) (.skip)))
  (.seq (.seq (.reg [⟨some 60, none, .d (.mv (.t 8))⟩,
    ⟨some 61, none, .d (.mv (.t 7))⟩,
    ⟨some 62, none, .d (.bin .arith .neq (.t 60) (.t 61))⟩])
  (.cond (.t 62) (.seq (.reg [⟨some 2, none, .d (.mv (.c (.bool false)))⟩])
   (.ret)) (.skip)))
  (.seq (.reg [⟨some 2, none, .d (.mv (.c (.bool true)))⟩])
  (.ret))))))))))))))))), [.tmp 2]⟩
def n_x_OneWayTable : Nat → Option Ann := fun d => if d = 18 then some ⟨[], 1, false⟩ else if d = 32 then some ⟨[18], 0, false⟩ else none
abbrev k_x_OneWayTable : List Nat := [0, 2, 3, 4, 5, 6, 7, 8, 9, 10, 29, 37, 40, 54, 59, 62]
abbrev o_x_OneWayTable : List Nat := [18]
def c_x_OneWayTable : Con := pure' fun
  | [.p (.int .i64 m)] => if (True) then some (.p (.bool true), []) else none
  | _ => none
set_option maxRecDepth 100000 in
theorem s_x_OneWayTable {P : Program} (hm : P.follows .mixedOrders = true) {Γ : Gam} (hΓ : GS P Γ) {n : FuncId} {f_s_OneWayTable : FuncId} {f_OneWayTable : FuncId} {f_eqIntS : FuncId} {f_markIntS : FuncId} {f_heldIntS : FuncId} (is : Is P n (a_x_OneWayTable f_s_OneWayTable f_OneWayTable f_eqIntS f_markIntS f_heldIntS)) (h_s_OneWayTable : Γ f_s_OneWayTable = c_s_OneWayTable) (h_OneWayTable : Γ f_OneWayTable = c_OneWayTable) (h_eqIntS : Γ f_eqIntS = c_eqIntS) (h_markIntS : Γ f_markIntS = c_markIntS) (h_heldIntS : Γ f_heldIntS = c_heldIntS)  : Says P n c_x_OneWayTable := by
  refine Says.pure fun args r fs h => ?_
  split at h
  case h_2 => cases h
  rename_i m
  split at h
  case isFalse => cases h
  rename_i hc
  simp only [ofI_ints, ofBo_bools, ofAs_asks, Option.some.injEq, Prod.mk.injEq] at h hc
  obtain ⟨rfl, rfl⟩ := h
  generalize hgy : taF (gF false m) 8 = y at *
  have q4 : y.length ≤ 1100000 := by rw [← hgy, taF_len]; omega
  have q5 : y.length ≤ 1048576 := by rw [← hgy, taF_len]; omega
  have hmy := marks_len 1 y.length
  have hhy := held_marks 1 y.length
  have q3 : ¬ (1 : Int) + y.length < 0 := by omega
  have hnb : held [] 1 := fun j hj => by simp at hj
  cases hg2 : (decide (0 ≤ m) && decide (m ≤ 2)) with
  | true =>
    refine is.go hm hΓ k_x_OneWayTable o_x_OneWayTable (by simp [a_x_OneWayTable]) ?_
    simp only [a_x_OneWayTable, h_s_OneWayTable, c_s_OneWayTable, h_OneWayTable, c_OneWayTable, h_eqIntS, c_eqIntS, h_markIntS, c_markIntS, h_heldIntS, c_heldIntS, hgy, hg2, q3, q4, q5, hmy, hhy, ints_len, slI_sl, beq_self_eq_true, Bool.not_true, Int.reduceLE, Int.reduceNeg, Int.reduceLT, bne_self_eq_false, List.zipIdx_cons, List.zipIdx_nil, ↓SP, SQ, Gam.add, stepM, callC, argC, lendO, nmBy, nmC, likeL, likeB, plainOb, offs, X, F, trP, trO, stepD, stepW, newA, SV.tr, SV.trL, fz, allP, Ob.tr, loadA, cellsA, SV.cells, binA, binI, eqOut, isSl, isPt, natOf, callee, snap, SV.refsL, SV.refs, thaw, fzAll, loA, hiA, elemOf, partsA, buildA, putCells, ↓reduceIte, reduceCtorEq, okCell, Nat.reduceAdd, Nat.reduceEqDiff, Nat.reduceSub, Nat.reduceMul, Nat.reduceLeDiff, Nat.reduceLT, Nat.reduceBEq, PV.scal, PV.scalL, SV.scal, SV.scalL, Ob.scal, PV.isCell, pure', resO]
    exact finA_val (by simp [retA, rvA, List.mapM_cons, List.mapM_nil, Option.pure_def, Option.bind_eq_bind, Option.bind_some, Option.map_some, mkE_cons, mk_nil, mkO_cons, mkO_nil, loadA, ↓reduceIte, List.take_succ_cons, List.take_zero, List.drop_zero, List.drop_succ_cons, List.length_cons, List.length_nil, Nat.reduceAdd, Nat.reduceEqDiff, Nat.reduceLeDiff, Nat.zero_add, Nat.le_refl, reduceCtorEq, SV.tr, SV.trL, nmF, rn_nil, rn_cons1, rn_cons2, List.map_cons, List.map_nil, List.all_cons, List.all_nil, plainOb, SV.refsL, SV.refs, Ob.refs, X, F, List.range_succ, List.range_zero, List.nil_append, List.cons_append, List.isEmpty_nil, decide_true, Nat.reduceLT, Bool.and_self, Bool.and_true, and_self, and_true, List.getElem?_cons_zero, List.getElem?_cons_succ, List.nodup_cons, List.nodup_nil, List.mem_cons, List.not_mem_nil, not_false_eq_true, or_false, List.append_nil, mkO, setO_mk, List.mem_singleton]) (by simp [SV.tr, SV.trL])
  | false =>
    refine is.go hm hΓ k_x_OneWayTable o_x_OneWayTable (by simp [a_x_OneWayTable]) ?_
    simp only [a_x_OneWayTable, h_s_OneWayTable, c_s_OneWayTable, h_OneWayTable, c_OneWayTable, h_eqIntS, c_eqIntS, h_markIntS, c_markIntS, h_heldIntS, c_heldIntS, hgy, hg2, hnb, ints_len, slI_sl, slI_nil, Bool.false_eq_true, beq_self_eq_true, Bool.not_true, Int.reduceLE, Int.reduceNeg, Int.reduceLT, bne_self_eq_false, List.zipIdx_cons, List.zipIdx_nil, ↓SP, SQ, Gam.add, stepM, callC, argC, lendO, nmBy, nmC, likeL, likeB, plainOb, offs, X, F, trP, trO, stepD, stepW, newA, SV.tr, SV.trL, fz, allP, Ob.tr, loadA, cellsA, SV.cells, binA, binI, eqOut, isSl, isPt, natOf, callee, snap, SV.refsL, SV.refs, thaw, fzAll, loA, hiA, elemOf, partsA, buildA, putCells, ↓reduceIte, reduceCtorEq, okCell, Nat.reduceAdd, Nat.reduceEqDiff, Nat.reduceSub, Nat.reduceMul, Nat.reduceLeDiff, Nat.reduceLT, Nat.reduceBEq, PV.scal, PV.scalL, SV.scal, SV.scalL, Ob.scal, PV.isCell, pure', resO]
    exact finA_val (by simp [retA, rvA, List.mapM_cons, List.mapM_nil, Option.pure_def, Option.bind_eq_bind, Option.bind_some, Option.map_some, mkE_cons, mk_nil, mkO_cons, mkO_nil, loadA, ↓reduceIte, List.take_succ_cons, List.take_zero, List.drop_zero, List.drop_succ_cons, List.length_cons, List.length_nil, Nat.reduceAdd, Nat.reduceEqDiff, Nat.reduceLeDiff, Nat.zero_add, Nat.le_refl, reduceCtorEq, SV.tr, SV.trL, nmF, rn_nil, rn_cons1, rn_cons2, List.map_cons, List.map_nil, List.all_cons, List.all_nil, plainOb, SV.refsL, SV.refs, Ob.refs, X, F, List.range_succ, List.range_zero, List.nil_append, List.cons_append, List.isEmpty_nil, decide_true, Nat.reduceLT, Bool.and_self, Bool.and_true, and_self, and_true, List.getElem?_cons_zero, List.getElem?_cons_succ, List.nodup_cons, List.nodup_nil, List.mem_cons, List.not_mem_nil, not_false_eq_true, or_false, List.append_nil, mkO, setO_mk, List.mem_singleton]) (by simp [SV.tr, SV.trL])
end Go.Proofs.Ytmncbkkpchmjhaa.Pam
