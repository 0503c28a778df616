/- A part of the proof that stands in this folder: a small machine whose steps are shown to be the steps of the model, or walks of functions by it. No condition of its own. -/
import Derived.Test.YtgnclbdhpdjafaaGaNE
set_option linter.unusedVariables false
set_option linter.unusedSimpArgs false
namespace Go.Proofs.Ytgnclbdhpdjafaa.Pam
open Go
def a_LessNeed (f_isShort : FuncId) (f_newLesser : FuncId) (f_lneed : FuncId) : AFn := ⟨1, 
  .seq (.reg [⟨some 1, none, .w (.box 2 (.t 0))⟩,
    ⟨some 2, none, .d (.mv (.c (.int .i64 0)))⟩,
    ⟨some 3, none, .d (.mv (.c (.bool false)))⟩])
  (.seq (.seq (.reg [⟨some 4, none, .d (.load true 2 (.t 1))⟩,
    ⟨some 5, none, .d (.call (.f f_isShort) [(.t 4)])⟩,
    ⟨some 6, none, .d (.not (.t 5))⟩])
  (.cond (.t 6) (.seq (.reg [⟨some 2, none, .d (.mv (.c (.int .i64 0)))⟩,
     ⟨some 3, none, .d (.mv (.c (.bool false)))⟩])
   (.ret)) (.skip)))
  (.seq (.dreg [7] [([], ⟨some 7, none, .w (.callL (.f f_newLesser) [] [] 1 false)⟩),
    ([7], ⟨some 8, none, .d (.load true 2 (.t 1))⟩)] [⟨some 9, none, .w (.callL (.f f_lneed) [(.t 7), (.t 8)] [7] 0 false)⟩,
    ⟨some 2, none, .d (.mv (.t 9))⟩,
    ⟨some 3, none, .d (.mv (.c (.bool true)))⟩])
  (.ret))), [.tmp 2, .tmp 3]⟩
def n_LessNeed : Nat → Option Ann := fun d => if d = 7 then some ⟨[], 1, false⟩ else if d = 9 then some ⟨[7], 0, false⟩ else none
abbrev k_LessNeed : List Nat := [0, 1, 2, 3, 6]
abbrev o_LessNeed : List Nat := [1, 7]
def a_s_LessNeed (f_l6Short : FuncId) (f_l6Needs : FuncId) (f_l6Key : FuncId) : AFn := ⟨1, 
  .seq (.reg [⟨some 1, none, .w (.box 2 (.t 0))⟩,
    ⟨some 2, none, .d (.mv (.c (.int .i64 0)))⟩,
    ⟨some 3, none, .d (.mv (.c (.bool false)))⟩])
  (.seq (.seq (.reg [⟨some 4, none, .d (.load true 2 (.t 1))⟩,
    ⟨some 5, none, .d (.call (.f f_l6Short) [(.t 4)])⟩,
    ⟨some 6, none, .d (.not (.t 5))⟩])
  (.cond (.t 6) (.seq (.reg [⟨some 2, none, .d (.mv (.c (.int .i64 0)))⟩,
     ⟨some 3, none, .d (.mv (.c (.bool false)))⟩])
   (.ret)) (.skip)))
  (.seq (.dreg [] [([], ⟨some 7, none, .d (.fa 0 (.t 1))⟩),
    ([], ⟨some 8, none, .d (.load false 1 (.t 7))⟩),
    ([], ⟨some 9, none, .d (.len (.t 8))⟩),
    ([], ⟨some 10, none, .d (.fa 1 (.t 1))⟩),
    ([], ⟨some 11, none, .d (.load false 1 (.t 10))⟩),
    ([], ⟨some 12, none, .d (.call (.f f_l6Needs) [(.t 9), (.t 11)])⟩),
    ([], ⟨some 13, none, .d (.load true 2 (.t 1))⟩)] [⟨some 14, none, .d (.call (.f f_l6Key) [(.t 13)])⟩,
    ⟨some 15, none, .d (.ia 1 (.t 12) (.t 14))⟩,
    ⟨some 16, none, .d (.load false 1 (.t 15))⟩,
    ⟨some 2, none, .d (.mv (.t 16))⟩,
    ⟨some 3, none, .d (.mv (.c (.bool true)))⟩])
  (.ret))), [.tmp 2, .tmp 3]⟩
def n_s_LessNeed : Nat → Option Ann := fun _ => none
abbrev k_s_LessNeed : List Nat := [0, 1, 2, 3, 6]
abbrev o_s_LessNeed : List Nat := [1]
def c_LessNeed : Con := pure' fun
  | [.p (.agg [.sl 1 x_, .int .i64 m])] => if isI x_ = true ∧ ((ofI x_).length ≤ 1100000) then some (.tp [.p (.int .i64 (if isSh (ofI x_) m = true then lnT m (ofI x_) else 0)), .p (.bool (isSh (ofI x_) m))], []) else none
  | _ => none
theorem s_LessNeed {P : Program} (hm : P.follows .mixedOrders = true) {Γ : Gam} (hΓ : GS P Γ) {n : FuncId} {f_isShort : FuncId} {f_newLesser : FuncId} {f_lneed : FuncId} (is : Is P n (a_LessNeed f_isShort f_newLesser f_lneed)) (h_isShort : Γ f_isShort = c_isShort) (h_newLesser : Γ f_newLesser = c_newLesser) (h_lneed : Γ f_lneed = c_lneed)  : Says P n c_LessNeed := by
  refine Says.pure fun args r fs h => ?_
  split at h
  case h_2 => cases h
  rename_i x_ m
  split at h
  case isFalse => cases h
  rename_i hc
  obtain ⟨hx_, hc⟩ := hc
  obtain ⟨x, rfl⟩ := isI_out hx_
  simp only [ofI_ints, ofBo_bools, ofAs_asks, Option.some.injEq, Prod.mk.injEq] at h hc
  obtain ⟨rfl, rfl⟩ := h
  cases h1 : isSh x m with
  | false =>
    refine is.go hm hΓ k_LessNeed o_LessNeed (by simp [a_LessNeed]) ?_
    simp only [a_LessNeed, h_isShort, c_isShort, h_newLesser, c_newLesser, h_lneed, c_lneed, hc, h1, Bool.false_eq_true, List.zipIdx_cons, List.zipIdx_nil, ↓SP, SQ, Gam.add, stepM, callC, argC, lendO, nmBy, nmC, likeL, likeB, plainOb, offs, exL, X, F, trP, trO, stepD, stepW, newA, SV.tr, SV.trL, fz, allP, Ob.tr, loadA, cellsA, SV.cells, binA, binI, eqOut, isSl, isPt, natOf, callee, snap, SV.refsL, SV.refs, thaw, fzAll, loA, hiA, elemOf, partsA, buildA, putCells, ↓reduceIte, reduceCtorEq, okCell, Nat.reduceAdd, Nat.reduceEqDiff, Nat.reduceSub, Nat.reduceMul, Nat.reduceLeDiff, Nat.reduceLT, Nat.reduceBEq, PV.scal, PV.scalL, SV.scal, SV.scalL, Ob.scal, PV.isCell, pure', resO]
    exact finA_val (by simp [retA, rvA, List.mapM_cons, List.mapM_nil, Option.pure_def, Option.bind_eq_bind, Option.bind_some, Option.map_some, mkE_cons, mk_nil, mkO_cons, mkO_nil, loadA, ↓reduceIte, List.take_succ_cons, List.take_zero, List.drop_zero, List.drop_succ_cons, List.length_cons, List.length_nil, Nat.reduceAdd, Nat.reduceEqDiff, Nat.reduceLeDiff, Nat.zero_add, Nat.le_refl, reduceCtorEq, SV.tr, SV.trL, nmF, rn_nil, rn_cons1, rn_cons2, List.map_cons, List.map_nil, List.all_cons, List.all_nil, plainOb, SV.refsL, SV.refs, Ob.refs, X, F, List.range_succ, List.range_zero, List.nil_append, List.cons_append, List.isEmpty_nil, decide_true, Nat.reduceLT, Bool.and_self, Bool.and_true, and_self, and_true, List.getElem?_cons_zero, List.getElem?_cons_succ, List.nodup_cons, List.nodup_nil, List.mem_cons, List.not_mem_nil, not_false_eq_true, or_false, List.append_nil, mkO, setO_mk, List.mem_singleton]) (by simp [SV.tr, SV.trL])
  | true =>
    have hok := okLM_nil m x.length
    have hi0 : isES [] = true := rfl
    have ho0 : ofES [] = [] := rfl
    refine is.go hm hΓ k_LessNeed o_LessNeed (by simp [a_LessNeed]) ?_
    simp only [a_LessNeed, h_isShort, c_isShort, h_newLesser, c_newLesser, h_lneed, c_lneed, hc, h1, hok, hi0, ho0, ints_len, isI_ints, ofI_ints, List.zipIdx_cons, List.zipIdx_nil, ↓SP, SQ, Gam.add, stepM, callC, argC, lendO, nmBy, nmC, likeL, likeB, plainOb, offs, exL, X, F, trP, trO, stepD, stepW, newA, SV.tr, SV.trL, fz, allP, Ob.tr, loadA, cellsA, SV.cells, binA, binI, eqOut, isSl, isPt, natOf, callee, snap, SV.refsL, SV.refs, thaw, fzAll, loA, hiA, elemOf, partsA, buildA, putCells, ↓reduceIte, reduceCtorEq, okCell, Nat.reduceAdd, Nat.reduceEqDiff, Nat.reduceSub, Nat.reduceMul, Nat.reduceLeDiff, Nat.reduceLT, Nat.reduceBEq, PV.scal, PV.scalL, SV.scal, SV.scalL, Ob.scal, PV.isCell, pure', resO]
    exact finA_val (by simp [retA, rvA, List.mapM_cons, List.mapM_nil, Option.pure_def, Option.bind_eq_bind, Option.bind_some, Option.map_some, mkE_cons, mk_nil, mkO_cons, mkO_nil, loadA, ↓reduceIte, List.take_succ_cons, List.take_zero, List.drop_zero, List.drop_succ_cons, List.length_cons, List.length_nil, Nat.reduceAdd, Nat.reduceEqDiff, Nat.reduceLeDiff, Nat.zero_add, Nat.le_refl, reduceCtorEq, SV.tr, SV.trL, nmF, rn_nil, rn_cons1, rn_cons2, List.map_cons, List.map_nil, List.all_cons, List.all_nil, plainOb, SV.refsL, SV.refs, Ob.refs, X, F, List.range_succ, List.range_zero, List.nil_append, List.cons_append, List.isEmpty_nil, decide_true, Nat.reduceLT, Bool.and_self, Bool.and_true, and_self, and_true, List.getElem?_cons_zero, List.getElem?_cons_succ, List.nodup_cons, List.nodup_nil, List.mem_cons, List.not_mem_nil, not_false_eq_true, or_false, List.append_nil, mkO, setO_mk, List.mem_singleton]) (by simp [SV.tr, SV.trL])
theorem sh_i5 {x : List Int} {m : Int} (h : isSh x m = true) : (1 : Int) ≤ x.length ∧ (x.length : Int) ≤ 5 ∧ 0 ≤ m ∧ m ≤ 1 := by
  obtain ⟨h1, h5, hm, _⟩ := sh_out h
  omega
theorem s_s_LessNeed {P : Program} (hm : P.follows .mixedOrders = true) {Γ : Gam} (hΓ : GS P Γ) {n : FuncId} {f_l6Short : FuncId} {f_l6Needs : FuncId} {f_l6Key : FuncId} (is : Is P n (a_s_LessNeed f_l6Short f_l6Needs f_l6Key)) (h_l6Short : Γ f_l6Short = c_isShort) (h_l6Needs : Γ f_l6Needs = c_l6Needs) (h_l6Key : Γ f_l6Key = c_l6Key)  : Says P n c_LessNeed := by
  refine Says.pure fun args r fs h => ?_
  split at h
  case h_2 => cases h
  rename_i x_ m
  split at h
  case isFalse => cases h
  rename_i hc
  obtain ⟨hx_, hc⟩ := hc
  obtain ⟨x, rfl⟩ := isI_out hx_
  simp only [ofI_ints, ofBo_bools, ofAs_asks, Option.some.injEq, Prod.mk.injEq] at h hc
  obtain ⟨rfl, rfl⟩ := h
  cases h1 : isSh x m with
  | false =>
    refine is.go hm hΓ k_s_LessNeed o_s_LessNeed (by simp [a_s_LessNeed]) ?_
    simp only [a_s_LessNeed, h_l6Short, c_isShort, h_l6Needs, c_l6Needs, h_l6Key, c_l6Key, hc, h1, Bool.false_eq_true, List.zipIdx_cons, List.zipIdx_nil, ↓SP, SQ, Gam.add, stepM, callC, argC, lendO, nmBy, nmC, likeL, likeB, plainOb, offs, exL, X, F, trP, trO, stepD, stepW, newA, SV.tr, SV.trL, fz, allP, Ob.tr, loadA, cellsA, SV.cells, binA, binI, eqOut, isSl, isPt, natOf, callee, snap, SV.refsL, SV.refs, thaw, fzAll, loA, hiA, elemOf, partsA, buildA, putCells, ↓reduceIte, reduceCtorEq, okCell, Nat.reduceAdd, Nat.reduceEqDiff, Nat.reduceSub, Nat.reduceMul, Nat.reduceLeDiff, Nat.reduceLT, Nat.reduceBEq, PV.scal, PV.scalL, SV.scal, SV.scalL, Ob.scal, PV.isCell, pure', resO]
    exact finA_val (by simp [retA, rvA, List.mapM_cons, List.mapM_nil, Option.pure_def, Option.bind_eq_bind, Option.bind_some, Option.map_some, mkE_cons, mk_nil, mkO_cons, mkO_nil, loadA, ↓reduceIte, List.take_succ_cons, List.take_zero, List.drop_zero, List.drop_succ_cons, List.length_cons, List.length_nil, Nat.reduceAdd, Nat.reduceEqDiff, Nat.reduceLeDiff, Nat.zero_add, Nat.le_refl, reduceCtorEq, SV.tr, SV.trL, nmF, rn_nil, rn_cons1, rn_cons2, List.map_cons, List.map_nil, List.all_cons, List.all_nil, plainOb, SV.refsL, SV.refs, Ob.refs, X, F, List.range_succ, List.range_zero, List.nil_append, List.cons_append, List.isEmpty_nil, decide_true, Nat.reduceLT, Bool.and_self, Bool.and_true, and_self, and_true, List.getElem?_cons_zero, List.getElem?_cons_succ, List.nodup_cons, List.nodup_nil, List.mem_cons, List.not_mem_nil, not_false_eq_true, or_false, List.append_nil, mkO, setO_mk, List.mem_singleton]) (by simp [SV.tr, SV.trL])
  | true =>
    have hi := sh_i5 h1
    obtain ⟨p0, p1, p2⟩ := tbl_at h1
    refine is.go hm hΓ k_s_LessNeed o_s_LessNeed (by simp [a_s_LessNeed]) ?_
    simp only [a_s_LessNeed, h_l6Short, c_isShort, h_l6Needs, c_l6Needs, h_l6Key, c_l6Key, hc, h1, hi, p0, p1, p2, Int.toNat_natCast, ints_len, isI_ints, ofI_ints, List.zipIdx_cons, List.zipIdx_nil, ↓SP, SQ, Gam.add, stepM, callC, argC, lendO, nmBy, nmC, likeL, likeB, plainOb, offs, exL, X, F, trP, trO, stepD, stepW, newA, SV.tr, SV.trL, fz, allP, Ob.tr, loadA, cellsA, SV.cells, binA, binI, eqOut, isSl, isPt, natOf, callee, snap, SV.refsL, SV.refs, thaw, fzAll, loA, hiA, elemOf, partsA, buildA, putCells, ↓reduceIte, reduceCtorEq, okCell, Nat.reduceAdd, Nat.reduceEqDiff, Nat.reduceSub, Nat.reduceMul, Nat.reduceLeDiff, Nat.reduceLT, Nat.reduceBEq, PV.scal, PV.scalL, SV.scal, SV.scalL, Ob.scal, PV.isCell, pure', resO]
    exact finA_val (by simp [retA, rvA, List.mapM_cons, List.mapM_nil, Option.pure_def, Option.bind_eq_bind, Option.bind_some, Option.map_some, mkE_cons, mk_nil, mkO_cons, mkO_nil, loadA, ↓reduceIte, List.take_succ_cons, List.take_zero, List.drop_zero, List.drop_succ_cons, List.length_cons, List.length_nil, Nat.reduceAdd, Nat.reduceEqDiff, Nat.reduceLeDiff, Nat.zero_add, Nat.le_refl, reduceCtorEq, SV.tr, SV.trL, nmF, rn_nil, rn_cons1, rn_cons2, List.map_cons, List.map_nil, List.all_cons, List.all_nil, plainOb, SV.refsL, SV.refs, Ob.refs, X, F, List.range_succ, List.range_zero, List.nil_append, List.cons_append, List.isEmpty_nil, decide_true, Nat.reduceLT, Bool.and_self, Bool.and_true, and_self, and_true, List.getElem?_cons_zero, List.getElem?_cons_succ, List.nodup_cons, List.nodup_nil, List.mem_cons, List.not_mem_nil, not_false_eq_true, or_false, List.append_nil, mkO, setO_mk, List.mem_singleton]) (by simp [SV.tr, SV.trL])
/-- Whether a state has open numbers to tell apart. -/
def opS (x : List Int) (m : Int) : Bool := isSh x m && !decide ((opens x).length < 2)
def a_BestLess (f_isShort : FuncId) (f_opened : FuncId) (f_newLesser : FuncId) (f_lbest : FuncId) : AFn := ⟨1, 
  .seq (.reg [⟨some 1, none, .w (.box 2 (.t 0))⟩,
    ⟨some 2, none, .d (.mv (.c (.int .i64 0)))⟩,
    ⟨some 3, none, .d (.mv (.c (.bool false)))⟩])
  (.seq (.seq (.reg [⟨some 4, none, .d (.load true 2 (.t 1))⟩,
    ⟨some 5, none, .d (.call (.f f_isShort) [(.t 4)])⟩,
    ⟨some 6, none, .d (.not (.t 5))⟩,
    ⟨some 7, none, .d (.mv (.t 6))⟩,
    ⟨some 8, some (7, false), .d (.load true 2 (.t 1))⟩,
    ⟨some 9, some (7, false), .d (.call (.f f_opened) [(.t 8)])⟩,
    ⟨some 10, some (7, false), .d (.len (.t 9))⟩,
    ⟨some 11, some (7, false), .d (.bin .arith .leq (.t 10) (.c (.int .i64 1)))⟩,
    ⟨some 12, none, .d (.pick (.t 7) (.c (.bool true)) (.t 11))⟩])
  (.cond (.t 12) (.seq (.reg [⟨some 2, none, .d (.mv (.c (.int .i64 0)))⟩,
     ⟨some 3, none, .d (.mv (.c (.bool false)))⟩])
   (.ret)) (.skip)))
  (.seq (.dreg [13] [([], ⟨some 13, none, .w (.callL (.f f_newLesser) [] [] 1 false)⟩),
    ([13], ⟨some 14, none, .d (.load true 2 (.t 1))⟩)] [⟨some 15, none, .w (.callL (.f f_lbest) [(.t 13), (.t 14)] [13] 0 false)⟩,
    ⟨some 2, none, .d (.mv (.t 15))⟩,
    ⟨some 3, none, .d (.mv (.c (.bool true)))⟩])
  (.ret))), [.tmp 2, .tmp 3]⟩
def n_BestLess : Nat → Option Ann := fun d => if d = 13 then some ⟨[], 1, false⟩ else if d = 15 then some ⟨[13], 0, false⟩ else none
abbrev k_BestLess : List Nat := [0, 1, 2, 3, 12]
abbrev o_BestLess : List Nat := [1, 13]
def a_s_BestLess (f_l6Short : FuncId) (f_l6Done : FuncId) (f_l6Needs : FuncId) (f_l6Best : FuncId) : AFn := ⟨1, 
  .seq (.reg [⟨some 1, none, .w (.box 2 (.t 0))⟩,
    ⟨some 2, none, .d (.mv (.c (.int .i64 0)))⟩,
    ⟨some 3, none, .d (.mv (.c (.bool false)))⟩])
  (.seq (.seq (.reg [⟨some 4, none, .d (.load true 2 (.t 1))⟩,
    ⟨some 5, none, .d (.call (.f f_l6Short) [(.t 4)])⟩,
    ⟨some 6, none, .d (.not (.t 5))⟩,
    ⟨some 7, none, .d (.mv (.t 6))⟩,
    ⟨some 8, some (7, false), .d (.load true 2 (.t 1))⟩,
    ⟨some 9, some (7, false), .d (.call (.f f_l6Done) [(.t 8)])⟩,
    ⟨some 10, none, .d (.pick (.t 7) (.c (.bool true)) (.t 9))⟩])
  (.cond (.t 10) (.seq (.reg [⟨some 2, none, .d (.mv (.c (.int .i64 0)))⟩,
     ⟨some 3, none, .d (.mv (.c (.bool false)))⟩])
   (.ret)) (.skip)))
  (.seq (.dreg [] [([], ⟨some 11, none, .d (.load true 2 (.t 1))⟩),
    ([], ⟨some 12, none, .d (.fa 0 (.t 1))⟩),
    ([], ⟨some 13, none, .d (.load false 1 (.t 12))⟩),
    ([], ⟨some 14, none, .d (.len (.t 13))⟩),
    ([], ⟨some 15, none, .d (.fa 1 (.t 1))⟩),
    ([], ⟨some 16, none, .d (.load false 1 (.t 15))⟩),
    ([], ⟨some 17, none, .d (.call (.f f_l6Needs) [(.t 14), (.t 16)])⟩)] [⟨some 18, none, .d (.call (.f f_l6Best) [(.t 11), (.t 17)])⟩,
    ⟨some 2, none, .d (.mv (.t 18))⟩,
    ⟨some 3, none, .d (.mv (.c (.bool true)))⟩])
  (.ret))), [.tmp 2, .tmp 3]⟩
def n_s_BestLess : Nat → Option Ann := fun _ => none
abbrev k_s_BestLess : List Nat := [0, 1, 2, 3, 10]
abbrev o_s_BestLess : List Nat := [1]
def c_BestLess : Con := pure' fun
  | [.p (.agg [.sl 1 x_, .int .i64 m])] => if isI x_ = true ∧ ((ofI x_).length ≤ 1100000) then some (.tp [.p (.int .i64 (if opS (ofI x_) m = true then (kbT m (ofI x_) : Int) else 0)), .p (.bool (opS (ofI x_) m))], []) else none
  | _ => none
theorem s_BestLess {P : Program} (hm : P.follows .mixedOrders = true) {Γ : Gam} (hΓ : GS P Γ) {n : FuncId} {f_isShort : FuncId} {f_opened : FuncId} {f_newLesser : FuncId} {f_lbest : FuncId} (is : Is P n (a_BestLess f_isShort f_opened f_newLesser f_lbest)) (h_isShort : Γ f_isShort = c_isShort) (h_opened : Γ f_opened = c_l2Open) (h_newLesser : Γ f_newLesser = c_newLesser) (h_lbest : Γ f_lbest = c_lbest)  : Says P n c_BestLess := by
  refine Says.pure fun args r fs h => ?_
  split at h
  case h_2 => cases h
  rename_i x_ m
  split at h
  case isFalse => cases h
  rename_i hc
  obtain ⟨hx_, hc⟩ := hc
  obtain ⟨x, rfl⟩ := isI_out hx_
  simp only [ofI_ints, ofBo_bools, ofAs_asks, Option.some.injEq, Prod.mk.injEq] at h hc
  obtain ⟨rfl, rfl⟩ := h
  cases h1 : isSh x m with
  | false =>
    have hp : opS x m = false := by simp only [opS, h1, Bool.false_and]
    refine is.go hm hΓ k_BestLess o_BestLess (by simp [a_BestLess]) ?_
    simp only [a_BestLess, h_isShort, c_isShort, h_opened, c_l2Open, h_newLesser, c_newLesser, h_lbest, c_lbest, hc, h1, hp, Bool.false_eq_true, List.zipIdx_cons, List.zipIdx_nil, ↓SP, SQ, Gam.add, stepM, callC, argC, lendO, nmBy, nmC, likeL, likeB, plainOb, offs, exL, X, F, trP, trO, stepD, stepW, newA, SV.tr, SV.trL, fz, allP, Ob.tr, loadA, cellsA, SV.cells, binA, binI, eqOut, isSl, isPt, natOf, callee, snap, SV.refsL, SV.refs, thaw, fzAll, loA, hiA, elemOf, partsA, buildA, putCells, ↓reduceIte, reduceCtorEq, okCell, Nat.reduceAdd, Nat.reduceEqDiff, Nat.reduceSub, Nat.reduceMul, Nat.reduceLeDiff, Nat.reduceLT, Nat.reduceBEq, PV.scal, PV.scalL, SV.scal, SV.scalL, Ob.scal, PV.isCell, pure', resO]
    exact finA_val (by simp [retA, rvA, List.mapM_cons, List.mapM_nil, Option.pure_def, Option.bind_eq_bind, Option.bind_some, Option.map_some, mkE_cons, mk_nil, mkO_cons, mkO_nil, loadA, ↓reduceIte, List.take_succ_cons, List.take_zero, List.drop_zero, List.drop_succ_cons, List.length_cons, List.length_nil, Nat.reduceAdd, Nat.reduceEqDiff, Nat.reduceLeDiff, Nat.zero_add, Nat.le_refl, reduceCtorEq, SV.tr, SV.trL, nmF, rn_nil, rn_cons1, rn_cons2, List.map_cons, List.map_nil, List.all_cons, List.all_nil, plainOb, SV.refsL, SV.refs, Ob.refs, X, F, List.range_succ, List.range_zero, List.nil_append, List.cons_append, List.isEmpty_nil, decide_true, Nat.reduceLT, Bool.and_self, Bool.and_true, and_self, and_true, List.getElem?_cons_zero, List.getElem?_cons_succ, List.nodup_cons, List.nodup_nil, List.mem_cons, List.not_mem_nil, not_false_eq_true, or_false, List.append_nil, mkO, setO_mk, List.mem_singleton]) (by simp [SV.tr, SV.trL])
  | true =>
    by_cases ho : (opens x).length < 2
    · have hp : opS x m = false := by simp only [opS, h1, dec_t ho]; rfl
      have ho2 : ((opens x).length : Int) ≤ 1 := by omega
      refine is.go hm hΓ k_BestLess o_BestLess (by simp [a_BestLess]) ?_
      simp only [a_BestLess, h_isShort, c_isShort, h_opened, c_l2Open, h_newLesser, c_newLesser, h_lbest, c_lbest, hc, h1, ho2, hp, ints_len, Bool.false_eq_true, List.zipIdx_cons, List.zipIdx_nil, ↓SP, SQ, Gam.add, stepM, callC, argC, lendO, nmBy, nmC, likeL, likeB, plainOb, offs, exL, X, F, trP, trO, stepD, stepW, newA, SV.tr, SV.trL, fz, allP, Ob.tr, loadA, cellsA, SV.cells, binA, binI, eqOut, isSl, isPt, natOf, callee, snap, SV.refsL, SV.refs, thaw, fzAll, loA, hiA, elemOf, partsA, buildA, putCells, ↓reduceIte, reduceCtorEq, okCell, Nat.reduceAdd, Nat.reduceEqDiff, Nat.reduceSub, Nat.reduceMul, Nat.reduceLeDiff, Nat.reduceLT, Nat.reduceBEq, PV.scal, PV.scalL, SV.scal, SV.scalL, Ob.scal, PV.isCell, pure', resO]
      exact finA_val (by simp [retA, rvA, List.mapM_cons, List.mapM_nil, Option.pure_def, Option.bind_eq_bind, Option.bind_some, Option.map_some, mkE_cons, mk_nil, mkO_cons, mkO_nil, loadA, ↓reduceIte, List.take_succ_cons, List.take_zero, List.drop_zero, List.drop_succ_cons, List.length_cons, List.length_nil, Nat.reduceAdd, Nat.reduceEqDiff, Nat.reduceLeDiff, Nat.zero_add, Nat.le_refl, reduceCtorEq, SV.tr, SV.trL, nmF, rn_nil, rn_cons1, rn_cons2, List.map_cons, List.map_nil, List.all_cons, List.all_nil, plainOb, SV.refsL, SV.refs, Ob.refs, X, F, List.range_succ, List.range_zero, List.nil_append, List.cons_append, List.isEmpty_nil, decide_true, Nat.reduceLT, Bool.and_self, Bool.and_true, and_self, and_true, List.getElem?_cons_zero, List.getElem?_cons_succ, List.nodup_cons, List.nodup_nil, List.mem_cons, List.not_mem_nil, not_false_eq_true, or_false, List.append_nil, mkO, setO_mk, List.mem_singleton]) (by simp [SV.tr, SV.trL])
    · have hp : opS x m = true := by simp only [opS, h1, dec_f ho]; rfl
      have ho2 : ¬ ((opens x).length : Int) ≤ 1 := by omega
      have hok := okLM_nil m x.length
      have hi0 : isES [] = true := rfl
      have ho0 : ofES [] = [] := rfl
      refine is.go hm hΓ k_BestLess o_BestLess (by simp [a_BestLess]) ?_
      simp only [a_BestLess, h_isShort, c_isShort, h_opened, c_l2Open, h_newLesser, c_newLesser, h_lbest, c_lbest, hc, h1, ho, ho2, hp, hok, hi0, ho0, ints_len, isI_ints, ofI_ints, not_false_eq_true, List.zipIdx_cons, List.zipIdx_nil, ↓SP, SQ, Gam.add, stepM, callC, argC, lendO, nmBy, nmC, likeL, likeB, plainOb, offs, exL, X, F, trP, trO, stepD, stepW, newA, SV.tr, SV.trL, fz, allP, Ob.tr, loadA, cellsA, SV.cells, binA, binI, eqOut, isSl, isPt, natOf, callee, snap, SV.refsL, SV.refs, thaw, fzAll, loA, hiA, elemOf, partsA, buildA, putCells, ↓reduceIte, reduceCtorEq, okCell, Nat.reduceAdd, Nat.reduceEqDiff, Nat.reduceSub, Nat.reduceMul, Nat.reduceLeDiff, Nat.reduceLT, Nat.reduceBEq, PV.scal, PV.scalL, SV.scal, SV.scalL, Ob.scal, PV.isCell, pure', resO]
      exact finA_val (by simp [retA, rvA, List.mapM_cons, List.mapM_nil, Option.pure_def, Option.bind_eq_bind, Option.bind_some, Option.map_some, mkE_cons, mk_nil, mkO_cons, mkO_nil, loadA, ↓reduceIte, List.take_succ_cons, List.take_zero, List.drop_zero, List.drop_succ_cons, List.length_cons, List.length_nil, Nat.reduceAdd, Nat.reduceEqDiff, Nat.reduceLeDiff, Nat.zero_add, Nat.le_refl, reduceCtorEq, SV.tr, SV.trL, nmF, rn_nil, rn_cons1, rn_cons2, List.map_cons, List.map_nil, List.all_cons, List.all_nil, plainOb, SV.refsL, SV.refs, Ob.refs, X, F, List.range_succ, List.range_zero, List.nil_append, List.cons_append, List.isEmpty_nil, decide_true, Nat.reduceLT, Bool.and_self, Bool.and_true, and_self, and_true, List.getElem?_cons_zero, List.getElem?_cons_succ, List.nodup_cons, List.nodup_nil, List.mem_cons, List.not_mem_nil, not_false_eq_true, or_false, List.append_nil, mkO, setO_mk, List.mem_singleton]) (by simp [SV.tr, SV.trL])
theorem s_s_BestLess {P : Program} (hm : P.follows .mixedOrders = true) {Γ : Gam} (hΓ : GS P Γ) {n : FuncId} {f_l6Short : FuncId} {f_l6Done : FuncId} {f_l6Needs : FuncId} {f_l6Best : FuncId} (is : Is P n (a_s_BestLess f_l6Short f_l6Done f_l6Needs f_l6Best)) (h_l6Short : Γ f_l6Short = c_isShort) (h_l6Done : Γ f_l6Done = c_l6Done) (h_l6Needs : Γ f_l6Needs = c_l6Needs) (h_l6Best : Γ f_l6Best = c_l6Best)  : Says P n c_BestLess := by
  refine Says.pure fun args r fs h => ?_
  split at h
  case h_2 => cases h
  rename_i x_ m
  split at h
  case isFalse => cases h
  rename_i hc
  obtain ⟨hx_, hc⟩ := hc
  obtain ⟨x, rfl⟩ := isI_out hx_
  simp only [ofI_ints, ofBo_bools, ofAs_asks, Option.some.injEq, Prod.mk.injEq] at h hc
  obtain ⟨rfl, rfl⟩ := h
  cases h1 : isSh x m with
  | false =>
    have hp : opS x m = false := by simp only [opS, h1, Bool.false_and]
    refine is.go hm hΓ k_s_BestLess o_s_BestLess (by simp [a_s_BestLess]) ?_
    simp only [a_s_BestLess, h_l6Short, c_isShort, h_l6Done, c_l6Done, h_l6Needs, c_l6Needs, h_l6Best, c_l6Best, hc, h1, hp, Bool.false_eq_true, List.zipIdx_cons, List.zipIdx_nil, ↓SP, SQ, Gam.add, stepM, callC, argC, lendO, nmBy, nmC, likeL, likeB, plainOb, offs, exL, X, F, trP, trO, stepD, stepW, newA, SV.tr, SV.trL, fz, allP, Ob.tr, loadA, cellsA, SV.cells, binA, binI, eqOut, isSl, isPt, natOf, callee, snap, SV.refsL, SV.refs, thaw, fzAll, loA, hiA, elemOf, partsA, buildA, putCells, ↓reduceIte, reduceCtorEq, okCell, Nat.reduceAdd, Nat.reduceEqDiff, Nat.reduceSub, Nat.reduceMul, Nat.reduceLeDiff, Nat.reduceLT, Nat.reduceBEq, PV.scal, PV.scalL, SV.scal, SV.scalL, Ob.scal, PV.isCell, pure', resO]
    exact finA_val (by simp [retA, rvA, List.mapM_cons, List.mapM_nil, Option.pure_def, Option.bind_eq_bind, Option.bind_some, Option.map_some, mkE_cons, mk_nil, mkO_cons, mkO_nil, loadA, ↓reduceIte, List.take_succ_cons, List.take_zero, List.drop_zero, List.drop_succ_cons, List.length_cons, List.length_nil, Nat.reduceAdd, Nat.reduceEqDiff, Nat.reduceLeDiff, Nat.zero_add, Nat.le_refl, reduceCtorEq, SV.tr, SV.trL, nmF, rn_nil, rn_cons1, rn_cons2, List.map_cons, List.map_nil, List.all_cons, List.all_nil, plainOb, SV.refsL, SV.refs, Ob.refs, X, F, List.range_succ, List.range_zero, List.nil_append, List.cons_append, List.isEmpty_nil, decide_true, Nat.reduceLT, Bool.and_self, Bool.and_true, and_self, and_true, List.getElem?_cons_zero, List.getElem?_cons_succ, List.nodup_cons, List.nodup_nil, List.mem_cons, List.not_mem_nil, not_false_eq_true, or_false, List.append_nil, mkO, setO_mk, List.mem_singleton]) (by simp [SV.tr, SV.trL])
  | true =>
    have hi := sh_i5 h1
    by_cases ho : (opens x).length < 2
    · have hp : opS x m = false := by simp only [opS, h1, dec_t ho]; rfl
      have ho2 : ((opens x).length : Int) < 2 := by omega
      refine is.go hm hΓ k_s_BestLess o_s_BestLess (by simp [a_s_BestLess]) ?_
      simp only [a_s_BestLess, h_l6Short, c_isShort, h_l6Done, c_l6Done, h_l6Needs, c_l6Needs, h_l6Best, c_l6Best, hc, h1, ho2, hp, ints_len, Bool.false_eq_true, List.zipIdx_cons, List.zipIdx_nil, ↓SP, SQ, Gam.add, stepM, callC, argC, lendO, nmBy, nmC, likeL, likeB, plainOb, offs, exL, X, F, trP, trO, stepD, stepW, newA, SV.tr, SV.trL, fz, allP, Ob.tr, loadA, cellsA, SV.cells, binA, binI, eqOut, isSl, isPt, natOf, callee, snap, SV.refsL, SV.refs, thaw, fzAll, loA, hiA, elemOf, partsA, buildA, putCells, ↓reduceIte, reduceCtorEq, okCell, Nat.reduceAdd, Nat.reduceEqDiff, Nat.reduceSub, Nat.reduceMul, Nat.reduceLeDiff, Nat.reduceLT, Nat.reduceBEq, PV.scal, PV.scalL, SV.scal, SV.scalL, Ob.scal, PV.isCell, pure', resO]
      exact finA_val (by simp [retA, rvA, List.mapM_cons, List.mapM_nil, Option.pure_def, Option.bind_eq_bind, Option.bind_some, Option.map_some, mkE_cons, mk_nil, mkO_cons, mkO_nil, loadA, ↓reduceIte, List.take_succ_cons, List.take_zero, List.drop_zero, List.drop_succ_cons, List.length_cons, List.length_nil, Nat.reduceAdd, Nat.reduceEqDiff, Nat.reduceLeDiff, Nat.zero_add, Nat.le_refl, reduceCtorEq, SV.tr, SV.trL, nmF, rn_nil, rn_cons1, rn_cons2, List.map_cons, List.map_nil, List.all_cons, List.all_nil, plainOb, SV.refsL, SV.refs, Ob.refs, X, F, List.range_succ, List.range_zero, List.nil_append, List.cons_append, List.isEmpty_nil, decide_true, Nat.reduceLT, Bool.and_self, Bool.and_true, and_self, and_true, List.getElem?_cons_zero, List.getElem?_cons_succ, List.nodup_cons, List.nodup_nil, List.mem_cons, List.not_mem_nil, not_false_eq_true, or_false, List.append_nil, mkO, setO_mk, List.mem_singleton]) (by simp [SV.tr, SV.trL])
    · have hp : opS x m = true := by simp only [opS, h1, dec_f ho]; rfl
      have ho2 : ¬ ((opens x).length : Int) < 2 := by omega
      refine is.go hm hΓ k_s_BestLess o_s_BestLess (by simp [a_s_BestLess]) ?_
      simp only [a_s_BestLess, h_l6Short, c_isShort, h_l6Done, c_l6Done, h_l6Needs, c_l6Needs, h_l6Best, c_l6Best, hc, h1, hi, ho, ho2, hp, Int.toNat_natCast, ints_len, isI_ints, ofI_ints, not_false_eq_true, List.zipIdx_cons, List.zipIdx_nil, ↓SP, SQ, Gam.add, stepM, callC, argC, lendO, nmBy, nmC, likeL, likeB, plainOb, offs, exL, X, F, trP, trO, stepD, stepW, newA, SV.tr, SV.trL, fz, allP, Ob.tr, loadA, cellsA, SV.cells, binA, binI, eqOut, isSl, isPt, natOf, callee, snap, SV.refsL, SV.refs, thaw, fzAll, loA, hiA, elemOf, partsA, buildA, putCells, ↓reduceIte, reduceCtorEq, okCell, Nat.reduceAdd, Nat.reduceEqDiff, Nat.reduceSub, Nat.reduceMul, Nat.reduceLeDiff, Nat.reduceLT, Nat.reduceBEq, PV.scal, PV.scalL, SV.scal, SV.scalL, Ob.scal, PV.isCell, pure', resO]
      exact finA_val (by simp [retA, rvA, List.mapM_cons, List.mapM_nil, Option.pure_def, Option.bind_eq_bind, Option.bind_some, Option.map_some, mkE_cons, mk_nil, mkO_cons, mkO_nil, loadA, ↓reduceIte, List.take_succ_cons, List.take_zero, List.drop_zero, List.drop_succ_cons, List.length_cons, List.length_nil, Nat.reduceAdd, Nat.reduceEqDiff, Nat.reduceLeDiff, Nat.zero_add, Nat.le_refl, reduceCtorEq, SV.tr, SV.trL, nmF, rn_nil, rn_cons1, rn_cons2, List.map_cons, List.map_nil, List.all_cons, List.all_nil, plainOb, SV.refsL, SV.refs, Ob.refs, X, F, List.range_succ, List.range_zero, List.nil_append, List.cons_append, List.isEmpty_nil, decide_true, Nat.reduceLT, Bool.and_self, Bool.and_true, and_self, and_true, List.getElem?_cons_zero, List.getElem?_cons_succ, List.nodup_cons, List.nodup_nil, List.mem_cons, List.not_mem_nil, not_false_eq_true, or_false, List.append_nil, mkO, setO_mk, List.mem_singleton]) (by simp [SV.tr, SV.trL])
/-- Whether a comparison may be asked for. -/
def noK (x : List Int) (m k : Int) : Bool := opS x m && isLs x.length k && vldT m x k.toNat
theorem ls_out {n : Nat} {k : Int} (h : isLs n k = true) : 1 ≤ k ∧ k < n := by
  simp only [isLs, Bool.and_eq_true, decide_eq_true_eq] at h
  omega
def a_NeedOfLess (f_isShort : FuncId) (f_isLess : FuncId) (f_opened : FuncId) (f_newLesser : FuncId) (f_lof : FuncId) : AFn := ⟨2, 
  .seq (.reg [⟨some 2, none, .w (.box 2 (.t 0))⟩,
    ⟨some 4, none, .d (.mv (.c (.int .i64 0)))⟩,
    ⟨some 5, none, .d (.mv (.c (.bool false)))⟩])
  (.seq (.seq (.reg [⟨some 6, none, .d (.load true 2 (.t 2))⟩,
    ⟨some 7, none, .d (.call (.f f_isShort) [(.t 6)])⟩,
    ⟨some 8, none, .d (.not (.t 7))⟩,
    ⟨some 9, none, .d (.mv (.t 8))⟩,
    ⟨some 10, some (9, false), .d (.fa 0 (.t 2))⟩,
    ⟨some 11, some (9, false), .d (.load false 1 (.t 10))⟩,
    ⟨some 12, some (9, false), .d (.len (.t 11))⟩,
    ⟨some 13, some (9, false), .d (.mv (.t 1))⟩,
    ⟨some 14, some (9, false), .d (.call (.f f_isLess) [(.t 12), (.t 13)])⟩,
    ⟨some 15, some (9, false), .d (.not (.t 14))⟩,
    ⟨some 16, none, .d (.pick (.t 9) (.c (.bool true)) (.t 15))⟩,
    ⟨some 17, none, .d (.mv (.t 16))⟩,
    ⟨some 18, some (17, false), .d (.load true 2 (.t 2))⟩,
    ⟨some 19, some (17, false), .d (.call (.f f_opened) [(.t 18)])⟩,
    ⟨some 20, some (17, false), .d (.len (.t 19))⟩,
    ⟨some 21, some (17, false), .d (.bin .arith .leq (.t 20) (.c (.int .i64 1)))⟩,
    ⟨some 22, none, .d (.pick (.t 17) (.c (.bool true)) (.t 21))⟩])
  (.cond (.t 22) (.seq (.reg [⟨some 4, none, .d (.mv (.c (.int .i64 0)))⟩,
     ⟨some 5, none, .d (.mv (.c (.bool false)))⟩])
   (.ret)) (.skip)))
  (.seq (.dreg [23] [([], ⟨some 23, none, .w (.callL (.f f_newLesser) [] [] 1 false)⟩),
    ([23], ⟨some 24, none, .d (.load true 2 (.t 2))⟩),
    ([23], ⟨some 25, none, .d (.mv (.t 1))⟩),
    ([], ⟨some 26, none, .w (.callL (.f f_lof) [(.t 23), (.t 24), (.t 25)] [23] 0 false)⟩),
    ([], ⟨some 27, none, .d (.extract (.t 26) 0)⟩),
    ([], ⟨some 28, none, .d (.extract (.t 26) 1)⟩)] [⟨some 4, none, .d (.mv (.t 27))⟩,
    ⟨some 5, none, .d (.mv (.t 28))⟩])
  (.ret))), [.tmp 4, .tmp 5]⟩
def n_NeedOfLess : Nat → Option Ann := fun d => if d = 23 then some ⟨[], 1, false⟩ else if d = 26 then some ⟨[23], 0, false⟩ else none
abbrev k_NeedOfLess : List Nat := [0, 1, 2, 4, 5, 22]
abbrev o_NeedOfLess : List Nat := [2, 23]
def a_s_NeedOfLess (f_l6Short : FuncId) (f_l6Done : FuncId) (f_l6Compare : FuncId) (f_l6Needs : FuncId) (f_l6NeedOf : FuncId) (f_l1Most : FuncId) : AFn := ⟨2, 
  .seq (.reg [⟨some 2, none, .w (.box 2 (.t 0))⟩,
    ⟨some 4, none, .d (.mv (.c (.int .i64 0)))⟩,
    ⟨some 5, none, .d (.mv (.c (.bool false)))⟩])
  (.seq (.seq (.reg [⟨some 7, none, .d (.load true 2 (.t 2))⟩,
    ⟨some 8, none, .d (.call (.f f_l6Short) [(.t 7)])⟩,
    ⟨some 9, none, .d (.not (.t 8))⟩,
    ⟨some 10, none, .d (.mv (.t 9))⟩,
    ⟨some 11, some (10, false), .d (.load true 2 (.t 2))⟩,
    ⟨some 12, some (10, false), .d (.call (.f f_l6Done) [(.t 11)])⟩,
    ⟨some 13, none, .d (.pick (.t 10) (.c (.bool true)) (.t 12))⟩,
    ⟨some 14, none, .d (.mv (.t 13))⟩,
    ⟨some 15, some (14, false), .d (.fa 0 (.t 2))⟩,
    ⟨some 16, some (14, false), .d (.load false 1 (.t 15))⟩,
    ⟨some 17, some (14, false), .d (.len (.t 16))⟩,
    ⟨some 18, some (14, false), .d (.mv (.t 1))⟩,
    ⟨some 19, some (14, false), .d (.call (.f f_l6Compare) [(.t 17), (.t 18)])⟩,
    ⟨some 20, some (14, false), .d (.not (.t 19))⟩,
    ⟨some 21, none, .d (.pick (.t 14) (.c (.bool true)) (.t 20))⟩])
  (.cond (.t 21) (.seq (.reg [⟨some 4, none, .d (.mv (.c (.int .i64 0)))⟩,
     ⟨some 5, none, .d (.mv (.c (.bool false)))⟩])
   (.ret)) (.skip)))
  (.seq (.dreg [] [([], ⟨some 22, none, .d (.load true 2 (.t 2))⟩),
    ([], ⟨some 23, none, .d (.mv (.t 1))⟩),
    ([], ⟨some 24, none, .d (.fa 0 (.t 2))⟩),
    ([], ⟨some 25, none, .d (.load false 1 (.t 24))⟩),
    ([], ⟨some 26, none, .d (.len (.t 25))⟩),
    ([], ⟨some 27, none, .d (.fa 1 (.t 2))⟩),
    ([], ⟨some 28, none, .d (.load false 1 (.t 27))⟩),
    ([], ⟨some 29, none, .d (.call (.f f_l6Needs) [(.t 26), (.t 28)])⟩)] [⟨some 30, none, .d (.call (.f f_l6NeedOf) [(.t 22), (.t 23), (.t 29)])⟩,
    ⟨some 6, none, .d (.mv (.t 30))⟩])
  (.seq (.reg [⟨some 31, none, .d (.mv (.t 6))⟩,
    ⟨some 32, none, .d (.call (.f f_l1Most) [(.t 31), (.c (.int .i64 0))])⟩,
    ⟨some 33, none, .d (.mv (.t 6))⟩,
    ⟨some 34, none, .d (.bin .arith .geq (.t 33) (.c (.int .i64 0)))⟩,
    ⟨some 4, none, .d (.mv (.t 32))⟩,
    ⟨some 5, none, .d (.mv (.t 34))⟩])
  (.ret)))), [.tmp 4, .tmp 5]⟩
def n_s_NeedOfLess : Nat → Option Ann := fun _ => none
abbrev k_s_NeedOfLess : List Nat := [0, 1, 2, 4, 5, 6, 21]
abbrev o_s_NeedOfLess : List Nat := [2]
def c_NeedOfLess : Con := pure' fun
  | [.p (.agg [.sl 1 x_, .int .i64 m]), .p (.int .i64 k)] => if isI x_ = true ∧ ((ofI x_).length ≤ 1100000) then some (.tp [.p (.int .i64 (if noK (ofI x_) m k = true then oneT m (ofI x_) k.toNat else 0)), .p (.bool (noK (ofI x_) m k))], []) else none
  | _ => none
theorem s_NeedOfLess {P : Program} (hm : P.follows .mixedOrders = true) {Γ : Gam} (hΓ : GS P Γ) {n : FuncId} {f_isShort : FuncId} {f_isLess : FuncId} {f_opened : FuncId} {f_newLesser : FuncId} {f_lof : FuncId} (is : Is P n (a_NeedOfLess f_isShort f_isLess f_opened f_newLesser f_lof)) (h_isShort : Γ f_isShort = c_isShort) (h_isLess : Γ f_isLess = c_isLess) (h_opened : Γ f_opened = c_l2Open) (h_newLesser : Γ f_newLesser = c_newLesser) (h_lof : Γ f_lof = c_lof)  : Says P n c_NeedOfLess := by
  refine Says.pure fun args r fs h => ?_
  split at h
  case h_2 => cases h
  rename_i x_ m k
  split at h
  case isFalse => cases h
  rename_i hc
  obtain ⟨hx_, hc⟩ := hc
  obtain ⟨x, rfl⟩ := isI_out hx_
  simp only [ofI_ints, ofBo_bools, ofAs_asks, Option.some.injEq, Prod.mk.injEq] at h hc
  obtain ⟨rfl, rfl⟩ := h
  have hl0 : (0 : Int) ≤ x.length ∧ (x.length : Int) ≤ 1100000 := by omega
  cases h1 : isSh x m with
  | false =>
    have hp : noK x m k = false := by simp only [noK, opS, h1, Bool.false_and]
    refine is.go hm hΓ k_NeedOfLess o_NeedOfLess (by simp [a_NeedOfLess]) ?_
    simp only [a_NeedOfLess, h_isShort, c_isShort, h_isLess, c_isLess, h_opened, c_l2Open, h_newLesser, c_newLesser, h_lof, c_lof, hc, h1, hp, Bool.false_eq_true, List.zipIdx_cons, List.zipIdx_nil, ↓SP, SQ, Gam.add, stepM, callC, argC, lendO, nmBy, nmC, likeL, likeB, plainOb, offs, exL, X, F, trP, trO, stepD, stepW, newA, SV.tr, SV.trL, fz, allP, Ob.tr, loadA, cellsA, SV.cells, binA, binI, eqOut, isSl, isPt, natOf, callee, snap, SV.refsL, SV.refs, thaw, fzAll, loA, hiA, elemOf, partsA, buildA, putCells, ↓reduceIte, reduceCtorEq, okCell, Nat.reduceAdd, Nat.reduceEqDiff, Nat.reduceSub, Nat.reduceMul, Nat.reduceLeDiff, Nat.reduceLT, Nat.reduceBEq, PV.scal, PV.scalL, SV.scal, SV.scalL, Ob.scal, PV.isCell, pure', resO]
    exact finA_val (by simp [retA, rvA, List.mapM_cons, List.mapM_nil, Option.pure_def, Option.bind_eq_bind, Option.bind_some, Option.map_some, mkE_cons, mk_nil, mkO_cons, mkO_nil, loadA, ↓reduceIte, List.take_succ_cons, List.take_zero, List.drop_zero, List.drop_succ_cons, List.length_cons, List.length_nil, Nat.reduceAdd, Nat.reduceEqDiff, Nat.reduceLeDiff, Nat.zero_add, Nat.le_refl, reduceCtorEq, SV.tr, SV.trL, nmF, rn_nil, rn_cons1, rn_cons2, List.map_cons, List.map_nil, List.all_cons, List.all_nil, plainOb, SV.refsL, SV.refs, Ob.refs, X, F, List.range_succ, List.range_zero, List.nil_append, List.cons_append, List.isEmpty_nil, decide_true, Nat.reduceLT, Bool.and_self, Bool.and_true, and_self, and_true, List.getElem?_cons_zero, List.getElem?_cons_succ, List.nodup_cons, List.nodup_nil, List.mem_cons, List.not_mem_nil, not_false_eq_true, or_false, List.append_nil, mkO, setO_mk, List.mem_singleton]) (by simp [SV.tr, SV.trL])
  | true =>
    cases h2 : isLs x.length k with
    | false =>
      have hp : noK x m k = false := by simp only [noK, h2, Bool.and_false, Bool.false_and]
      refine is.go hm hΓ k_NeedOfLess o_NeedOfLess (by simp [a_NeedOfLess]) ?_
      simp only [a_NeedOfLess, h_isShort, c_isShort, h_isLess, c_isLess, h_opened, c_l2Open, h_newLesser, c_newLesser, h_lof, c_lof, hc, h1, h2, hl0, hp, ints_len, Bool.false_eq_true, List.zipIdx_cons, List.zipIdx_nil, ↓SP, SQ, Gam.add, stepM, callC, argC, lendO, nmBy, nmC, likeL, likeB, plainOb, offs, exL, X, F, trP, trO, stepD, stepW, newA, SV.tr, SV.trL, fz, allP, Ob.tr, loadA, cellsA, SV.cells, binA, binI, eqOut, isSl, isPt, natOf, callee, snap, SV.refsL, SV.refs, thaw, fzAll, loA, hiA, elemOf, partsA, buildA, putCells, ↓reduceIte, reduceCtorEq, okCell, Nat.reduceAdd, Nat.reduceEqDiff, Nat.reduceSub, Nat.reduceMul, Nat.reduceLeDiff, Nat.reduceLT, Nat.reduceBEq, PV.scal, PV.scalL, SV.scal, SV.scalL, Ob.scal, PV.isCell, pure', resO]
      exact finA_val (by simp [retA, rvA, List.mapM_cons, List.mapM_nil, Option.pure_def, Option.bind_eq_bind, Option.bind_some, Option.map_some, mkE_cons, mk_nil, mkO_cons, mkO_nil, loadA, ↓reduceIte, List.take_succ_cons, List.take_zero, List.drop_zero, List.drop_succ_cons, List.length_cons, List.length_nil, Nat.reduceAdd, Nat.reduceEqDiff, Nat.reduceLeDiff, Nat.zero_add, Nat.le_refl, reduceCtorEq, SV.tr, SV.trL, nmF, rn_nil, rn_cons1, rn_cons2, List.map_cons, List.map_nil, List.all_cons, List.all_nil, plainOb, SV.refsL, SV.refs, Ob.refs, X, F, List.range_succ, List.range_zero, List.nil_append, List.cons_append, List.isEmpty_nil, decide_true, Nat.reduceLT, Bool.and_self, Bool.and_true, and_self, and_true, List.getElem?_cons_zero, List.getElem?_cons_succ, List.nodup_cons, List.nodup_nil, List.mem_cons, List.not_mem_nil, not_false_eq_true, or_false, List.append_nil, mkO, setO_mk, List.mem_singleton]) (by simp [SV.tr, SV.trL])
    | true =>
      by_cases ho : (opens x).length < 2
      · have hp : noK x m k = false := by simp only [noK, opS, h1, dec_t ho]; rfl
        have ho2 : ((opens x).length : Int) ≤ 1 := by omega
        refine is.go hm hΓ k_NeedOfLess o_NeedOfLess (by simp [a_NeedOfLess]) ?_
        simp only [a_NeedOfLess, h_isShort, c_isShort, h_isLess, c_isLess, h_opened, c_l2Open, h_newLesser, c_newLesser, h_lof, c_lof, hc, h1, h2, hl0, ho2, hp, ints_len, Bool.false_eq_true, List.zipIdx_cons, List.zipIdx_nil, ↓SP, SQ, Gam.add, stepM, callC, argC, lendO, nmBy, nmC, likeL, likeB, plainOb, offs, exL, X, F, trP, trO, stepD, stepW, newA, SV.tr, SV.trL, fz, allP, Ob.tr, loadA, cellsA, SV.cells, binA, binI, eqOut, isSl, isPt, natOf, callee, snap, SV.refsL, SV.refs, thaw, fzAll, loA, hiA, elemOf, partsA, buildA, putCells, ↓reduceIte, reduceCtorEq, okCell, Nat.reduceAdd, Nat.reduceEqDiff, Nat.reduceSub, Nat.reduceMul, Nat.reduceLeDiff, Nat.reduceLT, Nat.reduceBEq, PV.scal, PV.scalL, SV.scal, SV.scalL, Ob.scal, PV.isCell, pure', resO]
        exact finA_val (by simp [retA, rvA, List.mapM_cons, List.mapM_nil, Option.pure_def, Option.bind_eq_bind, Option.bind_some, Option.map_some, mkE_cons, mk_nil, mkO_cons, mkO_nil, loadA, ↓reduceIte, List.take_succ_cons, List.take_zero, List.drop_zero, List.drop_succ_cons, List.length_cons, List.length_nil, Nat.reduceAdd, Nat.reduceEqDiff, Nat.reduceLeDiff, Nat.zero_add, Nat.le_refl, reduceCtorEq, SV.tr, SV.trL, nmF, rn_nil, rn_cons1, rn_cons2, List.map_cons, List.map_nil, List.all_cons, List.all_nil, plainOb, SV.refsL, SV.refs, Ob.refs, X, F, List.range_succ, List.range_zero, List.nil_append, List.cons_append, List.isEmpty_nil, decide_true, Nat.reduceLT, Bool.and_self, Bool.and_true, and_self, and_true, List.getElem?_cons_zero, List.getElem?_cons_succ, List.nodup_cons, List.nodup_nil, List.mem_cons, List.not_mem_nil, not_false_eq_true, or_false, List.append_nil, mkO, setO_mk, List.mem_singleton]) (by simp [SV.tr, SV.trL])
      · have ho2 : ¬ ((opens x).length : Int) ≤ 1 := by omega
        obtain ⟨k1, k2⟩ := ls_out h2
        have hok := okLM_nil m x.length
        have hi0 : isES [] = true := rfl
        have ho0 : ofES [] = [] := rfl
        have hp : noK x m k = vldT m x k.toNat := by simp only [noK, opS, h1, h2, dec_f ho]; rfl
        refine is.go hm hΓ k_NeedOfLess o_NeedOfLess (by simp [a_NeedOfLess]) ?_
        simp only [a_NeedOfLess, h_isShort, c_isShort, h_isLess, c_isLess, h_opened, c_l2Open, h_newLesser, c_newLesser, h_lof, c_lof, hc, h1, h2, hl0, ho2, k1, k2, hok, hi0, ho0, ints_len, isI_ints, ofI_ints, List.zipIdx_cons, List.zipIdx_nil, ↓SP, SQ, Gam.add, stepM, callC, argC, lendO, nmBy, nmC, likeL, likeB, plainOb, offs, exL, X, F, trP, trO, stepD, stepW, newA, SV.tr, SV.trL, fz, allP, Ob.tr, loadA, cellsA, SV.cells, binA, binI, eqOut, isSl, isPt, natOf, callee, snap, SV.refsL, SV.refs, thaw, fzAll, loA, hiA, elemOf, partsA, buildA, putCells, ↓reduceIte, reduceCtorEq, okCell, Nat.reduceAdd, Nat.reduceEqDiff, Nat.reduceSub, Nat.reduceMul, Nat.reduceLeDiff, Nat.reduceLT, Nat.reduceBEq, PV.scal, PV.scalL, SV.scal, SV.scalL, Ob.scal, PV.isCell, pure', resO]
        exact finA_val (by simp [hp, retA, rvA, List.mapM_cons, List.mapM_nil, Option.pure_def, Option.bind_eq_bind, Option.bind_some, Option.map_some, mkE_cons, mk_nil, mkO_cons, mkO_nil, loadA, ↓reduceIte, List.take_succ_cons, List.take_zero, List.drop_zero, List.drop_succ_cons, List.length_cons, List.length_nil, Nat.reduceAdd, Nat.reduceEqDiff, Nat.reduceLeDiff, Nat.zero_add, Nat.le_refl, reduceCtorEq, SV.tr, SV.trL, nmF, rn_nil, rn_cons1, rn_cons2, List.map_cons, List.map_nil, List.all_cons, List.all_nil, plainOb, SV.refsL, SV.refs, Ob.refs, X, F, List.range_succ, List.range_zero, List.nil_append, List.cons_append, List.isEmpty_nil, decide_true, Nat.reduceLT, Bool.and_self, Bool.and_true, and_self, and_true, List.getElem?_cons_zero, List.getElem?_cons_succ, List.nodup_cons, List.nodup_nil, List.mem_cons, List.not_mem_nil, not_false_eq_true, or_false, List.append_nil, mkO, setO_mk, List.mem_singleton]) (by simp [SV.tr, SV.trL])
theorem s_s_NeedOfLess {P : Program} (hm : P.follows .mixedOrders = true) {Γ : Gam} (hΓ : GS P Γ) {n : FuncId} {f_l6Short : FuncId} {f_l6Done : FuncId} {f_l6Compare : FuncId} {f_l6Needs : FuncId} {f_l6NeedOf : FuncId} {f_l1Most : FuncId} (is : Is P n (a_s_NeedOfLess f_l6Short f_l6Done f_l6Compare f_l6Needs f_l6NeedOf f_l1Most)) (h_l6Short : Γ f_l6Short = c_isShort) (h_l6Done : Γ f_l6Done = c_l6Done) (h_l6Compare : Γ f_l6Compare = c_isLess) (h_l6Needs : Γ f_l6Needs = c_l6Needs) (h_l6NeedOf : Γ f_l6NeedOf = c_l6NeedOf) (h_l1Most : Γ f_l1Most = c_l1Most)  : Says P n c_NeedOfLess := by
  refine Says.pure fun args r fs h => ?_
  split at h
  case h_2 => cases h
  rename_i x_ m k
  split at h
  case isFalse => cases h
  rename_i hc
  obtain ⟨hx_, hc⟩ := hc
  obtain ⟨x, rfl⟩ := isI_out hx_
  simp only [ofI_ints, ofBo_bools, ofAs_asks, Option.some.injEq, Prod.mk.injEq] at h hc
  obtain ⟨rfl, rfl⟩ := h
  have hl0 : (0 : Int) ≤ x.length ∧ (x.length : Int) ≤ 1100000 := by omega
  cases h1 : isSh x m with
  | false =>
    have hp : noK x m k = false := by simp only [noK, opS, h1, Bool.false_and]
    refine is.go hm hΓ k_s_NeedOfLess o_s_NeedOfLess (by simp [a_s_NeedOfLess]) ?_
    simp only [a_s_NeedOfLess, h_l6Short, c_isShort, h_l6Done, c_l6Done, h_l6Compare, c_isLess, h_l6Needs, c_l6Needs, h_l6NeedOf, c_l6NeedOf, h_l1Most, c_l1Most, hc, h1, hp, Bool.false_eq_true, List.zipIdx_cons, List.zipIdx_nil, ↓SP, SQ, Gam.add, stepM, callC, argC, lendO, nmBy, nmC, likeL, likeB, plainOb, offs, exL, X, F, trP, trO, stepD, stepW, newA, SV.tr, SV.trL, fz, allP, Ob.tr, loadA, cellsA, SV.cells, binA, binI, eqOut, isSl, isPt, natOf, callee, snap, SV.refsL, SV.refs, thaw, fzAll, loA, hiA, elemOf, partsA, buildA, putCells, ↓reduceIte, reduceCtorEq, okCell, Nat.reduceAdd, Nat.reduceEqDiff, Nat.reduceSub, Nat.reduceMul, Nat.reduceLeDiff, Nat.reduceLT, Nat.reduceBEq, PV.scal, PV.scalL, SV.scal, SV.scalL, Ob.scal, PV.isCell, pure', resO]
    exact finA_val (by simp [retA, rvA, List.mapM_cons, List.mapM_nil, Option.pure_def, Option.bind_eq_bind, Option.bind_some, Option.map_some, mkE_cons, mk_nil, mkO_cons, mkO_nil, loadA, ↓reduceIte, List.take_succ_cons, List.take_zero, List.drop_zero, List.drop_succ_cons, List.length_cons, List.length_nil, Nat.reduceAdd, Nat.reduceEqDiff, Nat.reduceLeDiff, Nat.zero_add, Nat.le_refl, reduceCtorEq, SV.tr, SV.trL, nmF, rn_nil, rn_cons1, rn_cons2, List.map_cons, List.map_nil, List.all_cons, List.all_nil, plainOb, SV.refsL, SV.refs, Ob.refs, X, F, List.range_succ, List.range_zero, List.nil_append, List.cons_append, List.isEmpty_nil, decide_true, Nat.reduceLT, Bool.and_self, Bool.and_true, and_self, and_true, List.getElem?_cons_zero, List.getElem?_cons_succ, List.nodup_cons, List.nodup_nil, List.mem_cons, List.not_mem_nil, not_false_eq_true, or_false, List.append_nil, mkO, setO_mk, List.mem_singleton]) (by simp [SV.tr, SV.trL])
  | true =>
    have hi := sh_i5 h1
    by_cases ho : (opens x).length < 2
    · have hp : noK x m k = false := by simp only [noK, opS, h1, dec_t ho]; rfl
      have ho2 : ((opens x).length : Int) < 2 := by omega
      refine is.go hm hΓ k_s_NeedOfLess o_s_NeedOfLess (by simp [a_s_NeedOfLess]) ?_
      simp only [a_s_NeedOfLess, h_l6Short, c_isShort, h_l6Done, c_l6Done, h_l6Compare, c_isLess, h_l6Needs, c_l6Needs, h_l6NeedOf, c_l6NeedOf, h_l1Most, c_l1Most, hc, h1, hl0, ho2, hp, ints_len, Bool.false_eq_true, List.zipIdx_cons, List.zipIdx_nil, ↓SP, SQ, Gam.add, stepM, callC, argC, lendO, nmBy, nmC, likeL, likeB, plainOb, offs, exL, X, F, trP, trO, stepD, stepW, newA, SV.tr, SV.trL, fz, allP, Ob.tr, loadA, cellsA, SV.cells, binA, binI, eqOut, isSl, isPt, natOf, callee, snap, SV.refsL, SV.refs, thaw, fzAll, loA, hiA, elemOf, partsA, buildA, putCells, ↓reduceIte, reduceCtorEq, okCell, Nat.reduceAdd, Nat.reduceEqDiff, Nat.reduceSub, Nat.reduceMul, Nat.reduceLeDiff, Nat.reduceLT, Nat.reduceBEq, PV.scal, PV.scalL, SV.scal, SV.scalL, Ob.scal, PV.isCell, pure', resO]
      exact finA_val (by simp [retA, rvA, List.mapM_cons, List.mapM_nil, Option.pure_def, Option.bind_eq_bind, Option.bind_some, Option.map_some, mkE_cons, mk_nil, mkO_cons, mkO_nil, loadA, ↓reduceIte, List.take_succ_cons, List.take_zero, List.drop_zero, List.drop_succ_cons, List.length_cons, List.length_nil, Nat.reduceAdd, Nat.reduceEqDiff, Nat.reduceLeDiff, Nat.zero_add, Nat.le_refl, reduceCtorEq, SV.tr, SV.trL, nmF, rn_nil, rn_cons1, rn_cons2, List.map_cons, List.map_nil, List.all_cons, List.all_nil, plainOb, SV.refsL, SV.refs, Ob.refs, X, F, List.range_succ, List.range_zero, List.nil_append, List.cons_append, List.isEmpty_nil, decide_true, Nat.reduceLT, Bool.and_self, Bool.and_true, and_self, and_true, List.getElem?_cons_zero, List.getElem?_cons_succ, List.nodup_cons, List.nodup_nil, List.mem_cons, List.not_mem_nil, not_false_eq_true, or_false, List.append_nil, mkO, setO_mk, List.mem_singleton]) (by simp [SV.tr, SV.trL])
    · have ho2 : ¬ ((opens x).length : Int) < 2 := by omega
      cases h2 : isLs x.length k with
      | false =>
        have hp : noK x m k = false := by simp only [noK, h2, Bool.and_false, Bool.false_and]
        refine is.go hm hΓ k_s_NeedOfLess o_s_NeedOfLess (by simp [a_s_NeedOfLess]) ?_
        simp only [a_s_NeedOfLess, h_l6Short, c_isShort, h_l6Done, c_l6Done, h_l6Compare, c_isLess, h_l6Needs, c_l6Needs, h_l6NeedOf, c_l6NeedOf, h_l1Most, c_l1Most, hc, h1, h2, hl0, ho2, hp, ints_len, Bool.false_eq_true, List.zipIdx_cons, List.zipIdx_nil, ↓SP, SQ, Gam.add, stepM, callC, argC, lendO, nmBy, nmC, likeL, likeB, plainOb, offs, exL, X, F, trP, trO, stepD, stepW, newA, SV.tr, SV.trL, fz, allP, Ob.tr, loadA, cellsA, SV.cells, binA, binI, eqOut, isSl, isPt, natOf, callee, snap, SV.refsL, SV.refs, thaw, fzAll, loA, hiA, elemOf, partsA, buildA, putCells, ↓reduceIte, reduceCtorEq, okCell, Nat.reduceAdd, Nat.reduceEqDiff, Nat.reduceSub, Nat.reduceMul, Nat.reduceLeDiff, Nat.reduceLT, Nat.reduceBEq, PV.scal, PV.scalL, SV.scal, SV.scalL, Ob.scal, PV.isCell, pure', resO]
        exact finA_val (by simp [retA, rvA, List.mapM_cons, List.mapM_nil, Option.pure_def, Option.bind_eq_bind, Option.bind_some, Option.map_some, mkE_cons, mk_nil, mkO_cons, mkO_nil, loadA, ↓reduceIte, List.take_succ_cons, List.take_zero, List.drop_zero, List.drop_succ_cons, List.length_cons, List.length_nil, Nat.reduceAdd, Nat.reduceEqDiff, Nat.reduceLeDiff, Nat.zero_add, Nat.le_refl, reduceCtorEq, SV.tr, SV.trL, nmF, rn_nil, rn_cons1, rn_cons2, List.map_cons, List.map_nil, List.all_cons, List.all_nil, plainOb, SV.refsL, SV.refs, Ob.refs, X, F, List.range_succ, List.range_zero, List.nil_append, List.cons_append, List.isEmpty_nil, decide_true, Nat.reduceLT, Bool.and_self, Bool.and_true, and_self, and_true, List.getElem?_cons_zero, List.getElem?_cons_succ, List.nodup_cons, List.nodup_nil, List.mem_cons, List.not_mem_nil, not_false_eq_true, or_false, List.append_nil, mkO, setO_mk, List.mem_singleton]) (by simp [SV.tr, SV.trL])
      | true =>
        obtain ⟨k1, k2⟩ := ls_out h2
        have hob := oneT_bd h1 (k := k.toNat) (by omega) (by omega)
        have hp : noK x m k = vldT m x k.toNat := by simp only [noK, opS, h1, h2, dec_f ho]; rfl
        cases hv : vldT m x k.toNat with
        | false =>
          have e1 : ¬ (-1 : Int) > 0 := by omega
          have e2 : ¬ (-1 : Int) ≥ 0 := by omega
          refine is.go hm hΓ k_s_NeedOfLess o_s_NeedOfLess (by simp [a_s_NeedOfLess]) ?_
          simp only [a_s_NeedOfLess, h_l6Short, c_isShort, h_l6Done, c_l6Done, h_l6Compare, c_isLess, h_l6Needs, c_l6Needs, h_l6NeedOf, c_l6NeedOf, h_l1Most, c_l1Most, hc, h1, h2, hi, hl0, ho2, k1, k2, hv, e1, e2, Int.toNat_natCast, ints_len, isI_ints, ofI_ints, Bool.false_eq_true, List.zipIdx_cons, List.zipIdx_nil, ↓SP, SQ, Gam.add, stepM, callC, argC, lendO, nmBy, nmC, likeL, likeB, plainOb, offs, exL, X, F, trP, trO, stepD, stepW, newA, SV.tr, SV.trL, fz, allP, Ob.tr, loadA, cellsA, SV.cells, binA, binI, eqOut, isSl, isPt, natOf, callee, snap, SV.refsL, SV.refs, thaw, fzAll, loA, hiA, elemOf, partsA, buildA, putCells, ↓reduceIte, reduceCtorEq, okCell, Nat.reduceAdd, Nat.reduceEqDiff, Nat.reduceSub, Nat.reduceMul, Nat.reduceLeDiff, Nat.reduceLT, Nat.reduceBEq, PV.scal, PV.scalL, SV.scal, SV.scalL, Ob.scal, PV.isCell, pure', resO]
          exact finA_val (by simp [hp, hv, retA, rvA, List.mapM_cons, List.mapM_nil, Option.pure_def, Option.bind_eq_bind, Option.bind_some, Option.map_some, mkE_cons, mk_nil, mkO_cons, mkO_nil, loadA, ↓reduceIte, List.take_succ_cons, List.take_zero, List.drop_zero, List.drop_succ_cons, List.length_cons, List.length_nil, Nat.reduceAdd, Nat.reduceEqDiff, Nat.reduceLeDiff, Nat.zero_add, Nat.le_refl, reduceCtorEq, SV.tr, SV.trL, nmF, rn_nil, rn_cons1, rn_cons2, List.map_cons, List.map_nil, List.all_cons, List.all_nil, plainOb, SV.refsL, SV.refs, Ob.refs, X, F, List.range_succ, List.range_zero, List.nil_append, List.cons_append, List.isEmpty_nil, decide_true, Nat.reduceLT, Bool.and_self, Bool.and_true, and_self, and_true, List.getElem?_cons_zero, List.getElem?_cons_succ, List.nodup_cons, List.nodup_nil, List.mem_cons, List.not_mem_nil, not_false_eq_true, or_false, List.append_nil, mkO, setO_mk, List.mem_singleton]) (by simp [SV.tr, SV.trL])
        | true =>
          have e1 : oneT m x k.toNat > 0 := by omega
          have e2 : oneT m x k.toNat ≥ 0 := by omega
          refine is.go hm hΓ k_s_NeedOfLess o_s_NeedOfLess (by simp [a_s_NeedOfLess]) ?_
          simp only [a_s_NeedOfLess, h_l6Short, c_isShort, h_l6Done, c_l6Done, h_l6Compare, c_isLess, h_l6Needs, c_l6Needs, h_l6NeedOf, c_l6NeedOf, h_l1Most, c_l1Most, hc, h1, h2, hi, hl0, ho2, k1, k2, hv, e1, e2, Int.toNat_natCast, ints_len, isI_ints, ofI_ints, Bool.false_eq_true, List.zipIdx_cons, List.zipIdx_nil, ↓SP, SQ, Gam.add, stepM, callC, argC, lendO, nmBy, nmC, likeL, likeB, plainOb, offs, exL, X, F, trP, trO, stepD, stepW, newA, SV.tr, SV.trL, fz, allP, Ob.tr, loadA, cellsA, SV.cells, binA, binI, eqOut, isSl, isPt, natOf, callee, snap, SV.refsL, SV.refs, thaw, fzAll, loA, hiA, elemOf, partsA, buildA, putCells, ↓reduceIte, reduceCtorEq, okCell, Nat.reduceAdd, Nat.reduceEqDiff, Nat.reduceSub, Nat.reduceMul, Nat.reduceLeDiff, Nat.reduceLT, Nat.reduceBEq, PV.scal, PV.scalL, SV.scal, SV.scalL, Ob.scal, PV.isCell, pure', resO]
          exact finA_val (by simp [hp, hv, retA, rvA, List.mapM_cons, List.mapM_nil, Option.pure_def, Option.bind_eq_bind, Option.bind_some, Option.map_some, mkE_cons, mk_nil, mkO_cons, mkO_nil, loadA, ↓reduceIte, List.take_succ_cons, List.take_zero, List.drop_zero, List.drop_succ_cons, List.length_cons, List.length_nil, Nat.reduceAdd, Nat.reduceEqDiff, Nat.reduceLeDiff, Nat.zero_add, Nat.le_refl, reduceCtorEq, SV.tr, SV.trL, nmF, rn_nil, rn_cons1, rn_cons2, List.map_cons, List.map_nil, List.all_cons, List.all_nil, plainOb, SV.refsL, SV.refs, Ob.refs, X, F, List.range_succ, List.range_zero, List.nil_append, List.cons_append, List.isEmpty_nil, decide_true, Nat.reduceLT, Bool.and_self, Bool.and_true, and_self, and_true, List.getElem?_cons_zero, List.getElem?_cons_succ, List.nodup_cons, List.nodup_nil, List.mem_cons, List.not_mem_nil, not_false_eq_true, or_false, List.append_nil, mkO, setO_mk, List.mem_singleton]) (by simp [SV.tr, SV.trL])
/-- The less-need of so many numbers ahead of all. -/
def ltF (m : Int) (n : Nat) : Int := lnT m (List.replicate n 0)
theorem sh_rep {m : Int} {n : Nat} (hm : 0 ≤ m ∧ m ≤ 1) (h1 : 1 ≤ n) (h5 : n ≤ 5) : isSh (List.replicate n (0 : Int)) m = true :=
  sh_mk (by simpa using h1) (by simpa using h5) (by omega) fun v hv => by have := (List.mem_replicate.1 hv).2; omega
def a_LessTable (f_in : FuncId) (f_newLesser : FuncId) (f_start : FuncId) (f_lneed : FuncId) : AFn := ⟨1, 
  .seq (.reg [⟨some 2, none, .d (.mv (.c (.nilsl)))⟩,
    ⟨some 3, none, .d (.mv (.c (.bool false)))⟩])
  (.seq (.seq (.reg [⟨some 6, none, .d (.mv (.t 0))⟩,
    ⟨some 7, none, .d (.call (.f f_in) [(.t 6), (.c (.int .i64 0)), (.c (.int .i64 1))])⟩,
    ⟨some 8, none, .d (.not (.t 7))⟩])
  (.cond (.t 8) (.seq (.reg [⟨some 2, none, .d (.mv (.c (.nilsl)))⟩,
     ⟨some 3, none, .d (.mv (.c (.bool false)))⟩])
   (.ret)) (.skip)))
  (.seq (.reg [⟨some 9, none, .w (.bslice 1 [] [])⟩,
    ⟨some 4, none, .d (.mv (.t 9))⟩])
  (.seq (.seq (.reg [⟨some 5, none, .d (.mv (.c (.int .i64 1)))⟩])
  (.block 0 (.loop (.seq (.seq (.reg [⟨some 10, none, .d (.mv (.t 5))⟩,
      ⟨some 11, none, .d (.bin .arith .leq (.t 10) (.c (.int .i64 5)))⟩])
    (.cond (.t 11) (.skip) (.exit 0)))
    (.seq (.block 1 (.reg [⟨some 14, none, .d (.mv (.t 4))⟩,
       ⟨some 15, none, .w (.callL (.f f_newLesser) [] [] 1 false)⟩,
       ⟨some 16, none, .d (.mv (.t 5))⟩,
       ⟨some 17, none, .d (.mv (.t 0))⟩,
       ⟨some 18, none, .d (.call (.f f_start) [(.t 16), (.t 17)])⟩,
       ⟨some 19, none, .w (.callL (.f f_lneed) [(.t 15), (.t 18)] [15] 0 false)⟩,
       ⟨some 20, none, .w (.bslice 1 [.int .i64 0] [(0, (.t 19))])⟩,
       ⟨some 21, none, .w (.append 1 (.t 14) (.t 20))⟩,
       ⟨some 4, none, .d (.mv (.t 21))⟩]))
    (.reg [⟨some 12, none, .d (.mv (.t 5))⟩,
      ⟨some 13, none, .d (.bin .arith .add (.t 12) (.c (.int .i64 1)))⟩,
      ⟨some 5, none, .d (.mv (.t 13))⟩]))))))
  (.seq (.reg [⟨some 22, none, .d (.mv (.t 4))⟩,
    ⟨some 2, none, .d (.mv (.t 22))⟩,
    ⟨some 3, none, .d (.mv (.c (.bool true)))⟩])
  (.ret))))), [.tmp 2, .tmp 3]⟩
def n_LessTable : Nat → Option Ann := fun d => if d = 15 then some ⟨[], 1, false⟩ else if d = 19 then some ⟨[15], 0, false⟩ else none
abbrev k_LessTable : List Nat := [0, 2, 3, 4, 5, 8, 11]
abbrev o_LessTable : List Nat := [9, 15, 20, 21]
def a_s_LessTable (f_l1In : FuncId) (f_l6Needs : FuncId) (f_start : FuncId) (f_l6Key : FuncId) : AFn := ⟨1, 
  .seq (.reg [⟨some 2, none, .d (.mv (.c (.nilsl)))⟩,
    ⟨some 3, none, .d (.mv (.c (.bool false)))⟩])
  (.seq (.reg [⟨some 6, none, .w (.bslice 1 [] [])⟩,
    ⟨some 4, none, .d (.mv (.t 6))⟩])
  (.seq (.seq (.reg [⟨some 7, none, .d (.mv (.t 0))⟩,
    ⟨some 8, none, .d (.call (.f f_l1In) [(.t 7), (.c (.int .i64 0)), (.c (.int .i64 1))])⟩,
    ⟨some 9, none, .d (.not (.t 8))⟩])
  (.cond (.t 9) (.seq (.reg [⟨some 10, none, .d (.mv (.t 4))⟩,
     ⟨some 2, none, .d (.mv (.t 10))⟩,
     ⟨some 3, none, .d (.mv (.c (.bool false)))⟩])
   (.ret)) (.skip)))
  (.seq (.seq (.reg [⟨some 5, none, .d (.mv (.c (.int .i64 1)))⟩])
  (.block 0 (.loop (.seq (.seq (.reg [⟨some 11, none, .d (.mv (.t 5))⟩,
      ⟨some 12, none, .d (.bin .arith .leq (.t 11) (.c (.int .i64 5)))⟩])
    (.cond (.t 12) (.skip) (.exit 0)))
    (.seq (.block 1 (.reg [⟨some 15, none, .d (.mv (.t 4))⟩,
       ⟨some 16, none, .d (.mv (.t 5))⟩,
       ⟨some 17, none, .d (.mv (.t 0))⟩,
       ⟨some 18, none, .d (.call (.f f_l6Needs) [(.t 16), (.t 17)])⟩,
       ⟨some 19, none, .d (.mv (.t 5))⟩,
       ⟨some 20, none, .d (.mv (.t 0))⟩,
       ⟨some 21, none, .d (.call (.f f_start) [(.t 19), (.t 20)])⟩,
       ⟨some 22, none, .d (.call (.f f_l6Key) [(.t 21)])⟩,
       ⟨some 23, none, .d (.ia 1 (.t 18) (.t 22))⟩,
       ⟨some 24, none, .d (.load false 1 (.t 23))⟩,
       ⟨some 25, none, .w (.bslice 1 [.int .i64 0] [(0, (.t 24))])⟩,
       ⟨some 26, none, .w (.append 1 (.t 15) (.t 25))⟩,
       ⟨some 4, none, .d (.mv (.t 26))⟩]))
    (.reg [⟨some 13, none, .d (.mv (.t 5))⟩,
      ⟨some 14, none, .d (.bin .arith .add (.t 13) (.c (.int .i64 1)))⟩,
      ⟨some 5, none, .d (.mv (.t 14))⟩]))))))
  (.seq (.reg [⟨some 27, none, .d (.mv (.t 4))⟩,
    ⟨some 2, none, .d (.mv (.t 27))⟩,
    ⟨some 3, none, .d (.mv (.c (.bool true)))⟩])
  (.ret))))), [.tmp 2, .tmp 3]⟩
def n_s_LessTable : Nat → Option Ann := fun _ => none
abbrev k_s_LessTable : List Nat := [0, 2, 3, 4, 5, 9, 12]
abbrev o_s_LessTable : List Nat := [6, 25, 26]
def c_LessTable : Con := pure' fun
  | [.p (.int .i64 m)] => if (True) then some (if (decide (0 ≤ m) && decide (m ≤ 1)) = true then .tp [.ar 2000000, .p (.bool true)] else .tp [.p .nilsl, .p (.bool false)], if (decide (0 ≤ m) && decide (m ≤ 1)) = true then [.arr 1 (ints (taF (ltF m) 5))] else []) else none
  | _ => none
theorem s_LessTable {P : Program} (hm : P.follows .mixedOrders = true) {Γ : Gam} (hΓ : GS P Γ) {n : FuncId} {f_in : FuncId} {f_newLesser : FuncId} {f_start : FuncId} {f_lneed : FuncId} (is : Is P n (a_LessTable f_in f_newLesser f_start f_lneed)) (h_in : Γ f_in = c_in) (h_newLesser : Γ f_newLesser = c_newLesser) (h_start : Γ f_start = c_start) (h_lneed : Γ f_lneed = c_lneed)  : Says P n c_LessTable := by
  refine Says.pure fun args r fs h => ?_
  split at h
  case h_2 => cases h
  rename_i m
  split at h
  case isFalse => cases h
  rename_i hc
  simp only [ofI_ints, ofBo_bools, ofAs_asks, Option.some.injEq, Prod.mk.injEq] at h hc
  obtain ⟨rfl, rfl⟩ := h
  cases h2 : (decide (0 ≤ m) && decide (m ≤ 1)) with
  | false =>
    refine is.go hm hΓ k_LessTable o_LessTable (by simp [a_LessTable]) ?_
    simp only [a_LessTable, h_in, c_in, h_newLesser, c_newLesser, h_start, c_start, h_lneed, c_lneed, h2, Bool.false_eq_true, List.zipIdx_cons, List.zipIdx_nil, ↓SP, SQ, Gam.add, stepM, callC, argC, lendO, nmBy, nmC, likeL, likeB, plainOb, offs, exL, X, F, trP, trO, stepD, stepW, newA, SV.tr, SV.trL, fz, allP, Ob.tr, loadA, cellsA, SV.cells, binA, binI, eqOut, isSl, isPt, natOf, callee, snap, SV.refsL, SV.refs, thaw, fzAll, loA, hiA, elemOf, partsA, buildA, putCells, ↓reduceIte, reduceCtorEq, okCell, Nat.reduceAdd, Nat.reduceEqDiff, Nat.reduceSub, Nat.reduceMul, Nat.reduceLeDiff, Nat.reduceLT, Nat.reduceBEq, PV.scal, PV.scalL, SV.scal, SV.scalL, Ob.scal, PV.isCell, pure', resO]
    refine finA_gen [] trivial (by simp [retA, rvA, List.mapM_cons, List.mapM_nil, Option.pure_def, Option.bind_eq_bind, Option.bind_some, Option.map_some, mkE_cons, mk_nil, mkO_cons, mkO_nil, loadA, ↓reduceIte, List.take_succ_cons, List.take_zero, List.drop_zero, List.drop_succ_cons, List.length_cons, List.length_nil, Nat.reduceAdd, Nat.reduceEqDiff, Nat.reduceLeDiff, Nat.zero_add, Nat.le_refl, reduceCtorEq, SV.tr, SV.trL, nmF, rn_nil, rn_cons1, rn_cons2, List.map_cons, List.map_nil, List.all_cons, List.all_nil, plainOb, SV.refsL, SV.refs, Ob.refs, X, F, List.range_succ, List.range_zero, List.nil_append, List.cons_append, List.isEmpty_nil, decide_true, Nat.reduceLT, Bool.and_self, Bool.and_true, and_self, and_true, List.getElem?_cons_zero, List.getElem?_cons_succ, List.nodup_cons, List.nodup_nil, List.mem_cons, List.not_mem_nil, not_false_eq_true, or_false, List.append_nil, mkO, setO_mk, List.mem_singleton]; rfl) ?_ ?_ ?_ ?_ ?_ ?_ ?_ <;> simp [retA, rvA, List.mapM_cons, List.mapM_nil, Option.pure_def, Option.bind_eq_bind, Option.bind_some, Option.map_some, mkE_cons, mk_nil, mkO_cons, mkO_nil, loadA, ↓reduceIte, List.take_succ_cons, List.take_zero, List.drop_zero, List.drop_succ_cons, List.length_cons, List.length_nil, Nat.reduceAdd, Nat.reduceEqDiff, Nat.reduceLeDiff, Nat.zero_add, Nat.le_refl, reduceCtorEq, SV.tr, SV.trL, nmF, rn_nil, rn_cons1, rn_cons2, List.map_cons, List.map_nil, List.all_cons, List.all_nil, plainOb, SV.refsL, SV.refs, Ob.refs, X, F, List.range_succ, List.range_zero, List.nil_append, List.cons_append, List.isEmpty_nil, decide_true, Nat.reduceLT, Bool.and_self, Bool.and_true, and_self, and_true, List.getElem?_cons_zero, List.getElem?_cons_succ, List.nodup_cons, List.nodup_nil, List.mem_cons, List.not_mem_nil, not_false_eq_true, or_false, List.append_nil, mkO, setO_mk, List.mem_singleton]
  | true =>
    have hq2 : 0 ≤ m ∧ m ≤ 1 := by simpa using h2
    refine is.go hm hΓ k_LessTable o_LessTable (by simp [a_LessTable]) ?_
    simp only [a_LessTable, h_in, c_in, h_newLesser, c_newLesser, h_start, c_start, h_lneed, c_lneed, h2, List.zipIdx_cons, List.zipIdx_nil, ↓SP, SQ, Gam.add, stepM, callC, argC, lendO, nmBy, nmC, likeL, likeB, plainOb, offs, exL, X, F, trP, trO, stepD, stepW, newA, SV.tr, SV.trL, fz, allP, Ob.tr, loadA, cellsA, SV.cells, binA, binI, eqOut, isSl, isPt, natOf, callee, snap, SV.refsL, SV.refs, thaw, fzAll, loA, hiA, elemOf, partsA, buildA, putCells, ↓reduceIte, reduceCtorEq, okCell, Nat.reduceAdd, Nat.reduceEqDiff, Nat.reduceSub, Nat.reduceMul, Nat.reduceLeDiff, Nat.reduceLT, Nat.reduceBEq, PV.scal, PV.scalL, SV.scal, SV.scalL, Ob.scal, PV.isCell, pure', resO]
    refine loop_at (fun s : Nat × SV × Option Ob × Option Ob => mkEnv [(0, si m), (2, .p .nilsl), (3, sb false), (4, .ar 9), (5, si ((s.1 + 1 : Nat) : Int)), (8, sb false), (11, s.2.1)]) (fun s => mkO [(9, some (.arr 1 (ints (taF (ltF m) s.1)))), (15, s.2.2.1), (20, s.2.2.2), (21, none)]) (fun s => s.1 ≤ 5) (fun s => 5 - s.1) (0, .junk, none, none) (by simp) rfl rfl ?_
    rintro ⟨n, c1, o1, o2⟩ hn R0 hR hN
    simp only at hn
    by_cases h : n < 5
    · have h3 : ((n + 1 : Nat) : Int) ≤ 5 := by omega
      have hw := wrap_one (i := n + 1) (by omega)
      have g0 : (0 : Int) ≤ ((n + 1 : Nat) : Int) := by omega
      have g1 : ((n + 1 : Nat) : Int) ≤ 1100000 := by omega
      have hs := sh_rep hq2 (n := n + 1) (by omega) (by omega)
      have hok := okLM_nil m (n + 1)
      have hi0 : isES [] = true := rfl
      have ho0 : ofES [] = [] := rfl
      have hlt : lnT m (List.replicate (n + 1) 0) = ltF m (n + 1) := rfl
      have hta := taF_one (ltF m) n
      have hr : (taF (ltF m) n).length + 1 ≤ roomA := by rw [taF_len]; unfold roomA; omega
      cases o1 with
      | none =>
        simp only [h3, hw, g0, g1, hs, hok, hi0, ho0, hlt, hta, hr, Int.toNat_natCast, List.length_replicate, ints_len, ints_app1, ints_cell, h_newLesser, c_newLesser, h_start, c_start, h_lneed, c_lneed, isI_ints, ofI_ints, ↓SP, SQ, Gam.add, stepM, callC, argC, lendO, nmBy, nmC, likeL, likeB, plainOb, offs, exL, X, F, trP, trO, stepD, stepW, newA, SV.tr, SV.trL, fz, allP, Ob.tr, loadA, cellsA, SV.cells, binA, binI, eqOut, isSl, isPt, natOf, callee, snap, SV.refsL, SV.refs, thaw, fzAll, loA, hiA, elemOf, partsA, buildA, putCells, ↓reduceIte, reduceCtorEq, okCell, Nat.reduceAdd, Nat.reduceEqDiff, Nat.reduceSub, Nat.reduceMul, Nat.reduceLeDiff, Nat.reduceLT, Nat.reduceBEq, PV.scal, PV.scalL, SV.scal, SV.scalL, Ob.scal, PV.isCell, pure', resO]
        exact hN (n + 1, _, _, _) _ _ (by simp only; omega) (by simp only; omega) rfl rfl
      | some ob =>
        simp only [h3, hw, g0, g1, hs, hok, hi0, ho0, hlt, hta, hr, Int.toNat_natCast, List.length_replicate, ints_len, ints_app1, ints_cell, h_newLesser, c_newLesser, h_start, c_start, h_lneed, c_lneed, isI_ints, ofI_ints, ↓SP, SQ, Gam.add, stepM, callC, argC, lendO, nmBy, nmC, likeL, likeB, plainOb, offs, exL, X, F, trP, trO, stepD, stepW, newA, SV.tr, SV.trL, fz, allP, Ob.tr, loadA, cellsA, SV.cells, binA, binI, eqOut, isSl, isPt, natOf, callee, snap, SV.refsL, SV.refs, thaw, fzAll, loA, hiA, elemOf, partsA, buildA, putCells, ↓reduceIte, reduceCtorEq, okCell, Nat.reduceAdd, Nat.reduceEqDiff, Nat.reduceSub, Nat.reduceMul, Nat.reduceLeDiff, Nat.reduceLT, Nat.reduceBEq, PV.scal, PV.scalL, SV.scal, SV.scalL, Ob.scal, PV.isCell, pure', resO]
        exact hN (n + 1, _, _, _) _ _ (by simp only; omega) (by simp only; omega) rfl rfl
    · have he : n = 5 := by omega
      subst he
      have h3 : ¬ ((5 + 1 : Nat) : Int) ≤ 5 := by omega
      simp only [h3, ↓SP, SQ, Gam.add, stepM, callC, argC, lendO, nmBy, nmC, likeL, likeB, plainOb, offs, exL, X, F, trP, trO, stepD, stepW, newA, SV.tr, SV.trL, fz, allP, Ob.tr, loadA, cellsA, SV.cells, binA, binI, eqOut, isSl, isPt, natOf, callee, snap, SV.refsL, SV.refs, thaw, fzAll, loA, hiA, elemOf, partsA, buildA, putCells, ↓reduceIte, reduceCtorEq, okCell, Nat.reduceAdd, Nat.reduceEqDiff, Nat.reduceSub, Nat.reduceMul, Nat.reduceLeDiff, Nat.reduceLT, Nat.reduceBEq, PV.scal, PV.scalL, SV.scal, SV.scalL, Ob.scal, PV.isCell, pure', resO]
      refine hR _ _ _ (by intro h; cases h) ?_
      simp only [↓SP, SQ, Gam.add, stepM, callC, argC, lendO, nmBy, nmC, likeL, likeB, plainOb, offs, exL, X, F, trP, trO, stepD, stepW, newA, SV.tr, SV.trL, fz, allP, Ob.tr, loadA, cellsA, SV.cells, binA, binI, eqOut, isSl, isPt, natOf, callee, snap, SV.refsL, SV.refs, thaw, fzAll, loA, hiA, elemOf, partsA, buildA, putCells, ↓reduceIte, reduceCtorEq, okCell, Nat.reduceAdd, Nat.reduceEqDiff, Nat.reduceSub, Nat.reduceMul, Nat.reduceLeDiff, Nat.reduceLT, Nat.reduceBEq, PV.scal, PV.scalL, SV.scal, SV.scalL, Ob.scal, PV.isCell, pure', resO]
      refine finA_gen [9] trivial (by simp [retA, rvA, List.mapM_cons, List.mapM_nil, Option.pure_def, Option.bind_eq_bind, Option.bind_some, Option.map_some, mkE_cons, mk_nil, mkO_cons, mkO_nil, loadA, ↓reduceIte, List.take_succ_cons, List.take_zero, List.drop_zero, List.drop_succ_cons, List.length_cons, List.length_nil, Nat.reduceAdd, Nat.reduceEqDiff, Nat.reduceLeDiff, Nat.zero_add, Nat.le_refl, reduceCtorEq, SV.tr, SV.trL, nmF, rn_nil, rn_cons1, rn_cons2, List.map_cons, List.map_nil, List.all_cons, List.all_nil, plainOb, SV.refsL, SV.refs, Ob.refs, X, F, List.range_succ, List.range_zero, List.nil_append, List.cons_append, List.isEmpty_nil, decide_true, Nat.reduceLT, Bool.and_self, Bool.and_true, and_self, and_true, List.getElem?_cons_zero, List.getElem?_cons_succ, List.nodup_cons, List.nodup_nil, List.mem_cons, List.not_mem_nil, not_false_eq_true, or_false, List.append_nil, mkO, setO_mk, List.mem_singleton]; rfl) ?_ ?_ ?_ ?_ ?_ ?_ ?_ <;> simp [retA, rvA, List.mapM_cons, List.mapM_nil, Option.pure_def, Option.bind_eq_bind, Option.bind_some, Option.map_some, mkE_cons, mk_nil, mkO_cons, mkO_nil, loadA, ↓reduceIte, List.take_succ_cons, List.take_zero, List.drop_zero, List.drop_succ_cons, List.length_cons, List.length_nil, Nat.reduceAdd, Nat.reduceEqDiff, Nat.reduceLeDiff, Nat.zero_add, Nat.le_refl, reduceCtorEq, SV.tr, SV.trL, nmF, rn_nil, rn_cons1, rn_cons2, List.map_cons, List.map_nil, List.all_cons, List.all_nil, plainOb, SV.refsL, SV.refs, Ob.refs, X, F, List.range_succ, List.range_zero, List.nil_append, List.cons_append, List.isEmpty_nil, decide_true, Nat.reduceLT, Bool.and_self, Bool.and_true, and_self, and_true, List.getElem?_cons_zero, List.getElem?_cons_succ, List.nodup_cons, List.nodup_nil, List.mem_cons, List.not_mem_nil, not_false_eq_true, or_false, List.append_nil, mkO, setO_mk, List.mem_singleton]
def c_s_LessTable : Con := pure' fun
  | [.p (.int .i64 m)] => if (True) then some (.tp [.ar 2000000, .p (.bool (decide (0 ≤ m) && decide (m ≤ 1)))], [.arr 1 (ints (if (decide (0 ≤ m) && decide (m ≤ 1)) = true then taF (ltF m) 5 else []))]) else none
  | _ => none
theorem s_s_LessTable {P : Program} (hm : P.follows .mixedOrders = true) {Γ : Gam} (hΓ : GS P Γ) {n : FuncId} {f_l1In : FuncId} {f_l6Needs : FuncId} {f_start : FuncId} {f_l6Key : FuncId} (is : Is P n (a_s_LessTable f_l1In f_l6Needs f_start f_l6Key)) (h_l1In : Γ f_l1In = c_in) (h_l6Needs : Γ f_l6Needs = c_l6Needs) (h_start : Γ f_start = c_start) (h_l6Key : Γ f_l6Key = c_l6Key)  : Says P n c_s_LessTable := by
  refine Says.pure fun args r fs h => ?_
  split at h
  case h_2 => cases h
  rename_i m
  split at h
  case isFalse => cases h
  rename_i hc
  simp only [ofI_ints, ofBo_bools, ofAs_asks, Option.some.injEq, Prod.mk.injEq] at h hc
  obtain ⟨rfl, rfl⟩ := h
  cases h2 : (decide (0 ≤ m) && decide (m ≤ 1)) with
  | false =>
    refine is.go hm hΓ k_s_LessTable o_s_LessTable (by simp [a_s_LessTable]) ?_
    simp only [a_s_LessTable, h_l1In, c_in, h_l6Needs, c_l6Needs, h_start, c_start, h_l6Key, c_l6Key, h2, Bool.false_eq_true, List.zipIdx_cons, List.zipIdx_nil, ↓SP, SQ, Gam.add, stepM, callC, argC, lendO, nmBy, nmC, likeL, likeB, plainOb, offs, exL, X, F, trP, trO, stepD, stepW, newA, SV.tr, SV.trL, fz, allP, Ob.tr, loadA, cellsA, SV.cells, binA, binI, eqOut, isSl, isPt, natOf, callee, snap, SV.refsL, SV.refs, thaw, fzAll, loA, hiA, elemOf, partsA, buildA, putCells, ↓reduceIte, reduceCtorEq, okCell, Nat.reduceAdd, Nat.reduceEqDiff, Nat.reduceSub, Nat.reduceMul, Nat.reduceLeDiff, Nat.reduceLT, Nat.reduceBEq, PV.scal, PV.scalL, SV.scal, SV.scalL, Ob.scal, PV.isCell, pure', resO]
    refine finA_gen [6] trivial (by simp [retA, rvA, List.mapM_cons, List.mapM_nil, Option.pure_def, Option.bind_eq_bind, Option.bind_some, Option.map_some, mkE_cons, mk_nil, mkO_cons, mkO_nil, loadA, ↓reduceIte, List.take_succ_cons, List.take_zero, List.drop_zero, List.drop_succ_cons, List.length_cons, List.length_nil, Nat.reduceAdd, Nat.reduceEqDiff, Nat.reduceLeDiff, Nat.zero_add, Nat.le_refl, reduceCtorEq, SV.tr, SV.trL, nmF, rn_nil, rn_cons1, rn_cons2, List.map_cons, List.map_nil, List.all_cons, List.all_nil, plainOb, SV.refsL, SV.refs, Ob.refs, X, F, List.range_succ, List.range_zero, List.nil_append, List.cons_append, List.isEmpty_nil, decide_true, Nat.reduceLT, Bool.and_self, Bool.and_true, and_self, and_true, List.getElem?_cons_zero, List.getElem?_cons_succ, List.nodup_cons, List.nodup_nil, List.mem_cons, List.not_mem_nil, not_false_eq_true, or_false, List.append_nil, mkO, setO_mk, List.mem_singleton]; rfl) ?_ ?_ ?_ ?_ ?_ ?_ ?_ <;> simp [ints, retA, rvA, List.mapM_cons, List.mapM_nil, Option.pure_def, Option.bind_eq_bind, Option.bind_some, Option.map_some, mkE_cons, mk_nil, mkO_cons, mkO_nil, loadA, ↓reduceIte, List.take_succ_cons, List.take_zero, List.drop_zero, List.drop_succ_cons, List.length_cons, List.length_nil, Nat.reduceAdd, Nat.reduceEqDiff, Nat.reduceLeDiff, Nat.zero_add, Nat.le_refl, reduceCtorEq, SV.tr, SV.trL, nmF, rn_nil, rn_cons1, rn_cons2, List.map_cons, List.map_nil, List.all_cons, List.all_nil, plainOb, SV.refsL, SV.refs, Ob.refs, X, F, List.range_succ, List.range_zero, List.nil_append, List.cons_append, List.isEmpty_nil, decide_true, Nat.reduceLT, Bool.and_self, Bool.and_true, and_self, and_true, List.getElem?_cons_zero, List.getElem?_cons_succ, List.nodup_cons, List.nodup_nil, List.mem_cons, List.not_mem_nil, not_false_eq_true, or_false, List.append_nil, mkO, setO_mk, List.mem_singleton]
  | true =>
    have hq2 : 0 ≤ m ∧ m ≤ 1 := by simpa using h2
    refine is.go hm hΓ k_s_LessTable o_s_LessTable (by simp [a_s_LessTable]) ?_
    simp only [a_s_LessTable, h_l1In, c_in, h_l6Needs, c_l6Needs, h_start, c_start, h_l6Key, c_l6Key, h2, List.zipIdx_cons, List.zipIdx_nil, ↓SP, SQ, Gam.add, stepM, callC, argC, lendO, nmBy, nmC, likeL, likeB, plainOb, offs, exL, X, F, trP, trO, stepD, stepW, newA, SV.tr, SV.trL, fz, allP, Ob.tr, loadA, cellsA, SV.cells, binA, binI, eqOut, isSl, isPt, natOf, callee, snap, SV.refsL, SV.refs, thaw, fzAll, loA, hiA, elemOf, partsA, buildA, putCells, ↓reduceIte, reduceCtorEq, okCell, Nat.reduceAdd, Nat.reduceEqDiff, Nat.reduceSub, Nat.reduceMul, Nat.reduceLeDiff, Nat.reduceLT, Nat.reduceBEq, PV.scal, PV.scalL, SV.scal, SV.scalL, Ob.scal, PV.isCell, pure', resO]
    refine loop_at (fun s : Nat × SV × Option Ob => mkEnv [(0, si m), (2, .p .nilsl), (3, sb false), (4, .ar 6), (5, si ((s.1 + 1 : Nat) : Int)), (9, sb false), (12, s.2.1)]) (fun s => mkO [(6, some (.arr 1 (ints (taF (ltF m) s.1)))), (25, s.2.2), (26, none)]) (fun s => s.1 ≤ 5) (fun s => 5 - s.1) (0, .junk, none) (by simp) rfl rfl ?_
    rintro ⟨n, c1, o1⟩ hn R0 hR hN
    simp only at hn
    by_cases h : n < 5
    · have h3 : ((n + 1 : Nat) : Int) ≤ 5 := by omega
      have hw := wrap_one (i := n + 1) (by omega)
      have g0 : (0 : Int) ≤ ((n + 1 : Nat) : Int) := by omega
      have g1 : ((n + 1 : Nat) : Int) ≤ 1100000 := by omega
      have g2 : (1 : Int) ≤ ((n + 1 : Nat) : Int) := by omega
      have hs := sh_rep hq2 (n := n + 1) (by omega) (by omega)
      obtain ⟨p0, p1, p2⟩ := tbl_at hs
      rw [List.length_replicate] at p1 p2
      have hlt : lnT m (List.replicate (n + 1) 0) = ltF m (n + 1) := rfl
      have hta := taF_one (ltF m) n
      have hr : (taF (ltF m) n).length + 1 ≤ roomA := by rw [taF_len]; unfold roomA; omega
      simp only [h3, hw, g0, g1, g2, hq2, hs, p0, p1, p2, hlt, hta, hr, Int.toNat_natCast, ints_len, ints_app1, ints_cell, h_l6Needs, c_l6Needs, h_start, c_start, h_l6Key, c_l6Key, isI_ints, ofI_ints, ↓SP, SQ, Gam.add, stepM, callC, argC, lendO, nmBy, nmC, likeL, likeB, plainOb, offs, exL, X, F, trP, trO, stepD, stepW, newA, SV.tr, SV.trL, fz, allP, Ob.tr, loadA, cellsA, SV.cells, binA, binI, eqOut, isSl, isPt, natOf, callee, snap, SV.refsL, SV.refs, thaw, fzAll, loA, hiA, elemOf, partsA, buildA, putCells, ↓reduceIte, reduceCtorEq, okCell, Nat.reduceAdd, Nat.reduceEqDiff, Nat.reduceSub, Nat.reduceMul, Nat.reduceLeDiff, Nat.reduceLT, Nat.reduceBEq, PV.scal, PV.scalL, SV.scal, SV.scalL, Ob.scal, PV.isCell, pure', resO]
      exact hN (n + 1, _, _) _ _ (by simp only; omega) (by simp only; omega) rfl rfl
    · have he : n = 5 := by omega
      subst he
      have h3 : ¬ ((5 + 1 : Nat) : Int) ≤ 5 := by omega
      simp only [h3, ↓SP, SQ, Gam.add, stepM, callC, argC, lendO, nmBy, nmC, likeL, likeB, plainOb, offs, exL, X, F, trP, trO, stepD, stepW, newA, SV.tr, SV.trL, fz, allP, Ob.tr, loadA, cellsA, SV.cells, binA, binI, eqOut, isSl, isPt, natOf, callee, snap, SV.refsL, SV.refs, thaw, fzAll, loA, hiA, elemOf, partsA, buildA, putCells, ↓reduceIte, reduceCtorEq, okCell, Nat.reduceAdd, Nat.reduceEqDiff, Nat.reduceSub, Nat.reduceMul, Nat.reduceLeDiff, Nat.reduceLT, Nat.reduceBEq, PV.scal, PV.scalL, SV.scal, SV.scalL, Ob.scal, PV.isCell, pure', resO]
      refine hR _ _ _ (by intro h; cases h) ?_
      simp only [↓SP, SQ, Gam.add, stepM, callC, argC, lendO, nmBy, nmC, likeL, likeB, plainOb, offs, exL, X, F, trP, trO, stepD, stepW, newA, SV.tr, SV.trL, fz, allP, Ob.tr, loadA, cellsA, SV.cells, binA, binI, eqOut, isSl, isPt, natOf, callee, snap, SV.refsL, SV.refs, thaw, fzAll, loA, hiA, elemOf, partsA, buildA, putCells, ↓reduceIte, reduceCtorEq, okCell, Nat.reduceAdd, Nat.reduceEqDiff, Nat.reduceSub, Nat.reduceMul, Nat.reduceLeDiff, Nat.reduceLT, Nat.reduceBEq, PV.scal, PV.scalL, SV.scal, SV.scalL, Ob.scal, PV.isCell, pure', resO]
      refine finA_gen [6] trivial (by simp [retA, rvA, List.mapM_cons, List.mapM_nil, Option.pure_def, Option.bind_eq_bind, Option.bind_some, Option.map_some, mkE_cons, mk_nil, mkO_cons, mkO_nil, loadA, ↓reduceIte, List.take_succ_cons, List.take_zero, List.drop_zero, List.drop_succ_cons, List.length_cons, List.length_nil, Nat.reduceAdd, Nat.reduceEqDiff, Nat.reduceLeDiff, Nat.zero_add, Nat.le_refl, reduceCtorEq, SV.tr, SV.trL, nmF, rn_nil, rn_cons1, rn_cons2, List.map_cons, List.map_nil, List.all_cons, List.all_nil, plainOb, SV.refsL, SV.refs, Ob.refs, X, F, List.range_succ, List.range_zero, List.nil_append, List.cons_append, List.isEmpty_nil, decide_true, Nat.reduceLT, Bool.and_self, Bool.and_true, and_self, and_true, List.getElem?_cons_zero, List.getElem?_cons_succ, List.nodup_cons, List.nodup_nil, List.mem_cons, List.not_mem_nil, not_false_eq_true, or_false, List.append_nil, mkO, setO_mk, List.mem_singleton]; rfl) ?_ ?_ ?_ ?_ ?_ ?_ ?_ <;> simp [retA, rvA, List.mapM_cons, List.mapM_nil, Option.pure_def, Option.bind_eq_bind, Option.bind_some, Option.map_some, mkE_cons, mk_nil, mkO_cons, mkO_nil, loadA, ↓reduceIte, List.take_succ_cons, List.take_zero, List.drop_zero, List.drop_succ_cons, List.length_cons, List.length_nil, Nat.reduceAdd, Nat.reduceEqDiff, Nat.reduceLeDiff, Nat.zero_add, Nat.le_refl, reduceCtorEq, SV.tr, SV.trL, nmF, rn_nil, rn_cons1, rn_cons2, List.map_cons, List.map_nil, List.all_cons, List.all_nil, plainOb, SV.refsL, SV.refs, Ob.refs, X, F, List.range_succ, List.range_zero, List.nil_append, List.cons_append, List.isEmpty_nil, decide_true, Nat.reduceLT, Bool.and_self, Bool.and_true, and_self, and_true, List.getElem?_cons_zero, List.getElem?_cons_succ, List.nodup_cons, List.nodup_nil, List.mem_cons, List.not_mem_nil, not_false_eq_true, or_false, List.append_nil, mkO, setO_mk, List.mem_singleton]
end Go.Proofs.Ytgnclbdhpdjafaa.Pam
