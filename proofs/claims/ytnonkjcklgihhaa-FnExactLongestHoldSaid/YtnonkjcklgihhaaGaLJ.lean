/- A part of the proof that stands in this folder: a small machine whose steps are shown to be the steps of the model, or walks of functions by it. No condition of its own. -/
import Derived.Test.YtnonkjcklgihhaaGaLG
set_option linter.unusedVariables false
set_option linter.unusedSimpArgs false
namespace Go.Proofs.Ytnonkjcklgihhaa.Pam
open Go
def a_areListed1 (f_isQuestion : FuncId) : AFn := ⟨2, 
  .seq (.reg [⟨some 3, none, .d (.mv (.c (.bool false)))⟩])
  (.seq (.reg [⟨some 4, none, .d (.fa 0 (.t 1))⟩,
    ⟨some 5, none, .d (.load false 1 (.t 4))⟩,
    ⟨some 6, none, .d (.len (.t 5))⟩,
    ⟨some 7, none, .d (.mv (.t 0))⟩,
    ⟨some 8, none, .d (.call (.f f_isQuestion) [(.t 6), (.t 7)])⟩,
    ⟨some 9, none, .d (.not (.t 8))⟩,
    ⟨some 3, none, .d (.mv (.t 9))⟩])
  (.ret)), [.tmp 3]⟩
def n_areListed1 : Nat → Option Ann := fun _ => none
abbrev k_areListed1 : List Nat := [0, 1, 3]
abbrev o_areListed1 : List Nat := []
def c_areListed1 : Con := pure' fun
  | [.p (.int .i64 q), .p (.cp [.sl 1 xs, .int .i64 m])] => if isI xs = true ∧ xs.length ≤ 1100000 then some (.p (.bool !(isQ xs.length q)), []) else none
  | _ => none
theorem s_areListed1 {P : Program} (hm : P.follows .mixedOrders = true) {Γ : Gam} (hΓ : GS P Γ) {n : FuncId} {f_isQuestion : FuncId} (is : Is P n (a_areListed1 f_isQuestion)) (h_isQuestion : Γ f_isQuestion = c_isQuestion)  : Says P n c_areListed1 := by
  refine Says.pure fun args r fs h => ?_
  split at h
  case h_2 => cases h
  rename_i q xs m
  split at h
  case isFalse => cases h
  simp only [Option.some.injEq, Prod.mk.injEq] at h
  obtain ⟨rfl, rfl⟩ := h
  refine is.go hm hΓ k_areListed1 o_areListed1 (by simp [a_areListed1]) ?_
  simp only [a_areListed1, h_isQuestion, c_isQuestion, List.zipIdx_cons, List.zipIdx_nil, ↓SP, SQ, Gam.add, stepM, callC, argC, lendO, nmBy, nmC, likeL, likeB, plainOb, offs, X, F, trP, trO, stepD, stepW, newA, SV.tr, SV.trL, fz, allP, Ob.tr, loadA, cellsA, SV.cells, binA, binI, eqOut, isSl, isPt, natOf, callee, snap, SV.refsL, SV.refs, thaw, fzAll, loA, hiA, elemOf, partsA, buildA, putCells, ↓reduceIte, reduceCtorEq, okCell, Nat.reduceAdd, Nat.reduceEqDiff, Nat.reduceSub, Nat.reduceMul, Nat.reduceLeDiff, Nat.reduceLT, Nat.reduceBEq, PV.scal, PV.scalL, SV.scal, SV.scalL, Ob.scal, PV.isCell, pure', resO]
  exact finA_val (by simp [retA, rvA, List.mapM_cons, List.mapM_nil, Option.pure_def, Option.bind_eq_bind, Option.bind_some, Option.map_some, mkE_cons, mk_nil, mkO_cons, mkO_nil, loadA, ↓reduceIte, List.take_succ_cons, List.take_zero, List.drop_zero, List.drop_succ_cons, List.length_cons, List.length_nil, Nat.reduceAdd, Nat.reduceEqDiff, Nat.reduceLeDiff, Nat.zero_add, Nat.le_refl, reduceCtorEq, SV.tr, SV.trL, nmF, rn_nil, rn_cons1, rn_cons2, List.map_cons, List.map_nil, List.all_cons, List.all_nil, plainOb, SV.refsL, SV.refs, Ob.refs, X, F, List.range_succ, List.range_zero, List.nil_append, List.cons_append, List.isEmpty_nil, decide_true, Nat.reduceLT, Bool.and_self, Bool.and_true, and_self, and_true, List.getElem?_cons_zero, List.getElem?_cons_succ, List.nodup_cons, List.nodup_nil, List.mem_cons, List.not_mem_nil, not_false_eq_true, or_false, List.append_nil, mkO, setO_mk, List.mem_singleton]) (by simp [SV.tr, SV.trL])
def a_areListed (f_IsState : FuncId) (f_areListed1 : FuncId) (f_ContainsFunc : FuncId) : AFn := ⟨2, 
  .seq (.reg [⟨some 2, none, .w (.box 2 (.t 0))⟩,
    ⟨some 4, none, .d (.mv (.c (.bool false)))⟩])
  (.seq (.reg [⟨some 5, none, .d (.load true 2 (.t 2))⟩,
    ⟨some 6, none, .d (.call (.f f_IsState) [(.t 5)])⟩,
    ⟨some 7, none, .d (.mv (.t 6))⟩,
    ⟨some 8, some (7, true), .d (.mv (.t 1))⟩,
    ⟨some 9, some (7, true), .d (.len (.t 8))⟩,
    ⟨some 10, some (7, true), .d (.bin .arith .leq (.t 9) (.c (.int .i64 8)))⟩,
    ⟨some 11, none, .d (.pick (.t 7) (.t 10) (.c (.bool false)))⟩,
    ⟨some 12, none, .d (.mv (.t 11))⟩,
    ⟨some 13, some (12, true), .d (.mv (.t 1))⟩,
    ⟨some 14, some (12, true), .d (.mkfn f_areListed1 [] [(.t 2)])⟩,
    ⟨some 15, some (12, true), .d (.call (.f f_ContainsFunc) [(.t 13), (.t 14)])⟩,
    ⟨some 16, some (12, true), .d (.not (.t 15))⟩,
    ⟨some 17, none, .d (.pick (.t 12) (.t 16) (.c (.bool false)))⟩,
    ⟨some 4, none, .d (.mv (.t 17))⟩])
  (.ret)), [.tmp 4]⟩
def n_areListed : Nat → Option Ann := fun _ => none
abbrev k_areListed : List Nat := [0, 1, 2, 4]
abbrev o_areListed : List Nat := [2]
def a_l8Good (f_l2State : FuncId) (f_l2Question : FuncId) : AFn := ⟨2, 
  .seq (.reg [⟨some 2, none, .w (.box 2 (.t 0))⟩,
    ⟨some 4, none, .d (.mv (.c (.bool false)))⟩])
  (.seq (.seq (.reg [⟨some 6, none, .d (.load true 2 (.t 2))⟩,
    ⟨some 7, none, .d (.call (.f f_l2State) [(.t 6)])⟩,
    ⟨some 8, none, .d (.not (.t 7))⟩,
    ⟨some 9, none, .d (.mv (.t 8))⟩,
    ⟨some 10, some (9, false), .d (.mv (.t 1))⟩,
    ⟨some 11, some (9, false), .d (.len (.t 10))⟩,
    ⟨some 12, some (9, false), .d (.bin .arith .gtr (.t 11) (.c (.int .i64 8)))⟩,
    ⟨some 13, none, .d (.pick (.t 9) (.c (.bool true)) (.t 12))⟩])
  (.cond (.t 13) (.seq (.reg [⟨some 4, none, .d (.mv (.c (.bool false)))⟩])
   (.ret)) (.skip)))
  (.seq (.seq (.reg [⟨some 5, none, .d (.mv (.c (.int .i64 0)))⟩])
  (.block 0 (.loop (.seq (.seq (.reg [⟨some 14, none, .d (.mv (.t 5))⟩,
      ⟨some 15, none, .d (.mv (.t 1))⟩,
      ⟨some 16, none, .d (.len (.t 15))⟩,
      ⟨some 17, none, .d (.bin .arith .lss (.t 14) (.t 16))⟩])
    (.cond (.t 17) (.skip) (.exit 0)))
    (.seq (.block 1 (.seq (.dreg [] [([], ⟨some 20, none, .d (.load true 2 (.t 2))⟩),
       ([], ⟨some 21, none, .d (.mv (.t 1))⟩),
       ([], ⟨some 22, none, .d (.mv (.t 5))⟩),
       ([], ⟨some 23, none, .d (.ia 1 (.t 21) (.t 22))⟩),
       ([], ⟨some 24, none, .d (.load false 1 (.t 23))⟩)] [⟨some 25, none, .d (.call (.f f_l2Question) [(.t 20), (.t 24)])⟩,
       ⟨some 26, none, .d (.not (.t 25))⟩])
     (.cond (.t 26) (.seq (.reg [⟨some 4, none, .d (.mv (.c (.bool false)))⟩])
      (.ret)) (.skip))))
    (.reg [⟨some 18, none, .d (.mv (.t 5))⟩,
      ⟨some 19, none, .d (.bin .arith .add (.t 18) (.c (.int .i64 1)))⟩,
      ⟨some 5, none, .d (.mv (.t 19))⟩]))))))
  (.seq (.reg [⟨some 4, none, .d (.mv (.c (.bool true)))⟩])
  (.ret)))), [.tmp 4]⟩
def n_l8Good : Nat → Option Ann := fun _ => none
abbrev k_l8Good : List Nat := [0, 1, 2, 4, 5, 13, 17, 26]
abbrev o_l8Good : List Nat := [2]
/-- Whether a list of questions may be asked at a state. -/
def isL (x : List Int) (m : Int) (l : List Int) : Bool := isSt x m && decide ((l.length : Int) ≤ 8) && l.all (isQ x.length)
def c_areListed : Con := pure' fun
  | [.p (.agg [.sl 1 x_, .int .i64 m]), .p (.sl 1 l_)] => if isI x_ = true ∧ isI l_ = true ∧ ((ofI x_).length ≤ 1100000 ∧ (ofI l_).length ≤ 1100000) then some (.p (.bool (isL (ofI x_) m (ofI l_))), []) else none
  | _ => none
theorem s_areListed {P : Program} (hm : P.follows .mixedOrders = true) {Γ : Gam} (hΓ : GS P Γ) {n : FuncId} {f_IsState : FuncId} {f_areListed1 : FuncId} {f_ContainsFunc : FuncId} (is : Is P n (a_areListed f_IsState f_areListed1 f_ContainsFunc)) (h_IsState : Γ f_IsState = c_IsState) {Γ0 : Gam} (h_ContainsFunc : Γ f_ContainsFunc = c_ContainsFunc Γ0) (h_areListed1 : Γ0 f_areListed1 = c_areListed1) : Says P n c_areListed := by
  refine Says.pure fun args r fs h => ?_
  split at h
  case h_2 => cases h
  rename_i x_ m l_
  split at h
  case isFalse => cases h
  rename_i hc
  obtain ⟨hx_, hc⟩ := hc
  obtain ⟨x, rfl⟩ := isI_out hx_
  obtain ⟨hl_, hc⟩ := hc
  obtain ⟨l, rfl⟩ := isI_out hl_
  simp only [ofI_ints, ofBo_bools, ofAs_asks, Option.some.injEq, Prod.mk.injEq] at h hc
  obtain ⟨rfl, rfl⟩ := h
  have hask : askF Γ0 f_areListed1 [] [.cp [.sl 1 (ints x), .int .i64 m]] (ints l) = some (l.map fun q => !(isQ x.length q)) := askF_eq fun q _ => by
    rw [h_areListed1]; simp [c_areListed1, pure', isI_ints, ints_len, hc.1]
  cases h1 : isSt x m with
  | false =>
    refine is.go hm hΓ k_areListed o_areListed (by simp [a_areListed]) ?_
    simp only [a_areListed, h_IsState, c_IsState, h_ContainsFunc, c_ContainsFunc, hask, hc, h1, List.zipIdx_cons, List.zipIdx_nil, ↓SP, SQ, Gam.add, stepM, callC, argC, lendO, nmBy, nmC, likeL, likeB, plainOb, offs, X, F, trP, trO, stepD, stepW, newA, SV.tr, SV.trL, fz, allP, Ob.tr, loadA, cellsA, SV.cells, binA, binI, eqOut, isSl, isPt, natOf, callee, snap, SV.refsL, SV.refs, thaw, fzAll, loA, hiA, elemOf, partsA, buildA, putCells, ↓reduceIte, reduceCtorEq, okCell, Nat.reduceAdd, Nat.reduceEqDiff, Nat.reduceSub, Nat.reduceMul, Nat.reduceLeDiff, Nat.reduceLT, Nat.reduceBEq, PV.scal, PV.scalL, SV.scal, SV.scalL, Ob.scal, PV.isCell, pure', resO]
    exact finA_val (by simp only [isL, h1, Bool.false_and]; simp [retA, rvA, List.mapM_cons, List.mapM_nil, Option.pure_def, Option.bind_eq_bind, Option.bind_some, Option.map_some, mkE_cons, mk_nil, mkO_cons, mkO_nil, loadA, ↓reduceIte, List.take_succ_cons, List.take_zero, List.drop_zero, List.drop_succ_cons, List.length_cons, List.length_nil, Nat.reduceAdd, Nat.reduceEqDiff, Nat.reduceLeDiff, Nat.zero_add, Nat.le_refl, reduceCtorEq, SV.tr, SV.trL, nmF, rn_nil, rn_cons1, rn_cons2, List.map_cons, List.map_nil, List.all_cons, List.all_nil, plainOb, SV.refsL, SV.refs, Ob.refs, X, F, List.range_succ, List.range_zero, List.nil_append, List.cons_append, List.isEmpty_nil, decide_true, Nat.reduceLT, Bool.and_self, Bool.and_true, and_self, and_true, List.getElem?_cons_zero, List.getElem?_cons_succ, List.nodup_cons, List.nodup_nil, List.mem_cons, List.not_mem_nil, not_false_eq_true, or_false, List.append_nil, mkO, setO_mk, List.mem_singleton]) (by simp [SV.tr])
  | true =>
    by_cases h2 : (l.length : Int) ≤ 8
    · have h2' := dec_t h2
      refine is.go hm hΓ k_areListed o_areListed (by simp [a_areListed]) ?_
      simp only [a_areListed, h_IsState, c_IsState, h_ContainsFunc, c_ContainsFunc, hask, hc, h1, h2, List.zipIdx_cons, List.zipIdx_nil, ↓SP, SQ, Gam.add, stepM, callC, argC, lendO, nmBy, nmC, likeL, likeB, plainOb, offs, X, F, trP, trO, stepD, stepW, newA, SV.tr, SV.trL, fz, allP, Ob.tr, loadA, cellsA, SV.cells, binA, binI, eqOut, isSl, isPt, natOf, callee, snap, SV.refsL, SV.refs, thaw, fzAll, loA, hiA, elemOf, partsA, buildA, putCells, ↓reduceIte, reduceCtorEq, okCell, Nat.reduceAdd, Nat.reduceEqDiff, Nat.reduceSub, Nat.reduceMul, Nat.reduceLeDiff, Nat.reduceLT, Nat.reduceBEq, PV.scal, PV.scalL, SV.scal, SV.scalL, Ob.scal, PV.isCell, pure', resO]
      exact finA_val (by simp only [isL, h1, h2', Bool.true_and, ← any_not]; simp [retA, rvA, List.mapM_cons, List.mapM_nil, Option.pure_def, Option.bind_eq_bind, Option.bind_some, Option.map_some, mkE_cons, mk_nil, mkO_cons, mkO_nil, loadA, ↓reduceIte, List.take_succ_cons, List.take_zero, List.drop_zero, List.drop_succ_cons, List.length_cons, List.length_nil, Nat.reduceAdd, Nat.reduceEqDiff, Nat.reduceLeDiff, Nat.zero_add, Nat.le_refl, reduceCtorEq, SV.tr, SV.trL, nmF, rn_nil, rn_cons1, rn_cons2, List.map_cons, List.map_nil, List.all_cons, List.all_nil, plainOb, SV.refsL, SV.refs, Ob.refs, X, F, List.range_succ, List.range_zero, List.nil_append, List.cons_append, List.isEmpty_nil, decide_true, Nat.reduceLT, Bool.and_self, Bool.and_true, and_self, and_true, List.getElem?_cons_zero, List.getElem?_cons_succ, List.nodup_cons, List.nodup_nil, List.mem_cons, List.not_mem_nil, not_false_eq_true, or_false, List.append_nil, mkO, setO_mk, List.mem_singleton]) (by simp [SV.tr])
    · have h2' := dec_f h2
      refine is.go hm hΓ k_areListed o_areListed (by simp [a_areListed]) ?_
      simp only [a_areListed, h_IsState, c_IsState, h_ContainsFunc, c_ContainsFunc, hask, hc, h1, h2, List.zipIdx_cons, List.zipIdx_nil, ↓SP, SQ, Gam.add, stepM, callC, argC, lendO, nmBy, nmC, likeL, likeB, plainOb, offs, X, F, trP, trO, stepD, stepW, newA, SV.tr, SV.trL, fz, allP, Ob.tr, loadA, cellsA, SV.cells, binA, binI, eqOut, isSl, isPt, natOf, callee, snap, SV.refsL, SV.refs, thaw, fzAll, loA, hiA, elemOf, partsA, buildA, putCells, ↓reduceIte, reduceCtorEq, okCell, Nat.reduceAdd, Nat.reduceEqDiff, Nat.reduceSub, Nat.reduceMul, Nat.reduceLeDiff, Nat.reduceLT, Nat.reduceBEq, PV.scal, PV.scalL, SV.scal, SV.scalL, Ob.scal, PV.isCell, pure', resO]
      exact finA_val (by simp only [isL, h1, h2', Bool.and_false, Bool.false_and]; simp [retA, rvA, List.mapM_cons, List.mapM_nil, Option.pure_def, Option.bind_eq_bind, Option.bind_some, Option.map_some, mkE_cons, mk_nil, mkO_cons, mkO_nil, loadA, ↓reduceIte, List.take_succ_cons, List.take_zero, List.drop_zero, List.drop_succ_cons, List.length_cons, List.length_nil, Nat.reduceAdd, Nat.reduceEqDiff, Nat.reduceLeDiff, Nat.zero_add, Nat.le_refl, reduceCtorEq, SV.tr, SV.trL, nmF, rn_nil, rn_cons1, rn_cons2, List.map_cons, List.map_nil, List.all_cons, List.all_nil, plainOb, SV.refsL, SV.refs, Ob.refs, X, F, List.range_succ, List.range_zero, List.nil_append, List.cons_append, List.isEmpty_nil, decide_true, Nat.reduceLT, Bool.and_self, Bool.and_true, and_self, and_true, List.getElem?_cons_zero, List.getElem?_cons_succ, List.nodup_cons, List.nodup_nil, List.mem_cons, List.not_mem_nil, not_false_eq_true, or_false, List.append_nil, mkO, setO_mk, List.mem_singleton]) (by simp [SV.tr])
theorem s_l8Good {P : Program} (hm : P.follows .mixedOrders = true) {Γ : Gam} (hΓ : GS P Γ) {n : FuncId} {f_l2State : FuncId} {f_l2Question : FuncId} (is : Is P n (a_l8Good f_l2State f_l2Question)) (h_l2State : Γ f_l2State = c_IsState) (h_l2Question : Γ f_l2Question = c_l2Question)  : Says P n c_areListed := by
  refine Says.pure fun args r fs h => ?_
  split at h
  case h_2 => cases h
  rename_i x_ m l_
  split at h
  case isFalse => cases h
  rename_i hc
  obtain ⟨hx_, hc⟩ := hc
  obtain ⟨x, rfl⟩ := isI_out hx_
  obtain ⟨hl_, hc⟩ := hc
  obtain ⟨l, rfl⟩ := isI_out hl_
  simp only [ofI_ints, ofBo_bools, ofAs_asks, Option.some.injEq, Prod.mk.injEq] at h hc
  obtain ⟨rfl, rfl⟩ := h
  cases h1 : isSt x m with
  | false =>
    have hb : isL x m l = false := by simp only [isL, h1, Bool.false_and]
    refine is.go hm hΓ k_l8Good o_l8Good (by simp [a_l8Good]) ?_
    simp only [a_l8Good, h_l2State, c_IsState, h_l2Question, c_l2Question, hc, h1, List.zipIdx_cons, List.zipIdx_nil, ↓SP, SQ, Gam.add, stepM, callC, argC, lendO, nmBy, nmC, likeL, likeB, plainOb, offs, X, F, trP, trO, stepD, stepW, newA, SV.tr, SV.trL, fz, allP, Ob.tr, loadA, cellsA, SV.cells, binA, binI, eqOut, isSl, isPt, natOf, callee, snap, SV.refsL, SV.refs, thaw, fzAll, loA, hiA, elemOf, partsA, buildA, putCells, ↓reduceIte, reduceCtorEq, okCell, Nat.reduceAdd, Nat.reduceEqDiff, Nat.reduceSub, Nat.reduceMul, Nat.reduceLeDiff, Nat.reduceLT, Nat.reduceBEq, PV.scal, PV.scalL, SV.scal, SV.scalL, Ob.scal, PV.isCell, pure', resO]
    exact finA_val (by simp [hb, retA, rvA, List.mapM_cons, List.mapM_nil, Option.pure_def, Option.bind_eq_bind, Option.bind_some, Option.map_some, mkE_cons, mk_nil, mkO_cons, mkO_nil, loadA, ↓reduceIte, List.take_succ_cons, List.take_zero, List.drop_zero, List.drop_succ_cons, List.length_cons, List.length_nil, Nat.reduceAdd, Nat.reduceEqDiff, Nat.reduceLeDiff, Nat.zero_add, Nat.le_refl, reduceCtorEq, SV.tr, SV.trL, nmF, rn_nil, rn_cons1, rn_cons2, List.map_cons, List.map_nil, List.all_cons, List.all_nil, plainOb, SV.refsL, SV.refs, Ob.refs, X, F, List.range_succ, List.range_zero, List.nil_append, List.cons_append, List.isEmpty_nil, decide_true, Nat.reduceLT, Bool.and_self, Bool.and_true, and_self, and_true, List.getElem?_cons_zero, List.getElem?_cons_succ, List.nodup_cons, List.nodup_nil, List.mem_cons, List.not_mem_nil, not_false_eq_true, or_false, List.append_nil, mkO, setO_mk, List.mem_singleton]) (by simp [SV.tr, SV.trL])
  | true =>
    by_cases h2 : (l.length : Int) > 8
    · have hb : isL x m l = false := by simp only [isL, h1, dec_f (show ¬ (l.length : Int) ≤ 8 by omega), Bool.and_false, Bool.false_and]
      refine is.go hm hΓ k_l8Good o_l8Good (by simp [a_l8Good]) ?_
      simp only [a_l8Good, h_l2State, c_IsState, h_l2Question, c_l2Question, hc, h1, h2, List.zipIdx_cons, List.zipIdx_nil, ↓SP, SQ, Gam.add, stepM, callC, argC, lendO, nmBy, nmC, likeL, likeB, plainOb, offs, X, F, trP, trO, stepD, stepW, newA, SV.tr, SV.trL, fz, allP, Ob.tr, loadA, cellsA, SV.cells, binA, binI, eqOut, isSl, isPt, natOf, callee, snap, SV.refsL, SV.refs, thaw, fzAll, loA, hiA, elemOf, partsA, buildA, putCells, ↓reduceIte, reduceCtorEq, okCell, Nat.reduceAdd, Nat.reduceEqDiff, Nat.reduceSub, Nat.reduceMul, Nat.reduceLeDiff, Nat.reduceLT, Nat.reduceBEq, PV.scal, PV.scalL, SV.scal, SV.scalL, Ob.scal, PV.isCell, pure', resO]
      exact finA_val (by simp [hb, retA, rvA, List.mapM_cons, List.mapM_nil, Option.pure_def, Option.bind_eq_bind, Option.bind_some, Option.map_some, mkE_cons, mk_nil, mkO_cons, mkO_nil, loadA, ↓reduceIte, List.take_succ_cons, List.take_zero, List.drop_zero, List.drop_succ_cons, List.length_cons, List.length_nil, Nat.reduceAdd, Nat.reduceEqDiff, Nat.reduceLeDiff, Nat.zero_add, Nat.le_refl, reduceCtorEq, SV.tr, SV.trL, nmF, rn_nil, rn_cons1, rn_cons2, List.map_cons, List.map_nil, List.all_cons, List.all_nil, plainOb, SV.refsL, SV.refs, Ob.refs, X, F, List.range_succ, List.range_zero, List.nil_append, List.cons_append, List.isEmpty_nil, decide_true, Nat.reduceLT, Bool.and_self, Bool.and_true, and_self, and_true, List.getElem?_cons_zero, List.getElem?_cons_succ, List.nodup_cons, List.nodup_nil, List.mem_cons, List.not_mem_nil, not_false_eq_true, or_false, List.append_nil, mkO, setO_mk, List.mem_singleton]) (by simp [SV.tr, SV.trL])
    · refine is.go hm hΓ k_l8Good o_l8Good (by simp [a_l8Good]) ?_
      simp only [a_l8Good, h_l2State, c_IsState, h_l2Question, c_l2Question, hc, h1, h2, List.zipIdx_cons, List.zipIdx_nil, ↓SP, SQ, Gam.add, stepM, callC, argC, lendO, nmBy, nmC, likeL, likeB, plainOb, offs, X, F, trP, trO, stepD, stepW, newA, SV.tr, SV.trL, fz, allP, Ob.tr, loadA, cellsA, SV.cells, binA, binI, eqOut, isSl, isPt, natOf, callee, snap, SV.refsL, SV.refs, thaw, fzAll, loA, hiA, elemOf, partsA, buildA, putCells, ↓reduceIte, reduceCtorEq, okCell, Nat.reduceAdd, Nat.reduceEqDiff, Nat.reduceSub, Nat.reduceMul, Nat.reduceLeDiff, Nat.reduceLT, Nat.reduceBEq, PV.scal, PV.scalL, SV.scal, SV.scalL, Ob.scal, PV.isCell, pure', resO]
      refine loop_at (fun s : Nat × SV × SV => mkEnv [(0, .p (.agg [.sl 1 (ints x), .int .i64 m])), (1, .p (.sl 1 (ints l))), (2, .bx 2 0), (4, sb false), (5, si s.1), (13, sb false), (17, s.2.1), (26, s.2.2)]) (fun s => mkO [(2, some (.box [.p (.sl 1 (ints x)), si m]))]) (fun s => s.1 ≤ l.length ∧ ∀ j, j < s.1 → isQ x.length (l.getD j 0) = true) (fun s => l.length - s.1) (0, .junk, .junk) (by simp) rfl rfl ?_
      rintro ⟨i, c1, c2⟩ ⟨hi, hp⟩ R hR hN
      simp only at hi hp
      by_cases h : i < l.length
      · have h1' : (i : Int) < l.length := by omega
        have hw := wrap_one (i := i) (by omega)
        have hg := ints_get h
        cases hq : isQ x.length (l.getD i 0) with
        | false =>
          have hb : isL x m l = false := by
            have : (l.all (isQ x.length)) = false := by
              rw [Bool.eq_false_iff]; intro e
              have := List.all_eq_true.1 e (l.getD i 0) (by rw [getD_lt h]; exact List.getElem_mem h)
              rw [hq] at this; cases this
            simp only [isL, this, Bool.and_false]
          simp only [h1', hw, hg, hq, hc, h_l2Question, c_l2Question, ↓SP, SQ, Gam.add, stepM, callC, argC, lendO, nmBy, nmC, likeL, likeB, plainOb, offs, X, F, trP, trO, stepD, stepW, newA, SV.tr, SV.trL, fz, allP, Ob.tr, loadA, cellsA, SV.cells, binA, binI, eqOut, isSl, isPt, natOf, callee, snap, SV.refsL, SV.refs, thaw, fzAll, loA, hiA, elemOf, partsA, buildA, putCells, ↓reduceIte, reduceCtorEq, okCell, Nat.reduceAdd, Nat.reduceEqDiff, Nat.reduceSub, Nat.reduceMul, Nat.reduceLeDiff, Nat.reduceLT, Nat.reduceBEq, PV.scal, PV.scalL, SV.scal, SV.scalL, Ob.scal, PV.isCell, pure', resO]
          refine hR _ _ _ (by intro h; cases h) ?_
          simp only [↓SP, SQ, Gam.add, stepM, callC, argC, lendO, nmBy, nmC, likeL, likeB, plainOb, offs, X, F, trP, trO, stepD, stepW, newA, SV.tr, SV.trL, fz, allP, Ob.tr, loadA, cellsA, SV.cells, binA, binI, eqOut, isSl, isPt, natOf, callee, snap, SV.refsL, SV.refs, thaw, fzAll, loA, hiA, elemOf, partsA, buildA, putCells, ↓reduceIte, reduceCtorEq, okCell, Nat.reduceAdd, Nat.reduceEqDiff, Nat.reduceSub, Nat.reduceMul, Nat.reduceLeDiff, Nat.reduceLT, Nat.reduceBEq, PV.scal, PV.scalL, SV.scal, SV.scalL, Ob.scal, PV.isCell, pure', resO]
          exact finA_val (by simp [hb, retA, rvA, List.mapM_cons, List.mapM_nil, Option.pure_def, Option.bind_eq_bind, Option.bind_some, Option.map_some, mkE_cons, mk_nil, mkO_cons, mkO_nil, loadA, ↓reduceIte, List.take_succ_cons, List.take_zero, List.drop_zero, List.drop_succ_cons, List.length_cons, List.length_nil, Nat.reduceAdd, Nat.reduceEqDiff, Nat.reduceLeDiff, Nat.zero_add, Nat.le_refl, reduceCtorEq, SV.tr, SV.trL, nmF, rn_nil, rn_cons1, rn_cons2, List.map_cons, List.map_nil, List.all_cons, List.all_nil, plainOb, SV.refsL, SV.refs, Ob.refs, X, F, List.range_succ, List.range_zero, List.nil_append, List.cons_append, List.isEmpty_nil, decide_true, Nat.reduceLT, Bool.and_self, Bool.and_true, and_self, and_true, List.getElem?_cons_zero, List.getElem?_cons_succ, List.nodup_cons, List.nodup_nil, List.mem_cons, List.not_mem_nil, not_false_eq_true, or_false, List.append_nil, mkO, setO_mk, List.mem_singleton]) (by simp [SV.tr, SV.trL])
        | true =>
          simp only [h1', hw, hg, hq, hc, h_l2Question, c_l2Question, ↓SP, SQ, Gam.add, stepM, callC, argC, lendO, nmBy, nmC, likeL, likeB, plainOb, offs, X, F, trP, trO, stepD, stepW, newA, SV.tr, SV.trL, fz, allP, Ob.tr, loadA, cellsA, SV.cells, binA, binI, eqOut, isSl, isPt, natOf, callee, snap, SV.refsL, SV.refs, thaw, fzAll, loA, hiA, elemOf, partsA, buildA, putCells, ↓reduceIte, reduceCtorEq, okCell, Nat.reduceAdd, Nat.reduceEqDiff, Nat.reduceSub, Nat.reduceMul, Nat.reduceLeDiff, Nat.reduceLT, Nat.reduceBEq, PV.scal, PV.scalL, SV.scal, SV.scalL, Ob.scal, PV.isCell, pure', resO]
          refine hN (i + 1, _, _) _ _ ⟨by simp only; omega, fun j hj => ?_⟩ (by simp only; omega) rfl rfl
          simp only at hj
          by_cases hji : j = i
          · rw [hji]; exact hq
          · exact hp j (by omega)
      · have he : i = l.length := by omega
        have h1' : ¬ (i : Int) < l.length := by omega
        have hb : isL x m l = true := by
          have : (l.all (isQ x.length)) = true := by
            rw [List.all_eq_true]; intro q hq
            obtain ⟨j, hj, e⟩ := List.getElem_of_mem hq
            have := hp j (by omega)
            rwa [getD_lt hj, e] at this
          simp only [isL, h1, this, dec_t (show (l.length : Int) ≤ 8 by omega), Bool.and_self]
        simp only [h1', ↓SP, SQ, Gam.add, stepM, callC, argC, lendO, nmBy, nmC, likeL, likeB, plainOb, offs, X, F, trP, trO, stepD, stepW, newA, SV.tr, SV.trL, fz, allP, Ob.tr, loadA, cellsA, SV.cells, binA, binI, eqOut, isSl, isPt, natOf, callee, snap, SV.refsL, SV.refs, thaw, fzAll, loA, hiA, elemOf, partsA, buildA, putCells, ↓reduceIte, reduceCtorEq, okCell, Nat.reduceAdd, Nat.reduceEqDiff, Nat.reduceSub, Nat.reduceMul, Nat.reduceLeDiff, Nat.reduceLT, Nat.reduceBEq, PV.scal, PV.scalL, SV.scal, SV.scalL, Ob.scal, PV.isCell, pure', resO]
        refine hR _ _ _ (by intro h; cases h) ?_
        simp only [↓SP, SQ, Gam.add, stepM, callC, argC, lendO, nmBy, nmC, likeL, likeB, plainOb, offs, X, F, trP, trO, stepD, stepW, newA, SV.tr, SV.trL, fz, allP, Ob.tr, loadA, cellsA, SV.cells, binA, binI, eqOut, isSl, isPt, natOf, callee, snap, SV.refsL, SV.refs, thaw, fzAll, loA, hiA, elemOf, partsA, buildA, putCells, ↓reduceIte, reduceCtorEq, okCell, Nat.reduceAdd, Nat.reduceEqDiff, Nat.reduceSub, Nat.reduceMul, Nat.reduceLeDiff, Nat.reduceLT, Nat.reduceBEq, PV.scal, PV.scalL, SV.scal, SV.scalL, Ob.scal, PV.isCell, pure', resO]
        exact finA_val (by simp [hb, retA, rvA, List.mapM_cons, List.mapM_nil, Option.pure_def, Option.bind_eq_bind, Option.bind_some, Option.map_some, mkE_cons, mk_nil, mkO_cons, mkO_nil, loadA, ↓reduceIte, List.take_succ_cons, List.take_zero, List.drop_zero, List.drop_succ_cons, List.length_cons, List.length_nil, Nat.reduceAdd, Nat.reduceEqDiff, Nat.reduceLeDiff, Nat.zero_add, Nat.le_refl, reduceCtorEq, SV.tr, SV.trL, nmF, rn_nil, rn_cons1, rn_cons2, List.map_cons, List.map_nil, List.all_cons, List.all_nil, plainOb, SV.refsL, SV.refs, Ob.refs, X, F, List.range_succ, List.range_zero, List.nil_append, List.cons_append, List.isEmpty_nil, decide_true, Nat.reduceLT, Bool.and_self, Bool.and_true, and_self, and_true, List.getElem?_cons_zero, List.getElem?_cons_succ, List.nodup_cons, List.nodup_nil, List.mem_cons, List.not_mem_nil, not_false_eq_true, or_false, List.append_nil, mkO, setO_mk, List.mem_singleton]) (by simp [SV.tr, SV.trL])
end Go.Proofs.Ytnonkjcklgihhaa.Pam
