/- A part of the proof that stands in this folder: a small machine whose steps are shown to be the steps of the model, or walks of functions by it. No condition of its own. -/
import Derived.Test.YtnonkjcklgihhaaLD
set_option linter.unusedVariables false
set_option linter.unusedSimpArgs false
namespace Go.Proofs.Ytnonkjcklgihhaa.Pam
open Go
theorem isSt_small {l : List Int} {m : Int} (h : isSt l m = true) : (l.all fun x => decide (x ≤ 1000)) = true := by
  simp only [isSt, Bool.and_eq_true, List.all_eq_true, decide_eq_true_eq] at h ⊢
  intro x hx
  have := (h.2 x hx).2
  omega
theorem isSt_len {l : List Int} {m : Int} (h : isSt l m = true) : l.length ≤ 12 := by
  simp only [isSt, Bool.and_eq_true, decide_eq_true_eq] at h
  omega
def a_OneWayState (f_IsState : FuncId) (f_isQuestion : FuncId) (f_answeredOneWay : FuncId) : AFn := ⟨2, 
  .seq (.reg [⟨some 2, none, .w (.box 2 (.t 0))⟩,
    ⟨some 3, none, .w (.box 2 (.t 1))⟩,
    ⟨some 4, none, .w (.alloc [.nilsl, .int .i64 0])⟩,
    ⟨some 5, none, .d (.mv (.c (.bool false)))⟩])
  (.seq (.seq (.reg [⟨some 6, none, .d (.load true 2 (.t 2))⟩,
    ⟨some 7, none, .d (.call (.f f_IsState) [(.t 6)])⟩,
    ⟨some 8, none, .d (.not (.t 7))⟩,
    ⟨some 9, none, .d (.mv (.t 8))⟩,
    ⟨some 10, some (9, false), .d (.fa 0 (.t 2))⟩,
    ⟨some 11, some (9, false), .d (.load false 1 (.t 10))⟩,
    ⟨some 12, some (9, false), .d (.len (.t 11))⟩,
    ⟨some 13, some (9, false), .d (.fa 0 (.t 3))⟩,
    ⟨some 14, some (9, false), .d (.load false 1 (.t 13))⟩,
    ⟨some 15, some (9, false), .d (.call (.f f_isQuestion) [(.t 12), (.t 14)])⟩,
    ⟨some 16, some (9, false), .d (.not (.t 15))⟩,
    ⟨some 17, none, .d (.pick (.t 9) (.c (.bool true)) (.t 16))⟩])
  (.cond (.t 17) (.seq (.reg [⟨some 18, none, .d (.build [.nilsl, .int .i64 0] [])⟩,
     ⟨none, none, .w (.store 2 (.t 4) (.t 18))⟩,
     ⟨some 5, none, .d (.mv (.c (.bool false)))⟩])
   (.ret)) (.skip)))
  (.seq (.reg [⟨some 19, none, .d (.load true 2 (.t 2))⟩,
    ⟨some 20, none, .d (.load true 2 (.t 3))⟩,
    ⟨some 21, none, .w (.callL (.f f_answeredOneWay) [(.t 19), (.t 20)] [] 1 false)⟩,
    ⟨none, none, .w (.store 2 (.t 4) (.t 21))⟩,
    ⟨some 5, none, .d (.mv (.c (.bool true)))⟩])
  (.ret))), [.cell 4 2 true, .tmp 5]⟩
def n_OneWayState : Nat → Option Ann := fun d => if d = 21 then some ⟨[], 1, false⟩ else none
abbrev k_OneWayState : List Nat := [0, 1, 2, 3, 4, 5, 17]
abbrev o_OneWayState : List Nat := [2, 3, 4, 21]
def a_s_OneWayState (f_l2State : FuncId) (f_l2Question : FuncId) (f_l10After : FuncId) : AFn := ⟨2, 
  .seq (.reg [⟨some 2, none, .w (.box 2 (.t 0))⟩,
    ⟨some 3, none, .w (.box 2 (.t 1))⟩,
    ⟨some 4, none, .w (.alloc [.nilsl, .int .i64 0])⟩,
    ⟨some 5, none, .d (.mv (.c (.bool false)))⟩])
  (.seq (.seq (.reg [⟨some 6, none, .d (.load true 2 (.t 2))⟩,
    ⟨some 7, none, .d (.call (.f f_l2State) [(.t 6)])⟩,
    ⟨some 8, none, .d (.not (.t 7))⟩,
    ⟨some 9, none, .d (.mv (.t 8))⟩,
    ⟨some 10, some (9, false), .d (.load true 2 (.t 2))⟩,
    ⟨some 11, some (9, false), .d (.fa 0 (.t 3))⟩,
    ⟨some 12, some (9, false), .d (.load false 1 (.t 11))⟩,
    ⟨some 13, some (9, false), .d (.call (.f f_l2Question) [(.t 10), (.t 12)])⟩,
    ⟨some 14, some (9, false), .d (.not (.t 13))⟩,
    ⟨some 15, none, .d (.pick (.t 9) (.c (.bool true)) (.t 14))⟩])
  (.cond (.t 15) (.seq (.reg [⟨some 16, none, .d (.build [.nilsl, .int .i64 0] [])⟩,
     ⟨none, none, .w (.store 2 (.t 4) (.t 16))⟩,
     ⟨some 5, none, .d (.mv (.c (.bool false)))⟩])
   (.ret)) (.skip)))
  (.seq (.reg [⟨some 17, none, .d (.load true 2 (.t 2))⟩,
    ⟨some 18, none, .d (.fa 0 (.t 3))⟩,
    ⟨some 19, none, .d (.load false 1 (.t 18))⟩,
    ⟨some 20, none, .d (.fa 1 (.t 3))⟩,
    ⟨some 21, none, .d (.load false 1 (.t 20))⟩,
    ⟨some 22, none, .d (.call (.f f_l10After) [(.t 17), (.t 19), (.t 21)])⟩,
    ⟨none, none, .w (.store 2 (.t 4) (.t 22))⟩,
    ⟨some 5, none, .d (.mv (.c (.bool true)))⟩])
  (.ret))), [.cell 4 2 true, .tmp 5]⟩
def n_s_OneWayState : Nat → Option Ann := fun _ => none
abbrev k_s_OneWayState : List Nat := [0, 1, 2, 3, 4, 5, 15]
abbrev o_s_OneWayState : List Nat := [2, 3, 4]
def c_OneWayState : Con := pure' fun
  | [.p (.agg [.sl 1 xs, .int .i64 m]), .p (.agg [.int .i64 q, .bool y])] => if isI xs = true ∧ xs.length ≤ 1100000 then
      (if (isSt (ofI xs) m && isQ xs.length q) = true then some (.tp [.ag [.ar 2000000, .p (.int .i64 m)], .p (.bool true)], [.arr 1 (ints (oneL q y m (ofI xs)))])
        else some (.tp [.ag [.p .nilsl, .p (.int .i64 0)], .p (.bool false)], [])) else none
  | _ => none
def c_s_OneWayState : Con := pure' fun
  | [.p (.agg [.sl 1 xs, .int .i64 m]), .p (.agg [.int .i64 q, .bool y])] => if isI xs = true ∧ xs.length ≤ 1100000 then
      (if (isSt (ofI xs) m && isQ xs.length q) = true then some (.tp [.ag [.p (.sl 1 (ints (oneL q y m (ofI xs)))), .p (.int .i64 m)], .p (.bool true)], [])
        else some (.tp [.ag [.p .nilsl, .p (.int .i64 0)], .p (.bool false)], [])) else none
  | _ => none
theorem s_OneWayState {P : Program} (hm : P.follows .mixedOrders = true) {Γ : Gam} (hΓ : GS P Γ) {n : FuncId} {f_IsState : FuncId} {f_isQuestion : FuncId} {f_answeredOneWay : FuncId} (is : Is P n (a_OneWayState f_IsState f_isQuestion f_answeredOneWay)) (h_IsState : Γ f_IsState = c_IsState) (h_isQuestion : Γ f_isQuestion = c_isQuestion) (h_answeredOneWay : Γ f_answeredOneWay = c_answeredOneWay)  : Says P n c_OneWayState := by
  refine Says.pure fun args r fs h => ?_
  split at h
  case h_2 => cases h
  rename_i xs m q y
  split at h
  case isFalse => cases h
  rename_i hc
  obtain ⟨hx, hc⟩ := hc
  obtain ⟨l, rfl⟩ := isI_out hx
  rw [ints_len] at hc
  simp only [ofI_ints, ints_len] at h
  split at h
  · rename_i hb
    simp only [Option.some.injEq, Prod.mk.injEq] at h
    obtain ⟨rfl, rfl⟩ := h
    simp only [Bool.and_eq_true] at hb
    have hsm := isSt_small hb.1
    refine is.go hm hΓ k_OneWayState o_OneWayState (by simp [a_OneWayState]) ?_
    simp only [a_OneWayState, h_IsState, c_IsState, h_isQuestion, c_isQuestion, h_answeredOneWay, c_answeredOneWay, hc, hb.1, hb.2, hsm, List.zipIdx_cons, List.zipIdx_nil, ↓SP, SQ, Gam.add, stepM, callC, argC, lendO, nmBy, nmC, likeL, likeB, plainOb, offs, X, F, trP, trO, stepD, stepW, newA, SV.tr, SV.trL, fz, allP, Ob.tr, loadA, cellsA, SV.cells, binA, binI, eqOut, isSl, isPt, natOf, callee, snap, SV.refsL, SV.refs, thaw, fzAll, loA, hiA, elemOf, partsA, buildA, putCells, ↓reduceIte, reduceCtorEq, okCell, Nat.reduceAdd, Nat.reduceEqDiff, Nat.reduceSub, Nat.reduceMul, Nat.reduceLeDiff, Nat.reduceLT, Nat.reduceBEq, PV.scal, PV.scalL, SV.scal, SV.scalL, Ob.scal, PV.isCell, pure', resO]
    exact finA_gen [21] trivial (by simp [retA, rvA, List.mapM_cons, List.mapM_nil, Option.pure_def, Option.bind_eq_bind, Option.bind_some, Option.map_some, mkE_cons, mk_nil, mkO_cons, mkO_nil, loadA, ↓reduceIte, List.take_succ_cons, List.take_zero, List.drop_zero, List.drop_succ_cons, List.length_cons, List.length_nil, Nat.reduceAdd, Nat.reduceEqDiff, Nat.reduceLeDiff, Nat.zero_add, Nat.le_refl, reduceCtorEq, SV.tr, SV.trL, nmF, rn_nil, rn_cons1, rn_cons2, List.map_cons, List.map_nil, List.all_cons, List.all_nil, plainOb, SV.refsL, SV.refs, Ob.refs, X, F, List.range_succ, List.range_zero, List.nil_append, List.cons_append, List.isEmpty_nil, decide_true, Nat.reduceLT, Bool.and_self, Bool.and_true, and_self, and_true, List.getElem?_cons_zero, List.getElem?_cons_succ, List.nodup_cons, List.nodup_nil, List.mem_cons, List.not_mem_nil, not_false_eq_true, or_false, List.append_nil, mkO, setO_mk, List.mem_singleton]; rfl) (by simp [retA, rvA, List.mapM_cons, List.mapM_nil, Option.pure_def, Option.bind_eq_bind, Option.bind_some, Option.map_some, mkE_cons, mk_nil, mkO_cons, mkO_nil, loadA, ↓reduceIte, List.take_succ_cons, List.take_zero, List.drop_zero, List.drop_succ_cons, List.length_cons, List.length_nil, Nat.reduceAdd, Nat.reduceEqDiff, Nat.reduceLeDiff, Nat.zero_add, Nat.le_refl, reduceCtorEq, SV.tr, SV.trL, nmF, rn_nil, rn_cons1, rn_cons2, List.map_cons, List.map_nil, List.all_cons, List.all_nil, plainOb, SV.refsL, SV.refs, Ob.refs, X, F, List.range_succ, List.range_zero, List.nil_append, List.cons_append, List.isEmpty_nil, decide_true, Nat.reduceLT, Bool.and_self, Bool.and_true, and_self, and_true, List.getElem?_cons_zero, List.getElem?_cons_succ, List.nodup_cons, List.nodup_nil, List.mem_cons, List.not_mem_nil, not_false_eq_true, or_false, List.append_nil, mkO, setO_mk, List.mem_singleton]) (by simp [retA, rvA, List.mapM_cons, List.mapM_nil, Option.pure_def, Option.bind_eq_bind, Option.bind_some, Option.map_some, mkE_cons, mk_nil, mkO_cons, mkO_nil, loadA, ↓reduceIte, List.take_succ_cons, List.take_zero, List.drop_zero, List.drop_succ_cons, List.length_cons, List.length_nil, Nat.reduceAdd, Nat.reduceEqDiff, Nat.reduceLeDiff, Nat.zero_add, Nat.le_refl, reduceCtorEq, SV.tr, SV.trL, nmF, rn_nil, rn_cons1, rn_cons2, List.map_cons, List.map_nil, List.all_cons, List.all_nil, plainOb, SV.refsL, SV.refs, Ob.refs, X, F, List.range_succ, List.range_zero, List.nil_append, List.cons_append, List.isEmpty_nil, decide_true, Nat.reduceLT, Bool.and_self, Bool.and_true, and_self, and_true, List.getElem?_cons_zero, List.getElem?_cons_succ, List.nodup_cons, List.nodup_nil, List.mem_cons, List.not_mem_nil, not_false_eq_true, or_false, List.append_nil, mkO, setO_mk, List.mem_singleton]) (by simp) (by simp) (by simp [retA, rvA, List.mapM_cons, List.mapM_nil, Option.pure_def, Option.bind_eq_bind, Option.bind_some, Option.map_some, mkE_cons, mk_nil, mkO_cons, mkO_nil, loadA, ↓reduceIte, List.take_succ_cons, List.take_zero, List.drop_zero, List.drop_succ_cons, List.length_cons, List.length_nil, Nat.reduceAdd, Nat.reduceEqDiff, Nat.reduceLeDiff, Nat.zero_add, Nat.le_refl, reduceCtorEq, SV.tr, SV.trL, nmF, rn_nil, rn_cons1, rn_cons2, List.map_cons, List.map_nil, List.all_cons, List.all_nil, plainOb, SV.refsL, SV.refs, Ob.refs, X, F, List.range_succ, List.range_zero, List.nil_append, List.cons_append, List.isEmpty_nil, decide_true, Nat.reduceLT, Bool.and_self, Bool.and_true, and_self, and_true, List.getElem?_cons_zero, List.getElem?_cons_succ, List.nodup_cons, List.nodup_nil, List.mem_cons, List.not_mem_nil, not_false_eq_true, or_false, List.append_nil, mkO, setO_mk, List.mem_singleton]) (by simp [retA, rvA, List.mapM_cons, List.mapM_nil, Option.pure_def, Option.bind_eq_bind, Option.bind_some, Option.map_some, mkE_cons, mk_nil, mkO_cons, mkO_nil, loadA, ↓reduceIte, List.take_succ_cons, List.take_zero, List.drop_zero, List.drop_succ_cons, List.length_cons, List.length_nil, Nat.reduceAdd, Nat.reduceEqDiff, Nat.reduceLeDiff, Nat.zero_add, Nat.le_refl, reduceCtorEq, SV.tr, SV.trL, nmF, rn_nil, rn_cons1, rn_cons2, List.map_cons, List.map_nil, List.all_cons, List.all_nil, plainOb, SV.refsL, SV.refs, Ob.refs, X, F, List.range_succ, List.range_zero, List.nil_append, List.cons_append, List.isEmpty_nil, decide_true, Nat.reduceLT, Bool.and_self, Bool.and_true, and_self, and_true, List.getElem?_cons_zero, List.getElem?_cons_succ, List.nodup_cons, List.nodup_nil, List.mem_cons, List.not_mem_nil, not_false_eq_true, or_false, List.append_nil, mkO, setO_mk, List.mem_singleton]) (by simp [retA, rvA, List.mapM_cons, List.mapM_nil, Option.pure_def, Option.bind_eq_bind, Option.bind_some, Option.map_some, mkE_cons, mk_nil, mkO_cons, mkO_nil, loadA, ↓reduceIte, List.take_succ_cons, List.take_zero, List.drop_zero, List.drop_succ_cons, List.length_cons, List.length_nil, Nat.reduceAdd, Nat.reduceEqDiff, Nat.reduceLeDiff, Nat.zero_add, Nat.le_refl, reduceCtorEq, SV.tr, SV.trL, nmF, rn_nil, rn_cons1, rn_cons2, List.map_cons, List.map_nil, List.all_cons, List.all_nil, plainOb, SV.refsL, SV.refs, Ob.refs, X, F, List.range_succ, List.range_zero, List.nil_append, List.cons_append, List.isEmpty_nil, decide_true, Nat.reduceLT, Bool.and_self, Bool.and_true, and_self, and_true, List.getElem?_cons_zero, List.getElem?_cons_succ, List.nodup_cons, List.nodup_nil, List.mem_cons, List.not_mem_nil, not_false_eq_true, or_false, List.append_nil, mkO, setO_mk, List.mem_singleton])
  · rename_i hb
    simp only [Option.some.injEq, Prod.mk.injEq] at h
    obtain ⟨rfl, rfl⟩ := h
    cases h1 : isSt l m with
    | false =>
      refine is.go hm hΓ k_OneWayState o_OneWayState (by simp [a_OneWayState]) ?_
      simp only [a_OneWayState, h_IsState, c_IsState, h_isQuestion, c_isQuestion, h_answeredOneWay, c_answeredOneWay, hc, h1, List.zipIdx_cons, List.zipIdx_nil, ↓SP, SQ, Gam.add, stepM, callC, argC, lendO, nmBy, nmC, likeL, likeB, plainOb, offs, X, F, trP, trO, stepD, stepW, newA, SV.tr, SV.trL, fz, allP, Ob.tr, loadA, cellsA, SV.cells, binA, binI, eqOut, isSl, isPt, natOf, callee, snap, SV.refsL, SV.refs, thaw, fzAll, loA, hiA, elemOf, partsA, buildA, putCells, ↓reduceIte, reduceCtorEq, okCell, Nat.reduceAdd, Nat.reduceEqDiff, Nat.reduceSub, Nat.reduceMul, Nat.reduceLeDiff, Nat.reduceLT, Nat.reduceBEq, PV.scal, PV.scalL, SV.scal, SV.scalL, Ob.scal, PV.isCell, pure', resO]
      exact finA_gen [] trivial (by simp [retA, rvA, List.mapM_cons, List.mapM_nil, Option.pure_def, Option.bind_eq_bind, Option.bind_some, Option.map_some, mkE_cons, mk_nil, mkO_cons, mkO_nil, loadA, ↓reduceIte, List.take_succ_cons, List.take_zero, List.drop_zero, List.drop_succ_cons, List.length_cons, List.length_nil, Nat.reduceAdd, Nat.reduceEqDiff, Nat.reduceLeDiff, Nat.zero_add, Nat.le_refl, reduceCtorEq, SV.tr, SV.trL, nmF, rn_nil, rn_cons1, rn_cons2, List.map_cons, List.map_nil, List.all_cons, List.all_nil, plainOb, SV.refsL, SV.refs, Ob.refs, X, F, List.range_succ, List.range_zero, List.nil_append, List.cons_append, List.isEmpty_nil, decide_true, Nat.reduceLT, Bool.and_self, Bool.and_true, and_self, and_true, List.getElem?_cons_zero, List.getElem?_cons_succ, List.nodup_cons, List.nodup_nil, List.mem_cons, List.not_mem_nil, not_false_eq_true, or_false, List.append_nil, mkO, setO_mk, List.mem_singleton]; rfl) (by simp [retA, rvA, List.mapM_cons, List.mapM_nil, Option.pure_def, Option.bind_eq_bind, Option.bind_some, Option.map_some, mkE_cons, mk_nil, mkO_cons, mkO_nil, loadA, ↓reduceIte, List.take_succ_cons, List.take_zero, List.drop_zero, List.drop_succ_cons, List.length_cons, List.length_nil, Nat.reduceAdd, Nat.reduceEqDiff, Nat.reduceLeDiff, Nat.zero_add, Nat.le_refl, reduceCtorEq, SV.tr, SV.trL, nmF, rn_nil, rn_cons1, rn_cons2, List.map_cons, List.map_nil, List.all_cons, List.all_nil, plainOb, SV.refsL, SV.refs, Ob.refs, X, F, List.range_succ, List.range_zero, List.nil_append, List.cons_append, List.isEmpty_nil, decide_true, Nat.reduceLT, Bool.and_self, Bool.and_true, and_self, and_true, List.getElem?_cons_zero, List.getElem?_cons_succ, List.nodup_cons, List.nodup_nil, List.mem_cons, List.not_mem_nil, not_false_eq_true, or_false, List.append_nil, mkO, setO_mk, List.mem_singleton]) (by simp [retA, rvA, List.mapM_cons, List.mapM_nil, Option.pure_def, Option.bind_eq_bind, Option.bind_some, Option.map_some, mkE_cons, mk_nil, mkO_cons, mkO_nil, loadA, ↓reduceIte, List.take_succ_cons, List.take_zero, List.drop_zero, List.drop_succ_cons, List.length_cons, List.length_nil, Nat.reduceAdd, Nat.reduceEqDiff, Nat.reduceLeDiff, Nat.zero_add, Nat.le_refl, reduceCtorEq, SV.tr, SV.trL, nmF, rn_nil, rn_cons1, rn_cons2, List.map_cons, List.map_nil, List.all_cons, List.all_nil, plainOb, SV.refsL, SV.refs, Ob.refs, X, F, List.range_succ, List.range_zero, List.nil_append, List.cons_append, List.isEmpty_nil, decide_true, Nat.reduceLT, Bool.and_self, Bool.and_true, and_self, and_true, List.getElem?_cons_zero, List.getElem?_cons_succ, List.nodup_cons, List.nodup_nil, List.mem_cons, List.not_mem_nil, not_false_eq_true, or_false, List.append_nil, mkO, setO_mk, List.mem_singleton]) (by simp) (by simp) (by simp [retA, rvA, List.mapM_cons, List.mapM_nil, Option.pure_def, Option.bind_eq_bind, Option.bind_some, Option.map_some, mkE_cons, mk_nil, mkO_cons, mkO_nil, loadA, ↓reduceIte, List.take_succ_cons, List.take_zero, List.drop_zero, List.drop_succ_cons, List.length_cons, List.length_nil, Nat.reduceAdd, Nat.reduceEqDiff, Nat.reduceLeDiff, Nat.zero_add, Nat.le_refl, reduceCtorEq, SV.tr, SV.trL, nmF, rn_nil, rn_cons1, rn_cons2, List.map_cons, List.map_nil, List.all_cons, List.all_nil, plainOb, SV.refsL, SV.refs, Ob.refs, X, F, List.range_succ, List.range_zero, List.nil_append, List.cons_append, List.isEmpty_nil, decide_true, Nat.reduceLT, Bool.and_self, Bool.and_true, and_self, and_true, List.getElem?_cons_zero, List.getElem?_cons_succ, List.nodup_cons, List.nodup_nil, List.mem_cons, List.not_mem_nil, not_false_eq_true, or_false, List.append_nil, mkO, setO_mk, List.mem_singleton]) (by simp [retA, rvA, List.mapM_cons, List.mapM_nil, Option.pure_def, Option.bind_eq_bind, Option.bind_some, Option.map_some, mkE_cons, mk_nil, mkO_cons, mkO_nil, loadA, ↓reduceIte, List.take_succ_cons, List.take_zero, List.drop_zero, List.drop_succ_cons, List.length_cons, List.length_nil, Nat.reduceAdd, Nat.reduceEqDiff, Nat.reduceLeDiff, Nat.zero_add, Nat.le_refl, reduceCtorEq, SV.tr, SV.trL, nmF, rn_nil, rn_cons1, rn_cons2, List.map_cons, List.map_nil, List.all_cons, List.all_nil, plainOb, SV.refsL, SV.refs, Ob.refs, X, F, List.range_succ, List.range_zero, List.nil_append, List.cons_append, List.isEmpty_nil, decide_true, Nat.reduceLT, Bool.and_self, Bool.and_true, and_self, and_true, List.getElem?_cons_zero, List.getElem?_cons_succ, List.nodup_cons, List.nodup_nil, List.mem_cons, List.not_mem_nil, not_false_eq_true, or_false, List.append_nil, mkO, setO_mk, List.mem_singleton]) (by simp [retA, rvA, List.mapM_cons, List.mapM_nil, Option.pure_def, Option.bind_eq_bind, Option.bind_some, Option.map_some, mkE_cons, mk_nil, mkO_cons, mkO_nil, loadA, ↓reduceIte, List.take_succ_cons, List.take_zero, List.drop_zero, List.drop_succ_cons, List.length_cons, List.length_nil, Nat.reduceAdd, Nat.reduceEqDiff, Nat.reduceLeDiff, Nat.zero_add, Nat.le_refl, reduceCtorEq, SV.tr, SV.trL, nmF, rn_nil, rn_cons1, rn_cons2, List.map_cons, List.map_nil, List.all_cons, List.all_nil, plainOb, SV.refsL, SV.refs, Ob.refs, X, F, List.range_succ, List.range_zero, List.nil_append, List.cons_append, List.isEmpty_nil, decide_true, Nat.reduceLT, Bool.and_self, Bool.and_true, and_self, and_true, List.getElem?_cons_zero, List.getElem?_cons_succ, List.nodup_cons, List.nodup_nil, List.mem_cons, List.not_mem_nil, not_false_eq_true, or_false, List.append_nil, mkO, setO_mk, List.mem_singleton])
    | true =>
      have h2 : isQ l.length q = false := by simpa [h1] using hb
      refine is.go hm hΓ k_OneWayState o_OneWayState (by simp [a_OneWayState]) ?_
      simp only [a_OneWayState, h_IsState, c_IsState, h_isQuestion, c_isQuestion, h_answeredOneWay, c_answeredOneWay, hc, h1, h2, List.zipIdx_cons, List.zipIdx_nil, ↓SP, SQ, Gam.add, stepM, callC, argC, lendO, nmBy, nmC, likeL, likeB, plainOb, offs, X, F, trP, trO, stepD, stepW, newA, SV.tr, SV.trL, fz, allP, Ob.tr, loadA, cellsA, SV.cells, binA, binI, eqOut, isSl, isPt, natOf, callee, snap, SV.refsL, SV.refs, thaw, fzAll, loA, hiA, elemOf, partsA, buildA, putCells, ↓reduceIte, reduceCtorEq, okCell, Nat.reduceAdd, Nat.reduceEqDiff, Nat.reduceSub, Nat.reduceMul, Nat.reduceLeDiff, Nat.reduceLT, Nat.reduceBEq, PV.scal, PV.scalL, SV.scal, SV.scalL, Ob.scal, PV.isCell, pure', resO]
      exact finA_gen [] trivial (by simp [retA, rvA, List.mapM_cons, List.mapM_nil, Option.pure_def, Option.bind_eq_bind, Option.bind_some, Option.map_some, mkE_cons, mk_nil, mkO_cons, mkO_nil, loadA, ↓reduceIte, List.take_succ_cons, List.take_zero, List.drop_zero, List.drop_succ_cons, List.length_cons, List.length_nil, Nat.reduceAdd, Nat.reduceEqDiff, Nat.reduceLeDiff, Nat.zero_add, Nat.le_refl, reduceCtorEq, SV.tr, SV.trL, nmF, rn_nil, rn_cons1, rn_cons2, List.map_cons, List.map_nil, List.all_cons, List.all_nil, plainOb, SV.refsL, SV.refs, Ob.refs, X, F, List.range_succ, List.range_zero, List.nil_append, List.cons_append, List.isEmpty_nil, decide_true, Nat.reduceLT, Bool.and_self, Bool.and_true, and_self, and_true, List.getElem?_cons_zero, List.getElem?_cons_succ, List.nodup_cons, List.nodup_nil, List.mem_cons, List.not_mem_nil, not_false_eq_true, or_false, List.append_nil, mkO, setO_mk, List.mem_singleton]; rfl) (by simp [retA, rvA, List.mapM_cons, List.mapM_nil, Option.pure_def, Option.bind_eq_bind, Option.bind_some, Option.map_some, mkE_cons, mk_nil, mkO_cons, mkO_nil, loadA, ↓reduceIte, List.take_succ_cons, List.take_zero, List.drop_zero, List.drop_succ_cons, List.length_cons, List.length_nil, Nat.reduceAdd, Nat.reduceEqDiff, Nat.reduceLeDiff, Nat.zero_add, Nat.le_refl, reduceCtorEq, SV.tr, SV.trL, nmF, rn_nil, rn_cons1, rn_cons2, List.map_cons, List.map_nil, List.all_cons, List.all_nil, plainOb, SV.refsL, SV.refs, Ob.refs, X, F, List.range_succ, List.range_zero, List.nil_append, List.cons_append, List.isEmpty_nil, decide_true, Nat.reduceLT, Bool.and_self, Bool.and_true, and_self, and_true, List.getElem?_cons_zero, List.getElem?_cons_succ, List.nodup_cons, List.nodup_nil, List.mem_cons, List.not_mem_nil, not_false_eq_true, or_false, List.append_nil, mkO, setO_mk, List.mem_singleton]) (by simp [retA, rvA, List.mapM_cons, List.mapM_nil, Option.pure_def, Option.bind_eq_bind, Option.bind_some, Option.map_some, mkE_cons, mk_nil, mkO_cons, mkO_nil, loadA, ↓reduceIte, List.take_succ_cons, List.take_zero, List.drop_zero, List.drop_succ_cons, List.length_cons, List.length_nil, Nat.reduceAdd, Nat.reduceEqDiff, Nat.reduceLeDiff, Nat.zero_add, Nat.le_refl, reduceCtorEq, SV.tr, SV.trL, nmF, rn_nil, rn_cons1, rn_cons2, List.map_cons, List.map_nil, List.all_cons, List.all_nil, plainOb, SV.refsL, SV.refs, Ob.refs, X, F, List.range_succ, List.range_zero, List.nil_append, List.cons_append, List.isEmpty_nil, decide_true, Nat.reduceLT, Bool.and_self, Bool.and_true, and_self, and_true, List.getElem?_cons_zero, List.getElem?_cons_succ, List.nodup_cons, List.nodup_nil, List.mem_cons, List.not_mem_nil, not_false_eq_true, or_false, List.append_nil, mkO, setO_mk, List.mem_singleton]) (by simp) (by simp) (by simp [retA, rvA, List.mapM_cons, List.mapM_nil, Option.pure_def, Option.bind_eq_bind, Option.bind_some, Option.map_some, mkE_cons, mk_nil, mkO_cons, mkO_nil, loadA, ↓reduceIte, List.take_succ_cons, List.take_zero, List.drop_zero, List.drop_succ_cons, List.length_cons, List.length_nil, Nat.reduceAdd, Nat.reduceEqDiff, Nat.reduceLeDiff, Nat.zero_add, Nat.le_refl, reduceCtorEq, SV.tr, SV.trL, nmF, rn_nil, rn_cons1, rn_cons2, List.map_cons, List.map_nil, List.all_cons, List.all_nil, plainOb, SV.refsL, SV.refs, Ob.refs, X, F, List.range_succ, List.range_zero, List.nil_append, List.cons_append, List.isEmpty_nil, decide_true, Nat.reduceLT, Bool.and_self, Bool.and_true, and_self, and_true, List.getElem?_cons_zero, List.getElem?_cons_succ, List.nodup_cons, List.nodup_nil, List.mem_cons, List.not_mem_nil, not_false_eq_true, or_false, List.append_nil, mkO, setO_mk, List.mem_singleton]) (by simp [retA, rvA, List.mapM_cons, List.mapM_nil, Option.pure_def, Option.bind_eq_bind, Option.bind_some, Option.map_some, mkE_cons, mk_nil, mkO_cons, mkO_nil, loadA, ↓reduceIte, List.take_succ_cons, List.take_zero, List.drop_zero, List.drop_succ_cons, List.length_cons, List.length_nil, Nat.reduceAdd, Nat.reduceEqDiff, Nat.reduceLeDiff, Nat.zero_add, Nat.le_refl, reduceCtorEq, SV.tr, SV.trL, nmF, rn_nil, rn_cons1, rn_cons2, List.map_cons, List.map_nil, List.all_cons, List.all_nil, plainOb, SV.refsL, SV.refs, Ob.refs, X, F, List.range_succ, List.range_zero, List.nil_append, List.cons_append, List.isEmpty_nil, decide_true, Nat.reduceLT, Bool.and_self, Bool.and_true, and_self, and_true, List.getElem?_cons_zero, List.getElem?_cons_succ, List.nodup_cons, List.nodup_nil, List.mem_cons, List.not_mem_nil, not_false_eq_true, or_false, List.append_nil, mkO, setO_mk, List.mem_singleton]) (by simp [retA, rvA, List.mapM_cons, List.mapM_nil, Option.pure_def, Option.bind_eq_bind, Option.bind_some, Option.map_some, mkE_cons, mk_nil, mkO_cons, mkO_nil, loadA, ↓reduceIte, List.take_succ_cons, List.take_zero, List.drop_zero, List.drop_succ_cons, List.length_cons, List.length_nil, Nat.reduceAdd, Nat.reduceEqDiff, Nat.reduceLeDiff, Nat.zero_add, Nat.le_refl, reduceCtorEq, SV.tr, SV.trL, nmF, rn_nil, rn_cons1, rn_cons2, List.map_cons, List.map_nil, List.all_cons, List.all_nil, plainOb, SV.refsL, SV.refs, Ob.refs, X, F, List.range_succ, List.range_zero, List.nil_append, List.cons_append, List.isEmpty_nil, decide_true, Nat.reduceLT, Bool.and_self, Bool.and_true, and_self, and_true, List.getElem?_cons_zero, List.getElem?_cons_succ, List.nodup_cons, List.nodup_nil, List.mem_cons, List.not_mem_nil, not_false_eq_true, or_false, List.append_nil, mkO, setO_mk, List.mem_singleton])
theorem s_s_OneWayState {P : Program} (hm : P.follows .mixedOrders = true) {Γ : Gam} (hΓ : GS P Γ) {n : FuncId} {f_l2State : FuncId} {f_l2Question : FuncId} {f_l10After : FuncId} (is : Is P n (a_s_OneWayState f_l2State f_l2Question f_l10After)) (h_l2State : Γ f_l2State = c_IsState) (h_l2Question : Γ f_l2Question = c_l2Question) (h_l10After : Γ f_l10After = c_l10After)  : Says P n c_s_OneWayState := by
  refine Says.pure fun args r fs h => ?_
  split at h
  case h_2 => cases h
  rename_i xs m q y
  split at h
  case isFalse => cases h
  rename_i hc
  obtain ⟨hx, hc⟩ := hc
  obtain ⟨l, rfl⟩ := isI_out hx
  rw [ints_len] at hc
  simp only [ofI_ints, ints_len] at h
  split at h
  · rename_i hb
    simp only [Option.some.injEq, Prod.mk.injEq] at h
    obtain ⟨rfl, rfl⟩ := h
    simp only [Bool.and_eq_true] at hb
    have hsm := isSt_small hb.1
    refine is.go hm hΓ k_s_OneWayState o_s_OneWayState (by simp [a_s_OneWayState]) ?_
    simp only [a_s_OneWayState, h_l2State, c_IsState, h_l2Question, c_l2Question, h_l10After, c_l10After, hc, hb.1, hb.2, hsm, List.zipIdx_cons, List.zipIdx_nil, ↓SP, SQ, Gam.add, stepM, callC, argC, lendO, nmBy, nmC, likeL, likeB, plainOb, offs, X, F, trP, trO, stepD, stepW, newA, SV.tr, SV.trL, fz, allP, Ob.tr, loadA, cellsA, SV.cells, binA, binI, eqOut, isSl, isPt, natOf, callee, snap, SV.refsL, SV.refs, thaw, fzAll, loA, hiA, elemOf, partsA, buildA, putCells, ↓reduceIte, reduceCtorEq, okCell, Nat.reduceAdd, Nat.reduceEqDiff, Nat.reduceSub, Nat.reduceMul, Nat.reduceLeDiff, Nat.reduceLT, Nat.reduceBEq, PV.scal, PV.scalL, SV.scal, SV.scalL, Ob.scal, PV.isCell, pure', resO]
    exact finA_val (by simp [retA, rvA, List.mapM_cons, List.mapM_nil, Option.pure_def, Option.bind_eq_bind, Option.bind_some, Option.map_some, mkE_cons, mk_nil, mkO_cons, mkO_nil, loadA, ↓reduceIte, List.take_succ_cons, List.take_zero, List.drop_zero, List.drop_succ_cons, List.length_cons, List.length_nil, Nat.reduceAdd, Nat.reduceEqDiff, Nat.reduceLeDiff, Nat.zero_add, Nat.le_refl, reduceCtorEq, SV.tr, SV.trL, nmF, rn_nil, rn_cons1, rn_cons2, List.map_cons, List.map_nil, List.all_cons, List.all_nil, plainOb, SV.refsL, SV.refs, Ob.refs, X, F, List.range_succ, List.range_zero, List.nil_append, List.cons_append, List.isEmpty_nil, decide_true, Nat.reduceLT, Bool.and_self, Bool.and_true, and_self, and_true, List.getElem?_cons_zero, List.getElem?_cons_succ, List.nodup_cons, List.nodup_nil, List.mem_cons, List.not_mem_nil, not_false_eq_true, or_false, List.append_nil, mkO, setO_mk, List.mem_singleton]) (by simp [SV.tr, SV.trL])
  · rename_i hb
    simp only [Option.some.injEq, Prod.mk.injEq] at h
    obtain ⟨rfl, rfl⟩ := h
    cases h1 : isSt l m with
    | false =>
      refine is.go hm hΓ k_s_OneWayState o_s_OneWayState (by simp [a_s_OneWayState]) ?_
      simp only [a_s_OneWayState, h_l2State, c_IsState, h_l2Question, c_l2Question, h_l10After, c_l10After, hc, h1, List.zipIdx_cons, List.zipIdx_nil, ↓SP, SQ, Gam.add, stepM, callC, argC, lendO, nmBy, nmC, likeL, likeB, plainOb, offs, X, F, trP, trO, stepD, stepW, newA, SV.tr, SV.trL, fz, allP, Ob.tr, loadA, cellsA, SV.cells, binA, binI, eqOut, isSl, isPt, natOf, callee, snap, SV.refsL, SV.refs, thaw, fzAll, loA, hiA, elemOf, partsA, buildA, putCells, ↓reduceIte, reduceCtorEq, okCell, Nat.reduceAdd, Nat.reduceEqDiff, Nat.reduceSub, Nat.reduceMul, Nat.reduceLeDiff, Nat.reduceLT, Nat.reduceBEq, PV.scal, PV.scalL, SV.scal, SV.scalL, Ob.scal, PV.isCell, pure', resO]
      exact finA_val (by simp [retA, rvA, List.mapM_cons, List.mapM_nil, Option.pure_def, Option.bind_eq_bind, Option.bind_some, Option.map_some, mkE_cons, mk_nil, mkO_cons, mkO_nil, loadA, ↓reduceIte, List.take_succ_cons, List.take_zero, List.drop_zero, List.drop_succ_cons, List.length_cons, List.length_nil, Nat.reduceAdd, Nat.reduceEqDiff, Nat.reduceLeDiff, Nat.zero_add, Nat.le_refl, reduceCtorEq, SV.tr, SV.trL, nmF, rn_nil, rn_cons1, rn_cons2, List.map_cons, List.map_nil, List.all_cons, List.all_nil, plainOb, SV.refsL, SV.refs, Ob.refs, X, F, List.range_succ, List.range_zero, List.nil_append, List.cons_append, List.isEmpty_nil, decide_true, Nat.reduceLT, Bool.and_self, Bool.and_true, and_self, and_true, List.getElem?_cons_zero, List.getElem?_cons_succ, List.nodup_cons, List.nodup_nil, List.mem_cons, List.not_mem_nil, not_false_eq_true, or_false, List.append_nil, mkO, setO_mk, List.mem_singleton]) (by simp [SV.tr, SV.trL])
    | true =>
      have h2 : isQ l.length q = false := by simpa [h1] using hb
      refine is.go hm hΓ k_s_OneWayState o_s_OneWayState (by simp [a_s_OneWayState]) ?_
      simp only [a_s_OneWayState, h_l2State, c_IsState, h_l2Question, c_l2Question, h_l10After, c_l10After, hc, h1, h2, List.zipIdx_cons, List.zipIdx_nil, ↓SP, SQ, Gam.add, stepM, callC, argC, lendO, nmBy, nmC, likeL, likeB, plainOb, offs, X, F, trP, trO, stepD, stepW, newA, SV.tr, SV.trL, fz, allP, Ob.tr, loadA, cellsA, SV.cells, binA, binI, eqOut, isSl, isPt, natOf, callee, snap, SV.refsL, SV.refs, thaw, fzAll, loA, hiA, elemOf, partsA, buildA, putCells, ↓reduceIte, reduceCtorEq, okCell, Nat.reduceAdd, Nat.reduceEqDiff, Nat.reduceSub, Nat.reduceMul, Nat.reduceLeDiff, Nat.reduceLT, Nat.reduceBEq, PV.scal, PV.scalL, SV.scal, SV.scalL, Ob.scal, PV.isCell, pure', resO]
      exact finA_val (by simp [retA, rvA, List.mapM_cons, List.mapM_nil, Option.pure_def, Option.bind_eq_bind, Option.bind_some, Option.map_some, mkE_cons, mk_nil, mkO_cons, mkO_nil, loadA, ↓reduceIte, List.take_succ_cons, List.take_zero, List.drop_zero, List.drop_succ_cons, List.length_cons, List.length_nil, Nat.reduceAdd, Nat.reduceEqDiff, Nat.reduceLeDiff, Nat.zero_add, Nat.le_refl, reduceCtorEq, SV.tr, SV.trL, nmF, rn_nil, rn_cons1, rn_cons2, List.map_cons, List.map_nil, List.all_cons, List.all_nil, plainOb, SV.refsL, SV.refs, Ob.refs, X, F, List.range_succ, List.range_zero, List.nil_append, List.cons_append, List.isEmpty_nil, decide_true, Nat.reduceLT, Bool.and_self, Bool.and_true, and_self, and_true, List.getElem?_cons_zero, List.getElem?_cons_succ, List.nodup_cons, List.nodup_nil, List.mem_cons, List.not_mem_nil, not_false_eq_true, or_false, List.append_nil, mkO, setO_mk, List.mem_singleton]) (by simp [SV.tr, SV.trL])
def a_toAsked : AFn := ⟨1, 
  .seq (.reg [⟨some 1, none, .w (.box 2 (.t 0))⟩,
    ⟨some 2, none, .w (.alloc [.int .i64 0, .bool false])⟩])
  (.seq (.reg [⟨some 3, none, .w (.alloc [.int .i64 0, .bool false])⟩])
  (.seq (.reg [⟨some 4, none, .d (.fa 0 (.t 1))⟩,
    ⟨some 5, none, .d (.load false 1 (.t 4))⟩,
    ⟨some 6, none, .d (.fa 0 (.t 3))⟩,
    ⟨none, none, .w (.store 1 (.t 6) (.t 5))⟩])
  (.seq (.reg [⟨some 7, none, .d (.fa 1 (.t 1))⟩,
    ⟨some 8, none, .d (.load false 1 (.t 7))⟩,
    ⟨some 9, none, .d (.fa 1 (.t 3))⟩,
    ⟨none, none, .w (.store 1 (.t 9) (.t 8))⟩])
  (.seq (.reg [⟨some 10, none, .d (.load true 2 (.t 3))⟩,
    ⟨none, none, .w (.store 2 (.t 2) (.t 10))⟩])
  (.ret))))), [.cell 2 2 true]⟩
def n_toAsked : Nat → Option Ann := fun _ => none
abbrev k_toAsked : List Nat := [0, 1, 2, 3]
abbrev o_toAsked : List Nat := [1, 2, 3]
def c_toAsked : Con := pure' fun
  | [.p (.agg [.int .i64 q, .bool y])] => if (True) then some (.ag [.p (.int .i64 q), .p (.bool y)], []) else none
  | _ => none
theorem s_toAsked {P : Program} (hm : P.follows .mixedOrders = true) {Γ : Gam} (hΓ : GS P Γ) {n : FuncId} (is : Is P n a_toAsked)  : Says P n c_toAsked := by
  refine Says.pure fun args r fs h => ?_
  split at h
  case h_2 => cases h
  rename_i q y
  split at h
  case isFalse => cases h
  rename_i hc
  simp only [ofI_ints, ofBo_bools, ofAs_asks, Option.some.injEq, Prod.mk.injEq] at h hc
  obtain ⟨rfl, rfl⟩ := h
  refine is.go hm hΓ k_toAsked o_toAsked (by simp [a_toAsked]) ?_
  simp only [a_toAsked, List.zipIdx_cons, List.zipIdx_nil, ↓SP, SQ, Gam.add, stepM, callC, argC, lendO, nmBy, nmC, likeL, likeB, plainOb, offs, X, F, trP, trO, stepD, stepW, newA, SV.tr, SV.trL, fz, allP, Ob.tr, loadA, cellsA, SV.cells, binA, binI, eqOut, isSl, isPt, natOf, callee, snap, SV.refsL, SV.refs, thaw, fzAll, loA, hiA, elemOf, partsA, buildA, putCells, ↓reduceIte, reduceCtorEq, okCell, Nat.reduceAdd, Nat.reduceEqDiff, Nat.reduceSub, Nat.reduceMul, Nat.reduceLeDiff, Nat.reduceLT, Nat.reduceBEq, PV.scal, PV.scalL, SV.scal, SV.scalL, Ob.scal, PV.isCell, pure', resO]
  exact finA_val (by simp [retA, rvA, List.mapM_cons, List.mapM_nil, Option.pure_def, Option.bind_eq_bind, Option.bind_some, Option.map_some, mkE_cons, mk_nil, mkO_cons, mkO_nil, loadA, ↓reduceIte, List.take_succ_cons, List.take_zero, List.drop_zero, List.drop_succ_cons, List.length_cons, List.length_nil, Nat.reduceAdd, Nat.reduceEqDiff, Nat.reduceLeDiff, Nat.zero_add, Nat.le_refl, reduceCtorEq, SV.tr, SV.trL, nmF, rn_nil, rn_cons1, rn_cons2, List.map_cons, List.map_nil, List.all_cons, List.all_nil, plainOb, SV.refsL, SV.refs, Ob.refs, X, F, List.range_succ, List.range_zero, List.nil_append, List.cons_append, List.isEmpty_nil, decide_true, Nat.reduceLT, Bool.and_self, Bool.and_true, and_self, and_true, List.getElem?_cons_zero, List.getElem?_cons_succ, List.nodup_cons, List.nodup_nil, List.mem_cons, List.not_mem_nil, not_false_eq_true, or_false, List.append_nil, mkO, setO_mk, List.mem_singleton]) (by simp [SV.tr, SV.trL])
def a_x_OneWayState (f_szState : FuncId) (f_toState : FuncId) (f_toAsked : FuncId) (f_s_OneWayState : FuncId) (f_OneWayState : FuncId) (f_eqState : FuncId) (f_markState : FuncId) (f_heldState : FuncId) : AFn := ⟨2, 
  .seq (.reg [⟨some 2, none, .w (.box 2 (.t 0))⟩,
    ⟨some 3, none, .w (.box 2 (.t 1))⟩,
    ⟨some 4, none, .d (.mv (.c (.bool false)))⟩])
  (.seq (.reg [⟨some 5, none, .d (.mv (.c (.int .i64 1048576)))⟩])
  (.seq (.reg [⟨some 16, none, .d (.load true 2 (.t 2))⟩,
    ⟨some 17, none, .d (.mv (.t 5))⟩,
    ⟨some 18, none, .d (.call (.f f_szState) [(.t 16), (.t 17)])⟩,
    ⟨some 5, none, .d (.mv (.t 18))⟩])
  (.seq (.seq (.reg [⟨some 19, none, .d (.mv (.t 5))⟩,
    ⟨some 20, none, .d (.bin .arith .lss (.t 19) (.c (.int .i64 0)))⟩])
  (.cond (.t 20) (.seq (.reg [⟨some 4, none, .d (.mv (.c (.bool true)))⟩])
   (.ret)) (.skip)))
  (.seq (.dreg [6] [([6], ⟨some 22, none, .d (.load true 2 (.t 2))⟩),
    ([6], ⟨some 23, none, .d (.call (.f f_toState) [(.t 22)])⟩),
    ([6], ⟨some 24, none, .d (.load true 2 (.t 3))⟩),
    ([6], ⟨some 25, none, .d (.call (.f f_toAsked) [(.t 24)])⟩),
    ([6], ⟨some 26, none, .d (.call (.f f_s_OneWayState) [(.t 23), (.t 25)])⟩),
    ([6], ⟨some 21, none, .d (.mv (.t 26))⟩),
    ([6], ⟨some 27, none, .d (.extract (.t 21) 0)⟩),
    ([6], ⟨some 28, none, .d (.extract (.t 21) 1)⟩),
    ([], ⟨some 6, none, .w (.alloc [.nilsl, .int .i64 0])⟩),
    ([], ⟨none, none, .w (.store 2 (.t 6) (.t 27))⟩)] [⟨some 7, none, .d (.mv (.t 28))⟩])
  (.seq (.reg [⟨some 29, none, .d (.load true 2 (.t 2))⟩,
    ⟨some 30, none, .w (.callL (.f f_toState) [(.t 29)] [] 1 false)⟩,
    ⟨some 8, none, .w (.alloc [.nilsl, .int .i64 0])⟩,
    ⟨none, none, .w (.store 2 (.t 8) (.t 30))⟩])
  (.seq (.dreg [35, 9] [([35, 9], ⟨some 32, none, .d (.load true 2 (.t 8))⟩),
    ([35, 9], ⟨some 33, none, .d (.load true 2 (.t 3))⟩),
    ([35, 9], ⟨some 34, none, .d (.call (.f f_toAsked) [(.t 33)])⟩),
    ([9], ⟨some 35, none, .w (.callL (.f f_OneWayState) [(.t 32), (.t 34)] [] 1 false)⟩),
    ([9], ⟨some 31, none, .d (.mv (.t 35))⟩),
    ([9], ⟨some 36, none, .d (.extract (.t 31) 0)⟩),
    ([9], ⟨some 37, none, .d (.extract (.t 31) 1)⟩),
    ([35], ⟨some 9, none, .w (.alloc [.nilsl, .int .i64 0])⟩),
    ([], ⟨none, none, .w (.store 2 (.t 9) (.t 36))⟩)] [⟨some 10, none, .d (.mv (.t 37))⟩])
  (.seq (.seq (.reg [⟨some 38, none, .d (.load true 2 (.t 9))⟩,
    ⟨some 39, none, .d (.load true 2 (.t 6))⟩,
    ⟨some 40, none, .d (.call (.f f_eqState) [(.t 38), (.t 39)])⟩,
    ⟨some 41, none, .d (.not (.t 40))⟩,
    ⟨some 42, none, .d (.mv (.t 41))⟩,
    ⟨some 43, some (42, false), .d (.mv (.t 10))⟩,
    ⟨some 44, some (42, false), .d (.mv (.t 7))⟩,
    ⟨some 45, some (42, false), .d (.bin .bool .neq (.t 43) (.t 44))⟩,
    ⟨some 46, none, .d (.pick (.t 42) (.c (.bool true)) (.t 45))⟩])
  (.cond (.t 46) (.seq (.reg [⟨some 4, none, .d (.mv (.c (.bool false)))⟩])
   (.ret)) (.skip)))
  (.seq (.seq (.dreg [] [([], ⟨some 47, none, .d (.load true 2 (.t 8))⟩),
    ([], ⟨some 48, none, .d (.load true 2 (.t 2))⟩),
    ([], ⟨some 49, none, .d (.call (.f f_toState) [(.t 48)])⟩)] [⟨some 50, none, .d (.call (.f f_eqState) [(.t 47), (.t 49)])⟩,
    ⟨some 51, none, .d (.not (.t 50))⟩])
  (.cond (.t 51) (.seq (.reg [⟨some 4, none, .d (.mv (.c (.bool false)))⟩])
   (.ret)) (.skip)))
  (.seq (.reg [⟨some 11, none, .d (.mv (.c (.int .i64 1)))⟩])
  (.seq (.reg [⟨some 52, none, .d (.load true 2 (.t 8))⟩,
    ⟨some 53, none, .d (.mv (.t 11))⟩,
    ⟨some 54, none, .w (.callL (.f f_markState) [(.t 52), (.t 53)] [30] 0 false)⟩,
    ⟨some 11, none, .d (.mv (.t 54))⟩])
  (.seq (.seq (.reg [⟨some 55, none, .d (.mv (.t 11))⟩,
    ⟨some 56, none, .d (.bin .arith .lss (.t 55) (.c (.int .i64 0)))⟩,
    ⟨some 57, none, .d (.mv (.t 56))⟩,
    ⟨some 58, some (57, false), .d (.load true 2 (.t 9))⟩,
    ⟨some 59, some (57, false), .d (.load true 2 (.t 6))⟩,
    ⟨some 60, some (57, false), .d (.call (.f f_eqState) [(.t 58), (.t 59)])⟩,
    ⟨some 61, some (57, false), .d (.not (.t 60))⟩,
    ⟨some 62, none, .d (.pick (.t 57) (.c (.bool true)) (.t 61))⟩,
    ⟨some 63, none, .d (.mv (.t 62))⟩,
    ⟨some 64, some (63, false), .d (.mv (.t 10))⟩,
    ⟨some 65, some (63, false), .d (.mv (.t 7))⟩,
    ⟨some 66, some (63, false), .d (.bin .bool .neq (.t 64) (.t 65))⟩,
    ⟨some 67, none, .d (.pick (.t 63) (.c (.bool true)) (.t 66))⟩])
  (.cond (.t 67) (.seq (.reg [⟨some 4, none, .d (.mv (.c (.bool false)))⟩])
   (.ret)) (.skip)))
  (.seq (.reg [⟨some 12, none, .d (.mv (.c (.int .i64 1)))⟩])
  (.seq (.reg [⟨some 68, none, .d (.load true 2 (.t 9))⟩,
    ⟨some 69, none, .d (.mv (.t 12))⟩,
    ⟨some 70, none, .w (.callL (.f f_markState) [(.t 68), (.t 69)] [35] 0 false)⟩,
    ⟨some 12, none, .d (.mv (.t 70))⟩])
  (.seq (.reg [⟨some 13, none, .d (.mv (.c (.int .i64 1)))⟩])
  (.seq (.reg [⟨some 71, none, .d (.load true 2 (.t 9))⟩,
    ⟨some 72, none, .d (.mv (.t 13))⟩,
    ⟨some 73, none, .d (.call (.f f_heldState) [(.t 71), (.t 72)])⟩,
    ⟨some 13, none, .d (.mv (.t 73))⟩])
  (.seq (.seq (.reg [⟨some 74, none, .d (.mv (.t 13))⟩,
    ⟨some 75, none, .d (.bin .arith .lss (.t 74) (.c (.int .i64 0)))⟩])
  (.cond (.t 75) (.seq (.reg [⟨some 4, none, .d (.mv (.c (.bool false)))⟩])
   (.ret)) (.skip)))
  (.seq (.seq (.reg [⟨some 76, none, .d (.mv (.t 13))⟩,
    ⟨some 77, none, .d (.mv (.t 12))⟩,
    ⟨some 78, none, .d (.bin .arith .neq (.t 76) (.t 77))⟩])
  (.cond (.t 78) (.seq (.reg [⟨some 4, none, .d (.mv (.c (.bool false)))⟩])
   (.ret)) (.skip)))
  (.seq (.dreg [14] [([14], ⟨some 80, none, .d (.load true 2 (.t 2))⟩),
    ([14], ⟨some 81, none, .d (.call (.f f_toState) [(.t 80)])⟩),
    ([14], ⟨some 82, none, .d (.load true 2 (.t 3))⟩),
    ([14], ⟨some 83, none, .d (.call (.f f_toAsked) [(.t 82)])⟩),
    ([14], ⟨some 84, none, .d (.call (.f f_OneWayState) [(.t 81), (.t 83)])⟩),
    ([14], ⟨some 79, none, .d (.mv (.t 84))⟩),
    ([14], ⟨some 85, none, .d (.extract (.t 79) 0)⟩),
    ([14], ⟨some 86, none, .d (.extract (.t 79) 1)⟩),
    ([], ⟨some 14, none, .w (.alloc [.nilsl, .int .i64 0])⟩),
    ([], ⟨none, none, .w (.store 2 (.t 14) (.t 85))⟩)] [⟨some 15, none, .d (.mv (.t 86))⟩])
  (.seq (.seq (.reg [⟨some 87, none, .d (.load true 2 (.t 14))⟩,
    ⟨some 88, none, .d (.load true 2 (.t 6))⟩,
    ⟨some 89, none, .d (.call (.f f_eqState) [(.t 87), (.t 88)])⟩,
    ⟨some 90, none, .d (.not (.t 89))⟩,
    ⟨some 91, none, .d (.mv (.t 90))⟩,
    ⟨some 92, some (91, false), .d (.mv (.t 15))⟩,
    ⟨some 93, some (91, false), .d (.mv (.t 7))⟩,
    ⟨some 94, some (91, false), .d (.bin .bool .neq (.t 92) (.t 93))⟩,
    ⟨some 95, none, .d (.pick (.t 91) (.c (.bool true)) (.t 94))⟩])
  (.cond (.t 95) (.seq (.reg [⟨some 4, none, .d (.mv (.c (.bool false)))⟩])
   (.ret)) (.skip)))
  (.seq (.reg [⟨some 13, none, .d (.mv (.c (.int .i64 1)))⟩])
  (.seq (.reg [⟨some 96, none, .d (.load true 2 (.t 9))⟩,
    ⟨some 97, none, .d (.mv (.t 13))⟩,
    ⟨some 98, none, .d (.call (.f f_heldState) [(.t 96), (.t 97)])⟩,
    ⟨some 13, none, .d (.mv (.t 98))⟩])
  (.seq (.seq (.reg [⟨some 99, none, .d (.mv (.t 13))⟩,
    ⟨some 100, none, .d (.bin .arith .lss (.t 99) (.c (.int .i64 0)))⟩])
  (.cond (.t 100) (.seq (.reg [⟨some 4, none, .d (.mv (.c (.bool false)))⟩])
   (.ret)) (.skip)))
  (.seq (.seq (.reg [⟨some 101, none, .d (.mv (.t 13))⟩,
    ⟨some 102, none, .d (.mv (.t 12))⟩,
    ⟨some 103, none, .d (.bin .arith .neq (.t 101) (.t 102))⟩])
  (.cond (.t 103) (.seq (.reg [⟨some 4, none, .d (.mv (.c (.bool false)))⟩])
   (.ret)) (.skip)))
  (.seq (.reg [⟨some 4, none, .d (.mv (.c (.bool true)))⟩])
  (.ret))))))))))))))))))))))))), [.tmp 4]⟩
def n_x_OneWayState : Nat → Option Ann := fun d => if d = 30 then some ⟨[], 1, false⟩ else if d = 35 then some ⟨[], 1, false⟩ else if d = 54 then some ⟨[30], 0, false⟩ else if d = 70 then some ⟨[35], 0, false⟩ else none
abbrev k_x_OneWayState : List Nat := [0, 1, 2, 3, 4, 5, 6, 7, 8, 9, 10, 11, 12, 13, 14, 15, 20, 46, 51, 67, 75, 78, 95, 100, 103]
abbrev o_x_OneWayState : List Nat := [2, 3, 6, 8, 9, 14, 30, 35]
def c_x_OneWayState : Con := pure' fun
  | [.p (.agg [v, .int .i64 m]), .p (.agg [.int .i64 q, .bool y])] => match slI v with
    | some l => if l.length ≤ 9223372036854775807 then some (.p (.bool true), []) else none
    | none => none
  | _ => none
theorem oneL_len (q : Int) (y : Bool) (m : Int) (l : List Int) : (oneL q y m l).length = l.length := by
  unfold oneL
  cases y
  · simp [afterL]
  · simp
theorem slI_lenP {v : PV} {l : List Int} (h : slI v = some l) : lenP v = some l.length := by
  rcases slI_out h with rfl | ⟨rfl, rfl⟩ <;> simp [lenP, ints_len]
set_option maxRecDepth 100000 in
theorem s_x_OneWayState {P : Program} (hm : P.follows .mixedOrders = true) {Γ : Gam} (hΓ : GS P Γ) {n : FuncId} {f_szState : FuncId} {f_toState : FuncId} {f_toAsked : FuncId} {f_s_OneWayState : FuncId} {f_OneWayState : FuncId} {f_eqState : FuncId} {f_markState : FuncId} {f_heldState : FuncId} (is : Is P n (a_x_OneWayState f_szState f_toState f_toAsked f_s_OneWayState f_OneWayState f_eqState f_markState f_heldState)) (h_szState : Γ f_szState = c_szState) (h_toState : Γ f_toState = c_toState) (h_toAsked : Γ f_toAsked = c_toAsked) (h_s_OneWayState : Γ f_s_OneWayState = c_s_OneWayState) (h_OneWayState : Γ f_OneWayState = c_OneWayState) (h_eqState : Γ f_eqState = c_eqState) (h_markState : Γ f_markState = c_markState) (h_heldState : Γ f_heldState = c_heldState)  : Says P n c_x_OneWayState := by
  refine Says.pure fun args r fs h => ?_
  split at h
  case h_2 => cases h
  rename_i v m q y
  split at h
  case h_2 => cases h
  rename_i l hl
  split at h
  case isFalse => cases h
  rename_i hc
  simp only [Option.some.injEq, Prod.mk.injEq] at h
  obtain ⟨rfl, rfl⟩ := h
  have hlp := slI_lenP hl
  by_cases hk : (1048576 : Int) - (l.length : Int) < 0
  · refine is.go hm hΓ k_x_OneWayState o_x_OneWayState (by simp [a_x_OneWayState]) ?_
    simp only [a_x_OneWayState, h_szState, c_szState, h_toState, c_toState, h_toAsked, c_toAsked, h_s_OneWayState, c_s_OneWayState, h_OneWayState, c_OneWayState, h_eqState, c_eqState, h_markState, c_markState, h_heldState, c_heldState, hlp, hc, hk, Int.reduceLE, Int.reduceNeg, Int.reduceLT, List.zipIdx_cons, List.zipIdx_nil, ↓SP, SQ, Gam.add, stepM, callC, argC, lendO, nmBy, nmC, likeL, likeB, plainOb, offs, X, F, trP, trO, stepD, stepW, newA, SV.tr, SV.trL, fz, allP, Ob.tr, loadA, cellsA, SV.cells, binA, binI, eqOut, isSl, isPt, natOf, callee, snap, SV.refsL, SV.refs, thaw, fzAll, loA, hiA, elemOf, partsA, buildA, putCells, ↓reduceIte, reduceCtorEq, okCell, Nat.reduceAdd, Nat.reduceEqDiff, Nat.reduceSub, Nat.reduceMul, Nat.reduceLeDiff, Nat.reduceLT, Nat.reduceBEq, PV.scal, PV.scalL, SV.scal, SV.scalL, Ob.scal, PV.isCell, pure', resO]
    exact finA_val (by simp [retA, rvA, List.mapM_cons, List.mapM_nil, Option.pure_def, Option.bind_eq_bind, Option.bind_some, Option.map_some, mkE_cons, mk_nil, mkO_cons, mkO_nil, loadA, ↓reduceIte, List.take_succ_cons, List.take_zero, List.drop_zero, List.drop_succ_cons, List.length_cons, List.length_nil, Nat.reduceAdd, Nat.reduceEqDiff, Nat.reduceLeDiff, Nat.zero_add, Nat.le_refl, reduceCtorEq, SV.tr, SV.trL, nmF, rn_nil, rn_cons1, rn_cons2, List.map_cons, List.map_nil, List.all_cons, List.all_nil, plainOb, SV.refsL, SV.refs, Ob.refs, X, F, List.range_succ, List.range_zero, List.nil_append, List.cons_append, List.isEmpty_nil, decide_true, Nat.reduceLT, Bool.and_self, Bool.and_true, and_self, and_true, List.getElem?_cons_zero, List.getElem?_cons_succ, List.nodup_cons, List.nodup_nil, List.mem_cons, List.not_mem_nil, not_false_eq_true, or_false, List.append_nil, mkO, setO_mk, List.mem_singleton]) (by simp [SV.tr, SV.trL])
  · have hlen : l.length ≤ 1048576 := by omega
    have hlen2 : l.length ≤ 1100000 := by omega
    cases hb : (isSt l m && isQ l.length q) with
    | true =>
      have hol := oneL_len q y m l
      have hml := marks_len 1 l.length
      have hhm := held_marks 1 l.length
      have h0 : ¬ (1 : Int) + (l.length : Int) < 0 := by omega
      have hne : ((1 : Int) + (l.length : Int) != 1 + (l.length : Int)) = false := bne_self_eq_false _
      refine is.go hm hΓ k_x_OneWayState o_x_OneWayState (by simp [a_x_OneWayState]) ?_
      simp only [a_x_OneWayState, h_szState, c_szState, h_toState, c_toState, h_toAsked, c_toAsked, h_s_OneWayState, c_s_OneWayState, h_OneWayState, c_OneWayState, h_eqState, c_eqState, h_markState, c_markState, h_heldState, c_heldState, hl, hlp, hc, hk, hlen, hlen2, hb, hol, hml, hhm, h0, hne, Int.reduceLE, Int.reduceNeg, Int.reduceLT, bne_self_eq_false, List.zipIdx_cons, List.zipIdx_nil, ↓SP, SQ, Gam.add, stepM, callC, argC, lendO, nmBy, nmC, likeL, likeB, plainOb, offs, X, F, trP, trO, stepD, stepW, newA, SV.tr, SV.trL, fz, allP, Ob.tr, loadA, cellsA, SV.cells, binA, binI, eqOut, isSl, isPt, natOf, callee, snap, SV.refsL, SV.refs, thaw, fzAll, loA, hiA, elemOf, partsA, buildA, putCells, ↓reduceIte, reduceCtorEq, okCell, Nat.reduceAdd, Nat.reduceEqDiff, Nat.reduceSub, Nat.reduceMul, Nat.reduceLeDiff, Nat.reduceLT, Nat.reduceBEq, PV.scal, PV.scalL, SV.scal, SV.scalL, Ob.scal, PV.isCell, pure', resO]
      exact finA_val (by simp [retA, rvA, List.mapM_cons, List.mapM_nil, Option.pure_def, Option.bind_eq_bind, Option.bind_some, Option.map_some, mkE_cons, mk_nil, mkO_cons, mkO_nil, loadA, ↓reduceIte, List.take_succ_cons, List.take_zero, List.drop_zero, List.drop_succ_cons, List.length_cons, List.length_nil, Nat.reduceAdd, Nat.reduceEqDiff, Nat.reduceLeDiff, Nat.zero_add, Nat.le_refl, reduceCtorEq, SV.tr, SV.trL, nmF, rn_nil, rn_cons1, rn_cons2, List.map_cons, List.map_nil, List.all_cons, List.all_nil, plainOb, SV.refsL, SV.refs, Ob.refs, X, F, List.range_succ, List.range_zero, List.nil_append, List.cons_append, List.isEmpty_nil, decide_true, Nat.reduceLT, Bool.and_self, Bool.and_true, and_self, and_true, List.getElem?_cons_zero, List.getElem?_cons_succ, List.nodup_cons, List.nodup_nil, List.mem_cons, List.not_mem_nil, not_false_eq_true, or_false, List.append_nil, mkO, setO_mk, List.mem_singleton]) (by simp [SV.tr, SV.trL])
    | false =>
      have hml := marks_len 1 l.length
      have h0 : ¬ (1 : Int) + (l.length : Int) < 0 := by omega
      have hh0 : held [] 1 := fun j hj => by simp at hj
      refine is.go hm hΓ k_x_OneWayState o_x_OneWayState (by simp [a_x_OneWayState]) ?_
      simp only [a_x_OneWayState, h_szState, c_szState, h_toState, c_toState, h_toAsked, c_toAsked, h_s_OneWayState, c_s_OneWayState, h_OneWayState, c_OneWayState, h_eqState, c_eqState, h_markState, c_markState, h_heldState, c_heldState, hl, hlp, hc, hk, hlen, hlen2, hb, hml, h0, hh0, Int.reduceLE, Int.reduceNeg, Int.reduceLT, bne_self_eq_false, List.zipIdx_cons, List.zipIdx_nil, ↓SP, SQ, Gam.add, stepM, callC, argC, lendO, nmBy, nmC, likeL, likeB, plainOb, offs, X, F, trP, trO, stepD, stepW, newA, SV.tr, SV.trL, fz, allP, Ob.tr, loadA, cellsA, SV.cells, binA, binI, eqOut, isSl, isPt, natOf, callee, snap, SV.refsL, SV.refs, thaw, fzAll, loA, hiA, elemOf, partsA, buildA, putCells, ↓reduceIte, reduceCtorEq, okCell, Nat.reduceAdd, Nat.reduceEqDiff, Nat.reduceSub, Nat.reduceMul, Nat.reduceLeDiff, Nat.reduceLT, Nat.reduceBEq, PV.scal, PV.scalL, SV.scal, SV.scalL, Ob.scal, PV.isCell, pure', resO]
      exact finA_val (by simp [retA, rvA, List.mapM_cons, List.mapM_nil, Option.pure_def, Option.bind_eq_bind, Option.bind_some, Option.map_some, mkE_cons, mk_nil, mkO_cons, mkO_nil, loadA, ↓reduceIte, List.take_succ_cons, List.take_zero, List.drop_zero, List.drop_succ_cons, List.length_cons, List.length_nil, Nat.reduceAdd, Nat.reduceEqDiff, Nat.reduceLeDiff, Nat.zero_add, Nat.le_refl, reduceCtorEq, SV.tr, SV.trL, nmF, rn_nil, rn_cons1, rn_cons2, List.map_cons, List.map_nil, List.all_cons, List.all_nil, plainOb, SV.refsL, SV.refs, Ob.refs, X, F, List.range_succ, List.range_zero, List.nil_append, List.cons_append, List.isEmpty_nil, decide_true, Nat.reduceLT, Bool.and_self, Bool.and_true, and_self, and_true, List.getElem?_cons_zero, List.getElem?_cons_succ, List.nodup_cons, List.nodup_nil, List.mem_cons, List.not_mem_nil, not_false_eq_true, or_false, List.append_nil, mkO, setO_mk, List.mem_singleton]) (by simp [SV.tr, SV.trL])
end Go.Proofs.Ytnonkjcklgihhaa.Pam
