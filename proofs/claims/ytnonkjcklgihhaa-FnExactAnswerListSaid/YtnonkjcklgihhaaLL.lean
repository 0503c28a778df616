/- A part of the proof that stands in this folder: a small machine whose steps are shown to be the steps of the model, or walks of functions by it. No condition of its own. -/
import Derived.Test.YtnonkjcklgihhaaLK
set_option linter.unusedVariables false
set_option linter.unusedSimpArgs false
namespace Go.Proofs.Ytnonkjcklgihhaa.Pam
open Go
def a_SecretAnswers (f_areListed : FuncId) (f_isOpen : FuncId) (f_has : FuncId) : AFn := ⟨3, 
  .seq (.reg [⟨some 3, none, .w (.box 2 (.t 0))⟩,
    ⟨some 6, none, .d (.mv (.c (.nilsl)))⟩,
    ⟨some 7, none, .d (.mv (.c (.bool false)))⟩])
  (.seq (.seq (.reg [⟨some 11, none, .d (.load true 2 (.t 3))⟩,
    ⟨some 12, none, .d (.mv (.t 1))⟩,
    ⟨some 13, none, .d (.call (.f f_areListed) [(.t 11), (.t 12)])⟩,
    ⟨some 14, none, .d (.not (.t 13))⟩,
    ⟨some 15, none, .d (.mv (.t 14))⟩,
    ⟨some 16, some (15, false), .d (.load true 2 (.t 3))⟩,
    ⟨some 17, some (15, false), .d (.mv (.t 2))⟩,
    ⟨some 18, some (15, false), .d (.call (.f f_isOpen) [(.t 16), (.t 17)])⟩,
    ⟨some 19, some (15, false), .d (.not (.t 18))⟩,
    ⟨some 20, none, .d (.pick (.t 15) (.c (.bool true)) (.t 19))⟩])
  (.cond (.t 20) (.seq (.reg [⟨some 6, none, .d (.mv (.c (.nilsl)))⟩,
     ⟨some 7, none, .d (.mv (.c (.bool false)))⟩])
   (.ret)) (.skip)))
  (.seq (.reg [⟨some 21, none, .w (.bslice 1 [] [])⟩,
    ⟨some 8, none, .d (.mv (.t 21))⟩])
  (.seq (.seq (.reg [⟨some 22, none, .d (.mv (.t 1))⟩,
    ⟨some 23, none, .d (.len (.t 22))⟩,
    ⟨some 24, none, .d (.mv (.c (.int .i64 0)))⟩])
  (.block 0 (.loop (.seq (.reg [⟨some 25, none, .d (.bin .arith .lss (.t 24) (.t 23))⟩])
    (.seq (.cond (.t 25) (.skip) (.exit 0))
    (.seq (.block 1 (.seq (.reg [⟨some 26, none, .d (.ia 1 (.t 22) (.t 24))⟩,
       ⟨some 27, none, .d (.load false 1 (.t 26))⟩,
       ⟨some 10, none, .d (.mv (.t 27))⟩])
     (.reg [⟨some 28, none, .d (.mv (.t 8))⟩,
       ⟨some 29, none, .d (.mv (.t 10))⟩,
       ⟨some 30, none, .d (.mv (.t 2))⟩,
       ⟨some 31, none, .d (.call (.f f_has) [(.t 29), (.t 30)])⟩,
       ⟨some 32, none, .w (.bslice 1 [.bool false] [(0, (.t 31))])⟩,
       ⟨some 33, none, .w (.append 1 (.t 28) (.t 32))⟩,
       ⟨some 8, none, .d (.mv (.t 33))⟩])))
    (.reg [⟨some 34, none, .d (.bin .arith .add (.t 24) (.c (.int .i64 1)))⟩,
      ⟨some 24, none, .d (.mv (.t 34))⟩])))))))
  (.seq (.reg [⟨some 35, none, .d (.mv (.t 8))⟩,
    ⟨some 6, none, .d (.mv (.t 35))⟩,
    ⟨some 7, none, .d (.mv (.c (.bool true)))⟩])
  (.ret))))), [.tmp 6, .tmp 7]⟩
def n_SecretAnswers : Nat → Option Ann := fun _ => none
abbrev k_SecretAnswers : List Nat := [0, 1, 2, 3, 6, 7, 8, 10, 20, 22, 23, 24, 25]
abbrev o_SecretAnswers : List Nat := [3, 21, 32, 33]
def a_s_SecretAnswers (f_l8Secret : FuncId) : AFn := ⟨3, 
  .seq (.reg [⟨some 3, none, .w (.box 2 (.t 0))⟩,
    ⟨some 6, none, .d (.mv (.c (.nilsl)))⟩,
    ⟨some 7, none, .d (.mv (.c (.bool false)))⟩])
  (.seq (.reg [⟨some 10, none, .w (.bslice 1 [] [])⟩,
    ⟨some 8, none, .d (.mv (.t 10))⟩])
  (.seq (.seq (.reg [⟨some 11, none, .d (.load true 2 (.t 3))⟩,
    ⟨some 12, none, .d (.mv (.t 1))⟩,
    ⟨some 13, none, .d (.mv (.t 2))⟩,
    ⟨some 14, none, .d (.call (.f f_l8Secret) [(.t 11), (.t 12), (.t 13)])⟩,
    ⟨some 15, none, .d (.not (.t 14))⟩])
  (.cond (.t 15) (.seq (.reg [⟨some 16, none, .d (.mv (.t 8))⟩,
     ⟨some 6, none, .d (.mv (.t 16))⟩,
     ⟨some 7, none, .d (.mv (.c (.bool false)))⟩])
   (.ret)) (.skip)))
  (.seq (.seq (.reg [⟨some 9, none, .d (.mv (.c (.int .i64 0)))⟩])
  (.block 0 (.loop (.seq (.seq (.reg [⟨some 17, none, .d (.mv (.t 9))⟩,
      ⟨some 18, none, .d (.mv (.t 1))⟩,
      ⟨some 19, none, .d (.len (.t 18))⟩,
      ⟨some 20, none, .d (.bin .arith .lss (.t 17) (.t 19))⟩])
    (.cond (.t 20) (.skip) (.exit 0)))
    (.seq (.block 1 (.reg [⟨some 23, none, .d (.mv (.t 8))⟩,
       ⟨some 24, none, .d (.mv (.t 1))⟩,
       ⟨some 25, none, .d (.mv (.t 9))⟩,
       ⟨some 26, none, .d (.ia 1 (.t 24) (.t 25))⟩,
       ⟨some 27, none, .d (.load false 1 (.t 26))⟩,
       ⟨some 28, none, .d (.mv (.t 2))⟩,
       ⟨some 29, none, .d (.bin .arith .shr (.t 27) (.t 28))⟩,
       ⟨some 30, none, .d (.bin .arith .and (.t 29) (.c (.int .i64 1)))⟩,
       ⟨some 31, none, .d (.bin .arith .eql (.t 30) (.c (.int .i64 1)))⟩,
       ⟨some 32, none, .w (.bslice 1 [.bool false] [(0, (.t 31))])⟩,
       ⟨some 33, none, .w (.append 1 (.t 23) (.t 32))⟩,
       ⟨some 8, none, .d (.mv (.t 33))⟩]))
    (.reg [⟨some 21, none, .d (.mv (.t 9))⟩,
      ⟨some 22, none, .d (.bin .arith .add (.t 21) (.c (.int .i64 1)))⟩,
      ⟨some 9, none, .d (.mv (.t 22))⟩]))))))
  (.seq (.reg [⟨some 34, none, .d (.mv (.t 8))⟩,
    ⟨some 6, none, .d (.mv (.t 34))⟩,
    ⟨some 7, none, .d (.mv (.c (.bool true)))⟩])
  (.ret))))), [.tmp 6, .tmp 7]⟩
def n_s_SecretAnswers : Nat → Option Ann := fun _ => none
abbrev k_s_SecretAnswers : List Nat := [0, 1, 2, 3, 6, 7, 8, 9, 15, 20]
abbrev o_s_SecretAnswers : List Nat := [3, 10, 32, 33]
/-- What one who holds a number answers. -/
def ansL (k : Int) (l : List Int) : List Bool := l.map fun q => bitW q k == 1
theorem ansL_len (k : Int) (l : List Int) : (ansL k l).length = l.length := by simp [ansL]
theorem ansL_one (k : Int) (l : List Int) (i : Nat) (h : i < l.length) : (ansL k l).take i ++ [bitW (l.getD i 0) k == 1] = (ansL k l).take (i + 1) := by
  rw [take_one (ansL k l) i false (by rw [ansL_len]; exact h)]
  simp [ansL, h]
def c_SecretAnswers : Con := pure' fun
  | [.p (.agg [.sl 1 x_, .int .i64 m]), .p (.sl 1 l_), .p (.int .i64 k)] => if isI x_ = true ∧ isI l_ = true ∧ ((ofI x_).length ≤ 1100000 ∧ (ofI l_).length ≤ 1100000) then some (if (isL (ofI x_) m (ofI l_) && opn (ofI x_) k) = true then .tp [.ar 2000000, .p (.bool true)] else .tp [.p .nilsl, .p (.bool false)], if (isL (ofI x_) m (ofI l_) && opn (ofI x_) k) = true then [.arr 1 (bools (ansL k (ofI l_)))] else []) else none
  | _ => none
theorem s_SecretAnswers {P : Program} (hm : P.follows .mixedOrders = true) {Γ : Gam} (hΓ : GS P Γ) {n : FuncId} {f_areListed : FuncId} {f_isOpen : FuncId} {f_has : FuncId} (is : Is P n (a_SecretAnswers f_areListed f_isOpen f_has)) (h_areListed : Γ f_areListed = c_areListed) (h_isOpen : Γ f_isOpen = c_isOpen) (h_has : Γ f_has = c_has)  : Says P n c_SecretAnswers := by
  refine Says.pure fun args r fs h => ?_
  split at h
  case h_2 => cases h
  rename_i x_ m l_ k
  split at h
  case isFalse => cases h
  rename_i hc
  obtain ⟨hx_, hc⟩ := hc
  obtain ⟨x, rfl⟩ := isI_out hx_
  obtain ⟨hl_, hc⟩ := hc
  obtain ⟨l, rfl⟩ := isI_out hl_
  simp only [ofI_ints, ofBo_bools, ofAs_asks, Option.some.injEq, Prod.mk.injEq] at h hc
  obtain ⟨rfl, rfl⟩ := h
  cases hL : isL x m l with
  | false =>
    refine is.go hm hΓ k_SecretAnswers o_SecretAnswers (by simp [a_SecretAnswers]) ?_
    simp only [a_SecretAnswers, h_areListed, c_areListed, h_isOpen, c_isOpen, h_has, c_has, hc, hL, Bool.false_and, Bool.false_eq_true, List.zipIdx_cons, List.zipIdx_nil, ↓SP, SQ, Gam.add, stepM, callC, argC, lendO, nmBy, nmC, likeL, likeB, plainOb, offs, X, F, trP, trO, stepD, stepW, newA, SV.tr, SV.trL, fz, allP, Ob.tr, loadA, cellsA, SV.cells, binA, binI, eqOut, isSl, isPt, natOf, callee, snap, SV.refsL, SV.refs, thaw, fzAll, loA, hiA, elemOf, partsA, buildA, putCells, ↓reduceIte, reduceCtorEq, okCell, Nat.reduceAdd, Nat.reduceEqDiff, Nat.reduceSub, Nat.reduceMul, Nat.reduceLeDiff, Nat.reduceLT, Nat.reduceBEq, PV.scal, PV.scalL, SV.scal, SV.scalL, Ob.scal, PV.isCell, pure', resO]
    exact finA_gen [] trivial (by simp [retA, rvA, List.mapM_cons, List.mapM_nil, Option.pure_def, Option.bind_eq_bind, Option.bind_some, Option.map_some, mkE_cons, mk_nil, mkO_cons, mkO_nil, loadA, ↓reduceIte, List.take_succ_cons, List.take_zero, List.drop_zero, List.drop_succ_cons, List.length_cons, List.length_nil, Nat.reduceAdd, Nat.reduceEqDiff, Nat.reduceLeDiff, Nat.zero_add, Nat.le_refl, reduceCtorEq, SV.tr, SV.trL, nmF, rn_nil, rn_cons1, rn_cons2, List.map_cons, List.map_nil, List.all_cons, List.all_nil, plainOb, SV.refsL, SV.refs, Ob.refs, X, F, List.range_succ, List.range_zero, List.nil_append, List.cons_append, List.isEmpty_nil, decide_true, Nat.reduceLT, Bool.and_self, Bool.and_true, and_self, and_true, List.getElem?_cons_zero, List.getElem?_cons_succ, List.nodup_cons, List.nodup_nil, List.mem_cons, List.not_mem_nil, not_false_eq_true, or_false, List.append_nil, mkO, setO_mk, List.mem_singleton]; rfl) (by simp [retA, rvA, List.mapM_cons, List.mapM_nil, Option.pure_def, Option.bind_eq_bind, Option.bind_some, Option.map_some, mkE_cons, mk_nil, mkO_cons, mkO_nil, loadA, ↓reduceIte, List.take_succ_cons, List.take_zero, List.drop_zero, List.drop_succ_cons, List.length_cons, List.length_nil, Nat.reduceAdd, Nat.reduceEqDiff, Nat.reduceLeDiff, Nat.zero_add, Nat.le_refl, reduceCtorEq, SV.tr, SV.trL, nmF, rn_nil, rn_cons1, rn_cons2, List.map_cons, List.map_nil, List.all_cons, List.all_nil, plainOb, SV.refsL, SV.refs, Ob.refs, X, F, List.range_succ, List.range_zero, List.nil_append, List.cons_append, List.isEmpty_nil, decide_true, Nat.reduceLT, Bool.and_self, Bool.and_true, and_self, and_true, List.getElem?_cons_zero, List.getElem?_cons_succ, List.nodup_cons, List.nodup_nil, List.mem_cons, List.not_mem_nil, not_false_eq_true, or_false, List.append_nil, mkO, setO_mk, List.mem_singleton]) (by simp [retA, rvA, List.mapM_cons, List.mapM_nil, Option.pure_def, Option.bind_eq_bind, Option.bind_some, Option.map_some, mkE_cons, mk_nil, mkO_cons, mkO_nil, loadA, ↓reduceIte, List.take_succ_cons, List.take_zero, List.drop_zero, List.drop_succ_cons, List.length_cons, List.length_nil, Nat.reduceAdd, Nat.reduceEqDiff, Nat.reduceLeDiff, Nat.zero_add, Nat.le_refl, reduceCtorEq, SV.tr, SV.trL, nmF, rn_nil, rn_cons1, rn_cons2, List.map_cons, List.map_nil, List.all_cons, List.all_nil, plainOb, SV.refsL, SV.refs, Ob.refs, X, F, List.range_succ, List.range_zero, List.nil_append, List.cons_append, List.isEmpty_nil, decide_true, Nat.reduceLT, Bool.and_self, Bool.and_true, and_self, and_true, List.getElem?_cons_zero, List.getElem?_cons_succ, List.nodup_cons, List.nodup_nil, List.mem_cons, List.not_mem_nil, not_false_eq_true, or_false, List.append_nil, mkO, setO_mk, List.mem_singleton]) (by simp) (by simp) (by simp [retA, rvA, List.mapM_cons, List.mapM_nil, Option.pure_def, Option.bind_eq_bind, Option.bind_some, Option.map_some, mkE_cons, mk_nil, mkO_cons, mkO_nil, loadA, ↓reduceIte, List.take_succ_cons, List.take_zero, List.drop_zero, List.drop_succ_cons, List.length_cons, List.length_nil, Nat.reduceAdd, Nat.reduceEqDiff, Nat.reduceLeDiff, Nat.zero_add, Nat.le_refl, reduceCtorEq, SV.tr, SV.trL, nmF, rn_nil, rn_cons1, rn_cons2, List.map_cons, List.map_nil, List.all_cons, List.all_nil, plainOb, SV.refsL, SV.refs, Ob.refs, X, F, List.range_succ, List.range_zero, List.nil_append, List.cons_append, List.isEmpty_nil, decide_true, Nat.reduceLT, Bool.and_self, Bool.and_true, and_self, and_true, List.getElem?_cons_zero, List.getElem?_cons_succ, List.nodup_cons, List.nodup_nil, List.mem_cons, List.not_mem_nil, not_false_eq_true, or_false, List.append_nil, mkO, setO_mk, List.mem_singleton]) (by simp [retA, rvA, List.mapM_cons, List.mapM_nil, Option.pure_def, Option.bind_eq_bind, Option.bind_some, Option.map_some, mkE_cons, mk_nil, mkO_cons, mkO_nil, loadA, ↓reduceIte, List.take_succ_cons, List.take_zero, List.drop_zero, List.drop_succ_cons, List.length_cons, List.length_nil, Nat.reduceAdd, Nat.reduceEqDiff, Nat.reduceLeDiff, Nat.zero_add, Nat.le_refl, reduceCtorEq, SV.tr, SV.trL, nmF, rn_nil, rn_cons1, rn_cons2, List.map_cons, List.map_nil, List.all_cons, List.all_nil, plainOb, SV.refsL, SV.refs, Ob.refs, X, F, List.range_succ, List.range_zero, List.nil_append, List.cons_append, List.isEmpty_nil, decide_true, Nat.reduceLT, Bool.and_self, Bool.and_true, and_self, and_true, List.getElem?_cons_zero, List.getElem?_cons_succ, List.nodup_cons, List.nodup_nil, List.mem_cons, List.not_mem_nil, not_false_eq_true, or_false, List.append_nil, mkO, setO_mk, List.mem_singleton]) (by simp [retA, rvA, List.mapM_cons, List.mapM_nil, Option.pure_def, Option.bind_eq_bind, Option.bind_some, Option.map_some, mkE_cons, mk_nil, mkO_cons, mkO_nil, loadA, ↓reduceIte, List.take_succ_cons, List.take_zero, List.drop_zero, List.drop_succ_cons, List.length_cons, List.length_nil, Nat.reduceAdd, Nat.reduceEqDiff, Nat.reduceLeDiff, Nat.zero_add, Nat.le_refl, reduceCtorEq, SV.tr, SV.trL, nmF, rn_nil, rn_cons1, rn_cons2, List.map_cons, List.map_nil, List.all_cons, List.all_nil, plainOb, SV.refsL, SV.refs, Ob.refs, X, F, List.range_succ, List.range_zero, List.nil_append, List.cons_append, List.isEmpty_nil, decide_true, Nat.reduceLT, Bool.and_self, Bool.and_true, and_self, and_true, List.getElem?_cons_zero, List.getElem?_cons_succ, List.nodup_cons, List.nodup_nil, List.mem_cons, List.not_mem_nil, not_false_eq_true, or_false, List.append_nil, mkO, setO_mk, List.mem_singleton])
  | true =>
    cases ho : opn x k with
    | false =>
      refine is.go hm hΓ k_SecretAnswers o_SecretAnswers (by simp [a_SecretAnswers]) ?_
      simp only [a_SecretAnswers, h_areListed, c_areListed, h_isOpen, c_isOpen, h_has, c_has, hc, hL, ho, Bool.and_false, Bool.false_eq_true, List.zipIdx_cons, List.zipIdx_nil, ↓SP, SQ, Gam.add, stepM, callC, argC, lendO, nmBy, nmC, likeL, likeB, plainOb, offs, X, F, trP, trO, stepD, stepW, newA, SV.tr, SV.trL, fz, allP, Ob.tr, loadA, cellsA, SV.cells, binA, binI, eqOut, isSl, isPt, natOf, callee, snap, SV.refsL, SV.refs, thaw, fzAll, loA, hiA, elemOf, partsA, buildA, putCells, ↓reduceIte, reduceCtorEq, okCell, Nat.reduceAdd, Nat.reduceEqDiff, Nat.reduceSub, Nat.reduceMul, Nat.reduceLeDiff, Nat.reduceLT, Nat.reduceBEq, PV.scal, PV.scalL, SV.scal, SV.scalL, Ob.scal, PV.isCell, pure', resO]
      exact finA_gen [] trivial (by simp [retA, rvA, List.mapM_cons, List.mapM_nil, Option.pure_def, Option.bind_eq_bind, Option.bind_some, Option.map_some, mkE_cons, mk_nil, mkO_cons, mkO_nil, loadA, ↓reduceIte, List.take_succ_cons, List.take_zero, List.drop_zero, List.drop_succ_cons, List.length_cons, List.length_nil, Nat.reduceAdd, Nat.reduceEqDiff, Nat.reduceLeDiff, Nat.zero_add, Nat.le_refl, reduceCtorEq, SV.tr, SV.trL, nmF, rn_nil, rn_cons1, rn_cons2, List.map_cons, List.map_nil, List.all_cons, List.all_nil, plainOb, SV.refsL, SV.refs, Ob.refs, X, F, List.range_succ, List.range_zero, List.nil_append, List.cons_append, List.isEmpty_nil, decide_true, Nat.reduceLT, Bool.and_self, Bool.and_true, and_self, and_true, List.getElem?_cons_zero, List.getElem?_cons_succ, List.nodup_cons, List.nodup_nil, List.mem_cons, List.not_mem_nil, not_false_eq_true, or_false, List.append_nil, mkO, setO_mk, List.mem_singleton]; rfl) (by simp [retA, rvA, List.mapM_cons, List.mapM_nil, Option.pure_def, Option.bind_eq_bind, Option.bind_some, Option.map_some, mkE_cons, mk_nil, mkO_cons, mkO_nil, loadA, ↓reduceIte, List.take_succ_cons, List.take_zero, List.drop_zero, List.drop_succ_cons, List.length_cons, List.length_nil, Nat.reduceAdd, Nat.reduceEqDiff, Nat.reduceLeDiff, Nat.zero_add, Nat.le_refl, reduceCtorEq, SV.tr, SV.trL, nmF, rn_nil, rn_cons1, rn_cons2, List.map_cons, List.map_nil, List.all_cons, List.all_nil, plainOb, SV.refsL, SV.refs, Ob.refs, X, F, List.range_succ, List.range_zero, List.nil_append, List.cons_append, List.isEmpty_nil, decide_true, Nat.reduceLT, Bool.and_self, Bool.and_true, and_self, and_true, List.getElem?_cons_zero, List.getElem?_cons_succ, List.nodup_cons, List.nodup_nil, List.mem_cons, List.not_mem_nil, not_false_eq_true, or_false, List.append_nil, mkO, setO_mk, List.mem_singleton]) (by simp [retA, rvA, List.mapM_cons, List.mapM_nil, Option.pure_def, Option.bind_eq_bind, Option.bind_some, Option.map_some, mkE_cons, mk_nil, mkO_cons, mkO_nil, loadA, ↓reduceIte, List.take_succ_cons, List.take_zero, List.drop_zero, List.drop_succ_cons, List.length_cons, List.length_nil, Nat.reduceAdd, Nat.reduceEqDiff, Nat.reduceLeDiff, Nat.zero_add, Nat.le_refl, reduceCtorEq, SV.tr, SV.trL, nmF, rn_nil, rn_cons1, rn_cons2, List.map_cons, List.map_nil, List.all_cons, List.all_nil, plainOb, SV.refsL, SV.refs, Ob.refs, X, F, List.range_succ, List.range_zero, List.nil_append, List.cons_append, List.isEmpty_nil, decide_true, Nat.reduceLT, Bool.and_self, Bool.and_true, and_self, and_true, List.getElem?_cons_zero, List.getElem?_cons_succ, List.nodup_cons, List.nodup_nil, List.mem_cons, List.not_mem_nil, not_false_eq_true, or_false, List.append_nil, mkO, setO_mk, List.mem_singleton]) (by simp) (by simp) (by simp [retA, rvA, List.mapM_cons, List.mapM_nil, Option.pure_def, Option.bind_eq_bind, Option.bind_some, Option.map_some, mkE_cons, mk_nil, mkO_cons, mkO_nil, loadA, ↓reduceIte, List.take_succ_cons, List.take_zero, List.drop_zero, List.drop_succ_cons, List.length_cons, List.length_nil, Nat.reduceAdd, Nat.reduceEqDiff, Nat.reduceLeDiff, Nat.zero_add, Nat.le_refl, reduceCtorEq, SV.tr, SV.trL, nmF, rn_nil, rn_cons1, rn_cons2, List.map_cons, List.map_nil, List.all_cons, List.all_nil, plainOb, SV.refsL, SV.refs, Ob.refs, X, F, List.range_succ, List.range_zero, List.nil_append, List.cons_append, List.isEmpty_nil, decide_true, Nat.reduceLT, Bool.and_self, Bool.and_true, and_self, and_true, List.getElem?_cons_zero, List.getElem?_cons_succ, List.nodup_cons, List.nodup_nil, List.mem_cons, List.not_mem_nil, not_false_eq_true, or_false, List.append_nil, mkO, setO_mk, List.mem_singleton]) (by simp [retA, rvA, List.mapM_cons, List.mapM_nil, Option.pure_def, Option.bind_eq_bind, Option.bind_some, Option.map_some, mkE_cons, mk_nil, mkO_cons, mkO_nil, loadA, ↓reduceIte, List.take_succ_cons, List.take_zero, List.drop_zero, List.drop_succ_cons, List.length_cons, List.length_nil, Nat.reduceAdd, Nat.reduceEqDiff, Nat.reduceLeDiff, Nat.zero_add, Nat.le_refl, reduceCtorEq, SV.tr, SV.trL, nmF, rn_nil, rn_cons1, rn_cons2, List.map_cons, List.map_nil, List.all_cons, List.all_nil, plainOb, SV.refsL, SV.refs, Ob.refs, X, F, List.range_succ, List.range_zero, List.nil_append, List.cons_append, List.isEmpty_nil, decide_true, Nat.reduceLT, Bool.and_self, Bool.and_true, and_self, and_true, List.getElem?_cons_zero, List.getElem?_cons_succ, List.nodup_cons, List.nodup_nil, List.mem_cons, List.not_mem_nil, not_false_eq_true, or_false, List.append_nil, mkO, setO_mk, List.mem_singleton]) (by simp [retA, rvA, List.mapM_cons, List.mapM_nil, Option.pure_def, Option.bind_eq_bind, Option.bind_some, Option.map_some, mkE_cons, mk_nil, mkO_cons, mkO_nil, loadA, ↓reduceIte, List.take_succ_cons, List.take_zero, List.drop_zero, List.drop_succ_cons, List.length_cons, List.length_nil, Nat.reduceAdd, Nat.reduceEqDiff, Nat.reduceLeDiff, Nat.zero_add, Nat.le_refl, reduceCtorEq, SV.tr, SV.trL, nmF, rn_nil, rn_cons1, rn_cons2, List.map_cons, List.map_nil, List.all_cons, List.all_nil, plainOb, SV.refsL, SV.refs, Ob.refs, X, F, List.range_succ, List.range_zero, List.nil_append, List.cons_append, List.isEmpty_nil, decide_true, Nat.reduceLT, Bool.and_self, Bool.and_true, and_self, and_true, List.getElem?_cons_zero, List.getElem?_cons_succ, List.nodup_cons, List.nodup_nil, List.mem_cons, List.not_mem_nil, not_false_eq_true, or_false, List.append_nil, mkO, setO_mk, List.mem_singleton])
    | true =>
      obtain ⟨h3, h4, h5⟩ := opn_out ho
      refine is.go hm hΓ k_SecretAnswers o_SecretAnswers (by simp [a_SecretAnswers]) ?_
      simp only [a_SecretAnswers, h_areListed, c_areListed, h_isOpen, c_isOpen, h_has, c_has, hc, hL, ho, Bool.and_self, List.zipIdx_cons, List.zipIdx_nil, ↓SP, SQ, Gam.add, stepM, callC, argC, lendO, nmBy, nmC, likeL, likeB, plainOb, offs, X, F, trP, trO, stepD, stepW, newA, SV.tr, SV.trL, fz, allP, Ob.tr, loadA, cellsA, SV.cells, binA, binI, eqOut, isSl, isPt, natOf, callee, snap, SV.refsL, SV.refs, thaw, fzAll, loA, hiA, elemOf, partsA, buildA, putCells, ↓reduceIte, reduceCtorEq, okCell, Nat.reduceAdd, Nat.reduceEqDiff, Nat.reduceSub, Nat.reduceMul, Nat.reduceLeDiff, Nat.reduceLT, Nat.reduceBEq, PV.scal, PV.scalL, SV.scal, SV.scalL, Ob.scal, PV.isCell, pure', resO]
      refine loop_at (fun s : Nat × SV × Option Ob × SV => mkEnv [(0, .p (.agg [.sl 1 (ints x), .int .i64 m])), (1, .p (.sl 1 (ints l))), (2, si k), (3, .bx 3 0), (6, .p .nilsl), (7, sb false), (8, .ar 21), (10, s.2.1), (20, sb false), (22, .p (.sl 1 (ints l))), (23, si l.length), (24, si s.1), (25, s.2.2.2)]) (fun s => mkO [(3, some (.box [.p (.sl 1 (ints x)), si m])), (21, some (.arr 1 (bools ((ansL k l).take s.1)))), (32, s.2.2.1), (33, none)]) (fun s => s.1 ≤ l.length) (fun s => l.length - s.1) (0, .junk, none, .junk) (by simp) rfl rfl ?_
      rintro ⟨i, c1, ob, c2⟩ hi R hR hN
      simp only at hi
      have hal := ansL_len k l
      by_cases h : i < l.length
      · have h1 : (i : Int) < l.length := by omega
        have hw := wrap_one (i := i) (by omega)
        have hg := ints_get h
        have hr : ((ansL k l).take i).length + 1 ≤ roomA := by rw [List.length_take, hal]; unfold roomA; omega
        have hao := ansL_one k l i h
        simp only [h1, hw, hg, hr, h3, h_has, c_has, bools_len, bools_app1, hao, bools_cell, ↓SP, SQ, Gam.add, stepM, callC, argC, lendO, nmBy, nmC, likeL, likeB, plainOb, offs, X, F, trP, trO, stepD, stepW, newA, SV.tr, SV.trL, fz, allP, Ob.tr, loadA, cellsA, SV.cells, binA, binI, eqOut, isSl, isPt, natOf, callee, snap, SV.refsL, SV.refs, thaw, fzAll, loA, hiA, elemOf, partsA, buildA, putCells, ↓reduceIte, reduceCtorEq, okCell, Nat.reduceAdd, Nat.reduceEqDiff, Nat.reduceSub, Nat.reduceMul, Nat.reduceLeDiff, Nat.reduceLT, Nat.reduceBEq, PV.scal, PV.scalL, SV.scal, SV.scalL, Ob.scal, PV.isCell, pure', resO]
        exact hN (i + 1, _, _, _) _ _ (by simp only; omega) (by simp only; omega) rfl rfl
      · have he : i = l.length := by omega
        have h1 : ¬ (i : Int) < l.length := by omega
        simp only [h1, ↓SP, SQ, Gam.add, stepM, callC, argC, lendO, nmBy, nmC, likeL, likeB, plainOb, offs, X, F, trP, trO, stepD, stepW, newA, SV.tr, SV.trL, fz, allP, Ob.tr, loadA, cellsA, SV.cells, binA, binI, eqOut, isSl, isPt, natOf, callee, snap, SV.refsL, SV.refs, thaw, fzAll, loA, hiA, elemOf, partsA, buildA, putCells, ↓reduceIte, reduceCtorEq, okCell, Nat.reduceAdd, Nat.reduceEqDiff, Nat.reduceSub, Nat.reduceMul, Nat.reduceLeDiff, Nat.reduceLT, Nat.reduceBEq, PV.scal, PV.scalL, SV.scal, SV.scalL, Ob.scal, PV.isCell, pure', resO]
        refine hR _ _ _ (by intro h; cases h) ?_
        simp only [↓SP, SQ, Gam.add, stepM, callC, argC, lendO, nmBy, nmC, likeL, likeB, plainOb, offs, X, F, trP, trO, stepD, stepW, newA, SV.tr, SV.trL, fz, allP, Ob.tr, loadA, cellsA, SV.cells, binA, binI, eqOut, isSl, isPt, natOf, callee, snap, SV.refsL, SV.refs, thaw, fzAll, loA, hiA, elemOf, partsA, buildA, putCells, ↓reduceIte, reduceCtorEq, okCell, Nat.reduceAdd, Nat.reduceEqDiff, Nat.reduceSub, Nat.reduceMul, Nat.reduceLeDiff, Nat.reduceLT, Nat.reduceBEq, PV.scal, PV.scalL, SV.scal, SV.scalL, Ob.scal, PV.isCell, pure', resO]
        have ht : (ansL k l).take i = ansL k l := by rw [he, ← hal]; exact List.take_length
        exact finA_gen [21] trivial (by simp [retA, rvA, List.mapM_cons, List.mapM_nil, Option.pure_def, Option.bind_eq_bind, Option.bind_some, Option.map_some, mkE_cons, mk_nil, mkO_cons, mkO_nil, loadA, ↓reduceIte, List.take_succ_cons, List.take_zero, List.drop_zero, List.drop_succ_cons, List.length_cons, List.length_nil, Nat.reduceAdd, Nat.reduceEqDiff, Nat.reduceLeDiff, Nat.zero_add, Nat.le_refl, reduceCtorEq, SV.tr, SV.trL, nmF, rn_nil, rn_cons1, rn_cons2, List.map_cons, List.map_nil, List.all_cons, List.all_nil, plainOb, SV.refsL, SV.refs, Ob.refs, X, F, List.range_succ, List.range_zero, List.nil_append, List.cons_append, List.isEmpty_nil, decide_true, Nat.reduceLT, Bool.and_self, Bool.and_true, and_self, and_true, List.getElem?_cons_zero, List.getElem?_cons_succ, List.nodup_cons, List.nodup_nil, List.mem_cons, List.not_mem_nil, not_false_eq_true, or_false, List.append_nil, mkO, setO_mk, List.mem_singleton]; rfl) (by simp [ht, retA, rvA, List.mapM_cons, List.mapM_nil, Option.pure_def, Option.bind_eq_bind, Option.bind_some, Option.map_some, mkE_cons, mk_nil, mkO_cons, mkO_nil, loadA, ↓reduceIte, List.take_succ_cons, List.take_zero, List.drop_zero, List.drop_succ_cons, List.length_cons, List.length_nil, Nat.reduceAdd, Nat.reduceEqDiff, Nat.reduceLeDiff, Nat.zero_add, Nat.le_refl, reduceCtorEq, SV.tr, SV.trL, nmF, rn_nil, rn_cons1, rn_cons2, List.map_cons, List.map_nil, List.all_cons, List.all_nil, plainOb, SV.refsL, SV.refs, Ob.refs, X, F, List.range_succ, List.range_zero, List.nil_append, List.cons_append, List.isEmpty_nil, decide_true, Nat.reduceLT, Bool.and_self, Bool.and_true, and_self, and_true, List.getElem?_cons_zero, List.getElem?_cons_succ, List.nodup_cons, List.nodup_nil, List.mem_cons, List.not_mem_nil, not_false_eq_true, or_false, List.append_nil, mkO, setO_mk, List.mem_singleton]) (by simp [ht, retA, rvA, List.mapM_cons, List.mapM_nil, Option.pure_def, Option.bind_eq_bind, Option.bind_some, Option.map_some, mkE_cons, mk_nil, mkO_cons, mkO_nil, loadA, ↓reduceIte, List.take_succ_cons, List.take_zero, List.drop_zero, List.drop_succ_cons, List.length_cons, List.length_nil, Nat.reduceAdd, Nat.reduceEqDiff, Nat.reduceLeDiff, Nat.zero_add, Nat.le_refl, reduceCtorEq, SV.tr, SV.trL, nmF, rn_nil, rn_cons1, rn_cons2, List.map_cons, List.map_nil, List.all_cons, List.all_nil, plainOb, SV.refsL, SV.refs, Ob.refs, X, F, List.range_succ, List.range_zero, List.nil_append, List.cons_append, List.isEmpty_nil, decide_true, Nat.reduceLT, Bool.and_self, Bool.and_true, and_self, and_true, List.getElem?_cons_zero, List.getElem?_cons_succ, List.nodup_cons, List.nodup_nil, List.mem_cons, List.not_mem_nil, not_false_eq_true, or_false, List.append_nil, mkO, setO_mk, List.mem_singleton]) (by simp) (by simp) (by simp [retA, rvA, List.mapM_cons, List.mapM_nil, Option.pure_def, Option.bind_eq_bind, Option.bind_some, Option.map_some, mkE_cons, mk_nil, mkO_cons, mkO_nil, loadA, ↓reduceIte, List.take_succ_cons, List.take_zero, List.drop_zero, List.drop_succ_cons, List.length_cons, List.length_nil, Nat.reduceAdd, Nat.reduceEqDiff, Nat.reduceLeDiff, Nat.zero_add, Nat.le_refl, reduceCtorEq, SV.tr, SV.trL, nmF, rn_nil, rn_cons1, rn_cons2, List.map_cons, List.map_nil, List.all_cons, List.all_nil, plainOb, SV.refsL, SV.refs, Ob.refs, X, F, List.range_succ, List.range_zero, List.nil_append, List.cons_append, List.isEmpty_nil, decide_true, Nat.reduceLT, Bool.and_self, Bool.and_true, and_self, and_true, List.getElem?_cons_zero, List.getElem?_cons_succ, List.nodup_cons, List.nodup_nil, List.mem_cons, List.not_mem_nil, not_false_eq_true, or_false, List.append_nil, mkO, setO_mk, List.mem_singleton]) (by simp [ht, retA, rvA, List.mapM_cons, List.mapM_nil, Option.pure_def, Option.bind_eq_bind, Option.bind_some, Option.map_some, mkE_cons, mk_nil, mkO_cons, mkO_nil, loadA, ↓reduceIte, List.take_succ_cons, List.take_zero, List.drop_zero, List.drop_succ_cons, List.length_cons, List.length_nil, Nat.reduceAdd, Nat.reduceEqDiff, Nat.reduceLeDiff, Nat.zero_add, Nat.le_refl, reduceCtorEq, SV.tr, SV.trL, nmF, rn_nil, rn_cons1, rn_cons2, List.map_cons, List.map_nil, List.all_cons, List.all_nil, plainOb, SV.refsL, SV.refs, Ob.refs, X, F, List.range_succ, List.range_zero, List.nil_append, List.cons_append, List.isEmpty_nil, decide_true, Nat.reduceLT, Bool.and_self, Bool.and_true, and_self, and_true, List.getElem?_cons_zero, List.getElem?_cons_succ, List.nodup_cons, List.nodup_nil, List.mem_cons, List.not_mem_nil, not_false_eq_true, or_false, List.append_nil, mkO, setO_mk, List.mem_singleton]) (by simp [ht, retA, rvA, List.mapM_cons, List.mapM_nil, Option.pure_def, Option.bind_eq_bind, Option.bind_some, Option.map_some, mkE_cons, mk_nil, mkO_cons, mkO_nil, loadA, ↓reduceIte, List.take_succ_cons, List.take_zero, List.drop_zero, List.drop_succ_cons, List.length_cons, List.length_nil, Nat.reduceAdd, Nat.reduceEqDiff, Nat.reduceLeDiff, Nat.zero_add, Nat.le_refl, reduceCtorEq, SV.tr, SV.trL, nmF, rn_nil, rn_cons1, rn_cons2, List.map_cons, List.map_nil, List.all_cons, List.all_nil, plainOb, SV.refsL, SV.refs, Ob.refs, X, F, List.range_succ, List.range_zero, List.nil_append, List.cons_append, List.isEmpty_nil, decide_true, Nat.reduceLT, Bool.and_self, Bool.and_true, and_self, and_true, List.getElem?_cons_zero, List.getElem?_cons_succ, List.nodup_cons, List.nodup_nil, List.mem_cons, List.not_mem_nil, not_false_eq_true, or_false, List.append_nil, mkO, setO_mk, List.mem_singleton])
def c_s_SecretAnswers : Con := pure' fun
  | [.p (.agg [.sl 1 x_, .int .i64 m]), .p (.sl 1 l_), .p (.int .i64 k)] => if isI x_ = true ∧ isI l_ = true ∧ ((ofI x_).length ≤ 1100000 ∧ (ofI l_).length ≤ 1100000) then some (.tp [.ar 2000000, .p (.bool (isL (ofI x_) m (ofI l_) && opn (ofI x_) k))], [.arr 1 (bools (if (isL (ofI x_) m (ofI l_) && opn (ofI x_) k) = true then ansL k (ofI l_) else []))]) else none
  | _ => none
theorem s_s_SecretAnswers {P : Program} (hm : P.follows .mixedOrders = true) {Γ : Gam} (hΓ : GS P Γ) {n : FuncId} {f_l8Secret : FuncId} (is : Is P n (a_s_SecretAnswers f_l8Secret)) (h_l8Secret : Γ f_l8Secret = c_l8Secret)  : Says P n c_s_SecretAnswers := by
  refine Says.pure fun args r fs h => ?_
  split at h
  case h_2 => cases h
  rename_i x_ m l_ k
  split at h
  case isFalse => cases h
  rename_i hc
  obtain ⟨hx_, hc⟩ := hc
  obtain ⟨x, rfl⟩ := isI_out hx_
  obtain ⟨hl_, hc⟩ := hc
  obtain ⟨l, rfl⟩ := isI_out hl_
  simp only [ofI_ints, ofBo_bools, ofAs_asks, Option.some.injEq, Prod.mk.injEq] at h hc
  obtain ⟨rfl, rfl⟩ := h
  cases hok : (isL x m l && opn x k) with
  | false =>
    refine is.go hm hΓ k_s_SecretAnswers o_s_SecretAnswers (by simp [a_s_SecretAnswers]) ?_
    simp only [a_s_SecretAnswers, h_l8Secret, c_l8Secret, hc, hok, Bool.false_eq_true, List.zipIdx_cons, List.zipIdx_nil, ↓SP, SQ, Gam.add, stepM, callC, argC, lendO, nmBy, nmC, likeL, likeB, plainOb, offs, X, F, trP, trO, stepD, stepW, newA, SV.tr, SV.trL, fz, allP, Ob.tr, loadA, cellsA, SV.cells, binA, binI, eqOut, isSl, isPt, natOf, callee, snap, SV.refsL, SV.refs, thaw, fzAll, loA, hiA, elemOf, partsA, buildA, putCells, ↓reduceIte, reduceCtorEq, okCell, Nat.reduceAdd, Nat.reduceEqDiff, Nat.reduceSub, Nat.reduceMul, Nat.reduceLeDiff, Nat.reduceLT, Nat.reduceBEq, PV.scal, PV.scalL, SV.scal, SV.scalL, Ob.scal, PV.isCell, pure', resO]
    exact finA_gen [10] trivial (by simp [retA, rvA, List.mapM_cons, List.mapM_nil, Option.pure_def, Option.bind_eq_bind, Option.bind_some, Option.map_some, mkE_cons, mk_nil, mkO_cons, mkO_nil, loadA, ↓reduceIte, List.take_succ_cons, List.take_zero, List.drop_zero, List.drop_succ_cons, List.length_cons, List.length_nil, Nat.reduceAdd, Nat.reduceEqDiff, Nat.reduceLeDiff, Nat.zero_add, Nat.le_refl, reduceCtorEq, SV.tr, SV.trL, nmF, rn_nil, rn_cons1, rn_cons2, List.map_cons, List.map_nil, List.all_cons, List.all_nil, plainOb, SV.refsL, SV.refs, Ob.refs, X, F, List.range_succ, List.range_zero, List.nil_append, List.cons_append, List.isEmpty_nil, decide_true, Nat.reduceLT, Bool.and_self, Bool.and_true, and_self, and_true, List.getElem?_cons_zero, List.getElem?_cons_succ, List.nodup_cons, List.nodup_nil, List.mem_cons, List.not_mem_nil, not_false_eq_true, or_false, List.append_nil, mkO, setO_mk, List.mem_singleton]; rfl) (by simp [bools, retA, rvA, List.mapM_cons, List.mapM_nil, Option.pure_def, Option.bind_eq_bind, Option.bind_some, Option.map_some, mkE_cons, mk_nil, mkO_cons, mkO_nil, loadA, ↓reduceIte, List.take_succ_cons, List.take_zero, List.drop_zero, List.drop_succ_cons, List.length_cons, List.length_nil, Nat.reduceAdd, Nat.reduceEqDiff, Nat.reduceLeDiff, Nat.zero_add, Nat.le_refl, reduceCtorEq, SV.tr, SV.trL, nmF, rn_nil, rn_cons1, rn_cons2, List.map_cons, List.map_nil, List.all_cons, List.all_nil, plainOb, SV.refsL, SV.refs, Ob.refs, X, F, List.range_succ, List.range_zero, List.nil_append, List.cons_append, List.isEmpty_nil, decide_true, Nat.reduceLT, Bool.and_self, Bool.and_true, and_self, and_true, List.getElem?_cons_zero, List.getElem?_cons_succ, List.nodup_cons, List.nodup_nil, List.mem_cons, List.not_mem_nil, not_false_eq_true, or_false, List.append_nil, mkO, setO_mk, List.mem_singleton]) (by simp [bools, retA, rvA, List.mapM_cons, List.mapM_nil, Option.pure_def, Option.bind_eq_bind, Option.bind_some, Option.map_some, mkE_cons, mk_nil, mkO_cons, mkO_nil, loadA, ↓reduceIte, List.take_succ_cons, List.take_zero, List.drop_zero, List.drop_succ_cons, List.length_cons, List.length_nil, Nat.reduceAdd, Nat.reduceEqDiff, Nat.reduceLeDiff, Nat.zero_add, Nat.le_refl, reduceCtorEq, SV.tr, SV.trL, nmF, rn_nil, rn_cons1, rn_cons2, List.map_cons, List.map_nil, List.all_cons, List.all_nil, plainOb, SV.refsL, SV.refs, Ob.refs, X, F, List.range_succ, List.range_zero, List.nil_append, List.cons_append, List.isEmpty_nil, decide_true, Nat.reduceLT, Bool.and_self, Bool.and_true, and_self, and_true, List.getElem?_cons_zero, List.getElem?_cons_succ, List.nodup_cons, List.nodup_nil, List.mem_cons, List.not_mem_nil, not_false_eq_true, or_false, List.append_nil, mkO, setO_mk, List.mem_singleton]) (by simp) (by simp) (by simp [retA, rvA, List.mapM_cons, List.mapM_nil, Option.pure_def, Option.bind_eq_bind, Option.bind_some, Option.map_some, mkE_cons, mk_nil, mkO_cons, mkO_nil, loadA, ↓reduceIte, List.take_succ_cons, List.take_zero, List.drop_zero, List.drop_succ_cons, List.length_cons, List.length_nil, Nat.reduceAdd, Nat.reduceEqDiff, Nat.reduceLeDiff, Nat.zero_add, Nat.le_refl, reduceCtorEq, SV.tr, SV.trL, nmF, rn_nil, rn_cons1, rn_cons2, List.map_cons, List.map_nil, List.all_cons, List.all_nil, plainOb, SV.refsL, SV.refs, Ob.refs, X, F, List.range_succ, List.range_zero, List.nil_append, List.cons_append, List.isEmpty_nil, decide_true, Nat.reduceLT, Bool.and_self, Bool.and_true, and_self, and_true, List.getElem?_cons_zero, List.getElem?_cons_succ, List.nodup_cons, List.nodup_nil, List.mem_cons, List.not_mem_nil, not_false_eq_true, or_false, List.append_nil, mkO, setO_mk, List.mem_singleton]) (by simp [bools, retA, rvA, List.mapM_cons, List.mapM_nil, Option.pure_def, Option.bind_eq_bind, Option.bind_some, Option.map_some, mkE_cons, mk_nil, mkO_cons, mkO_nil, loadA, ↓reduceIte, List.take_succ_cons, List.take_zero, List.drop_zero, List.drop_succ_cons, List.length_cons, List.length_nil, Nat.reduceAdd, Nat.reduceEqDiff, Nat.reduceLeDiff, Nat.zero_add, Nat.le_refl, reduceCtorEq, SV.tr, SV.trL, nmF, rn_nil, rn_cons1, rn_cons2, List.map_cons, List.map_nil, List.all_cons, List.all_nil, plainOb, SV.refsL, SV.refs, Ob.refs, X, F, List.range_succ, List.range_zero, List.nil_append, List.cons_append, List.isEmpty_nil, decide_true, Nat.reduceLT, Bool.and_self, Bool.and_true, and_self, and_true, List.getElem?_cons_zero, List.getElem?_cons_succ, List.nodup_cons, List.nodup_nil, List.mem_cons, List.not_mem_nil, not_false_eq_true, or_false, List.append_nil, mkO, setO_mk, List.mem_singleton]) (by simp [bools, retA, rvA, List.mapM_cons, List.mapM_nil, Option.pure_def, Option.bind_eq_bind, Option.bind_some, Option.map_some, mkE_cons, mk_nil, mkO_cons, mkO_nil, loadA, ↓reduceIte, List.take_succ_cons, List.take_zero, List.drop_zero, List.drop_succ_cons, List.length_cons, List.length_nil, Nat.reduceAdd, Nat.reduceEqDiff, Nat.reduceLeDiff, Nat.zero_add, Nat.le_refl, reduceCtorEq, SV.tr, SV.trL, nmF, rn_nil, rn_cons1, rn_cons2, List.map_cons, List.map_nil, List.all_cons, List.all_nil, plainOb, SV.refsL, SV.refs, Ob.refs, X, F, List.range_succ, List.range_zero, List.nil_append, List.cons_append, List.isEmpty_nil, decide_true, Nat.reduceLT, Bool.and_self, Bool.and_true, and_self, and_true, List.getElem?_cons_zero, List.getElem?_cons_succ, List.nodup_cons, List.nodup_nil, List.mem_cons, List.not_mem_nil, not_false_eq_true, or_false, List.append_nil, mkO, setO_mk, List.mem_singleton])
  | true =>
    have hok2 := hok
    rw [Bool.and_eq_true] at hok2
    obtain ⟨h3, h4, h5⟩ := opn_out hok2.2
    obtain ⟨k, rfl⟩ : ∃ j : Nat, k = j := ⟨k.toNat, by omega⟩
    have hk0 : ¬ (k : Int) < 0 := by omega
    refine is.go hm hΓ k_s_SecretAnswers o_s_SecretAnswers (by simp [a_s_SecretAnswers]) ?_
    simp only [a_s_SecretAnswers, h_l8Secret, c_l8Secret, hc, hok, List.zipIdx_cons, List.zipIdx_nil, ↓SP, SQ, Gam.add, stepM, callC, argC, lendO, nmBy, nmC, likeL, likeB, plainOb, offs, X, F, trP, trO, stepD, stepW, newA, SV.tr, SV.trL, fz, allP, Ob.tr, loadA, cellsA, SV.cells, binA, binI, eqOut, isSl, isPt, natOf, callee, snap, SV.refsL, SV.refs, thaw, fzAll, loA, hiA, elemOf, partsA, buildA, putCells, ↓reduceIte, reduceCtorEq, okCell, Nat.reduceAdd, Nat.reduceEqDiff, Nat.reduceSub, Nat.reduceMul, Nat.reduceLeDiff, Nat.reduceLT, Nat.reduceBEq, PV.scal, PV.scalL, SV.scal, SV.scalL, Ob.scal, PV.isCell, pure', resO]
    refine loop_at (fun s : Nat × Option Ob × SV => mkEnv [(0, .p (.agg [.sl 1 (ints x), .int .i64 m])), (1, .p (.sl 1 (ints l))), (2, si k), (3, .bx 3 0), (6, .p .nilsl), (7, sb false), (8, .ar 10), (9, si s.1), (15, sb false), (20, s.2.2)]) (fun s => mkO [(3, some (.box [.p (.sl 1 (ints x)), si m])), (10, some (.arr 1 (bools ((ansL k l).take s.1)))), (32, s.2.1), (33, none)]) (fun s => s.1 ≤ l.length) (fun s => l.length - s.1) (0, none, .junk) (by simp) rfl rfl ?_
    rintro ⟨i, ob, c2⟩ hi R hR hN
    simp only at hi
    have hal := ansL_len k l
    by_cases h : i < l.length
    · have h1 : (i : Int) < l.length := by omega
      have hw := wrap_one (i := i) (by omega)
      have hg := ints_get h
      have hr : ((ansL k l).take i).length + 1 ≤ roomA := by rw [List.length_take, hal]; unfold roomA; omega
      have hao := ansL_one k l i h
      simp only [h1, hw, hg, hr, hk0, bitA_and, bitW_nat, bools_len, bools_app1, hao, bools_cell, ↓SP, SQ, Gam.add, stepM, callC, argC, lendO, nmBy, nmC, likeL, likeB, plainOb, offs, X, F, trP, trO, stepD, stepW, newA, SV.tr, SV.trL, fz, allP, Ob.tr, loadA, cellsA, SV.cells, binA, binI, eqOut, isSl, isPt, natOf, callee, snap, SV.refsL, SV.refs, thaw, fzAll, loA, hiA, elemOf, partsA, buildA, putCells, ↓reduceIte, reduceCtorEq, okCell, Nat.reduceAdd, Nat.reduceEqDiff, Nat.reduceSub, Nat.reduceMul, Nat.reduceLeDiff, Nat.reduceLT, Nat.reduceBEq, PV.scal, PV.scalL, SV.scal, SV.scalL, Ob.scal, PV.isCell, pure', resO]
      exact hN (i + 1, _, _) _ _ (by simp only; omega) (by simp only; omega) rfl rfl
    · have he : i = l.length := by omega
      have h1 : ¬ (i : Int) < l.length := by omega
      simp only [h1, ↓SP, SQ, Gam.add, stepM, callC, argC, lendO, nmBy, nmC, likeL, likeB, plainOb, offs, X, F, trP, trO, stepD, stepW, newA, SV.tr, SV.trL, fz, allP, Ob.tr, loadA, cellsA, SV.cells, binA, binI, eqOut, isSl, isPt, natOf, callee, snap, SV.refsL, SV.refs, thaw, fzAll, loA, hiA, elemOf, partsA, buildA, putCells, ↓reduceIte, reduceCtorEq, okCell, Nat.reduceAdd, Nat.reduceEqDiff, Nat.reduceSub, Nat.reduceMul, Nat.reduceLeDiff, Nat.reduceLT, Nat.reduceBEq, PV.scal, PV.scalL, SV.scal, SV.scalL, Ob.scal, PV.isCell, pure', resO]
      refine hR _ _ _ (by intro h; cases h) ?_
      simp only [↓SP, SQ, Gam.add, stepM, callC, argC, lendO, nmBy, nmC, likeL, likeB, plainOb, offs, X, F, trP, trO, stepD, stepW, newA, SV.tr, SV.trL, fz, allP, Ob.tr, loadA, cellsA, SV.cells, binA, binI, eqOut, isSl, isPt, natOf, callee, snap, SV.refsL, SV.refs, thaw, fzAll, loA, hiA, elemOf, partsA, buildA, putCells, ↓reduceIte, reduceCtorEq, okCell, Nat.reduceAdd, Nat.reduceEqDiff, Nat.reduceSub, Nat.reduceMul, Nat.reduceLeDiff, Nat.reduceLT, Nat.reduceBEq, PV.scal, PV.scalL, SV.scal, SV.scalL, Ob.scal, PV.isCell, pure', resO]
      have ht : (ansL k l).take i = ansL k l := by rw [he, ← hal]; exact List.take_length
      exact finA_gen [10] trivial (by simp [retA, rvA, List.mapM_cons, List.mapM_nil, Option.pure_def, Option.bind_eq_bind, Option.bind_some, Option.map_some, mkE_cons, mk_nil, mkO_cons, mkO_nil, loadA, ↓reduceIte, List.take_succ_cons, List.take_zero, List.drop_zero, List.drop_succ_cons, List.length_cons, List.length_nil, Nat.reduceAdd, Nat.reduceEqDiff, Nat.reduceLeDiff, Nat.zero_add, Nat.le_refl, reduceCtorEq, SV.tr, SV.trL, nmF, rn_nil, rn_cons1, rn_cons2, List.map_cons, List.map_nil, List.all_cons, List.all_nil, plainOb, SV.refsL, SV.refs, Ob.refs, X, F, List.range_succ, List.range_zero, List.nil_append, List.cons_append, List.isEmpty_nil, decide_true, Nat.reduceLT, Bool.and_self, Bool.and_true, and_self, and_true, List.getElem?_cons_zero, List.getElem?_cons_succ, List.nodup_cons, List.nodup_nil, List.mem_cons, List.not_mem_nil, not_false_eq_true, or_false, List.append_nil, mkO, setO_mk, List.mem_singleton]; rfl) (by simp [ht, retA, rvA, List.mapM_cons, List.mapM_nil, Option.pure_def, Option.bind_eq_bind, Option.bind_some, Option.map_some, mkE_cons, mk_nil, mkO_cons, mkO_nil, loadA, ↓reduceIte, List.take_succ_cons, List.take_zero, List.drop_zero, List.drop_succ_cons, List.length_cons, List.length_nil, Nat.reduceAdd, Nat.reduceEqDiff, Nat.reduceLeDiff, Nat.zero_add, Nat.le_refl, reduceCtorEq, SV.tr, SV.trL, nmF, rn_nil, rn_cons1, rn_cons2, List.map_cons, List.map_nil, List.all_cons, List.all_nil, plainOb, SV.refsL, SV.refs, Ob.refs, X, F, List.range_succ, List.range_zero, List.nil_append, List.cons_append, List.isEmpty_nil, decide_true, Nat.reduceLT, Bool.and_self, Bool.and_true, and_self, and_true, List.getElem?_cons_zero, List.getElem?_cons_succ, List.nodup_cons, List.nodup_nil, List.mem_cons, List.not_mem_nil, not_false_eq_true, or_false, List.append_nil, mkO, setO_mk, List.mem_singleton]) (by simp [ht, retA, rvA, List.mapM_cons, List.mapM_nil, Option.pure_def, Option.bind_eq_bind, Option.bind_some, Option.map_some, mkE_cons, mk_nil, mkO_cons, mkO_nil, loadA, ↓reduceIte, List.take_succ_cons, List.take_zero, List.drop_zero, List.drop_succ_cons, List.length_cons, List.length_nil, Nat.reduceAdd, Nat.reduceEqDiff, Nat.reduceLeDiff, Nat.zero_add, Nat.le_refl, reduceCtorEq, SV.tr, SV.trL, nmF, rn_nil, rn_cons1, rn_cons2, List.map_cons, List.map_nil, List.all_cons, List.all_nil, plainOb, SV.refsL, SV.refs, Ob.refs, X, F, List.range_succ, List.range_zero, List.nil_append, List.cons_append, List.isEmpty_nil, decide_true, Nat.reduceLT, Bool.and_self, Bool.and_true, and_self, and_true, List.getElem?_cons_zero, List.getElem?_cons_succ, List.nodup_cons, List.nodup_nil, List.mem_cons, List.not_mem_nil, not_false_eq_true, or_false, List.append_nil, mkO, setO_mk, List.mem_singleton]) (by simp) (by simp) (by simp [retA, rvA, List.mapM_cons, List.mapM_nil, Option.pure_def, Option.bind_eq_bind, Option.bind_some, Option.map_some, mkE_cons, mk_nil, mkO_cons, mkO_nil, loadA, ↓reduceIte, List.take_succ_cons, List.take_zero, List.drop_zero, List.drop_succ_cons, List.length_cons, List.length_nil, Nat.reduceAdd, Nat.reduceEqDiff, Nat.reduceLeDiff, Nat.zero_add, Nat.le_refl, reduceCtorEq, SV.tr, SV.trL, nmF, rn_nil, rn_cons1, rn_cons2, List.map_cons, List.map_nil, List.all_cons, List.all_nil, plainOb, SV.refsL, SV.refs, Ob.refs, X, F, List.range_succ, List.range_zero, List.nil_append, List.cons_append, List.isEmpty_nil, decide_true, Nat.reduceLT, Bool.and_self, Bool.and_true, and_self, and_true, List.getElem?_cons_zero, List.getElem?_cons_succ, List.nodup_cons, List.nodup_nil, List.mem_cons, List.not_mem_nil, not_false_eq_true, or_false, List.append_nil, mkO, setO_mk, List.mem_singleton]) (by simp [ht, retA, rvA, List.mapM_cons, List.mapM_nil, Option.pure_def, Option.bind_eq_bind, Option.bind_some, Option.map_some, mkE_cons, mk_nil, mkO_cons, mkO_nil, loadA, ↓reduceIte, List.take_succ_cons, List.take_zero, List.drop_zero, List.drop_succ_cons, List.length_cons, List.length_nil, Nat.reduceAdd, Nat.reduceEqDiff, Nat.reduceLeDiff, Nat.zero_add, Nat.le_refl, reduceCtorEq, SV.tr, SV.trL, nmF, rn_nil, rn_cons1, rn_cons2, List.map_cons, List.map_nil, List.all_cons, List.all_nil, plainOb, SV.refsL, SV.refs, Ob.refs, X, F, List.range_succ, List.range_zero, List.nil_append, List.cons_append, List.isEmpty_nil, decide_true, Nat.reduceLT, Bool.and_self, Bool.and_true, and_self, and_true, List.getElem?_cons_zero, List.getElem?_cons_succ, List.nodup_cons, List.nodup_nil, List.mem_cons, List.not_mem_nil, not_false_eq_true, or_false, List.append_nil, mkO, setO_mk, List.mem_singleton]) (by simp [ht, retA, rvA, List.mapM_cons, List.mapM_nil, Option.pure_def, Option.bind_eq_bind, Option.bind_some, Option.map_some, mkE_cons, mk_nil, mkO_cons, mkO_nil, loadA, ↓reduceIte, List.take_succ_cons, List.take_zero, List.drop_zero, List.drop_succ_cons, List.length_cons, List.length_nil, Nat.reduceAdd, Nat.reduceEqDiff, Nat.reduceLeDiff, Nat.zero_add, Nat.le_refl, reduceCtorEq, SV.tr, SV.trL, nmF, rn_nil, rn_cons1, rn_cons2, List.map_cons, List.map_nil, List.all_cons, List.all_nil, plainOb, SV.refsL, SV.refs, Ob.refs, X, F, List.range_succ, List.range_zero, List.nil_append, List.cons_append, List.isEmpty_nil, decide_true, Nat.reduceLT, Bool.and_self, Bool.and_true, and_self, and_true, List.getElem?_cons_zero, List.getElem?_cons_succ, List.nodup_cons, List.nodup_nil, List.mem_cons, List.not_mem_nil, not_false_eq_true, or_false, List.append_nil, mkO, setO_mk, List.mem_singleton])
theorem zip_getD (l : List Int) (b : List Bool) (i : Nat) (h1 : i < l.length) (h2 : i < b.length) : (l.zip b).getD i (0, false) = (l.getD i 0, b.getD i false) := by
  rw [getD_lt (by simp; omega), getD_lt h1, getD_lt h2]; simp
/-- Lies behind answers to listed questions. -/
def endL (m : Int) (x l : List Int) (b : List Bool) : List Int := allL (st2 m) x (l.zip b)
theorem isSt_small2 {l : List Int} {m : Int} (h : isSt l m = true) : smallL m l := by
  simp only [isSt, Bool.and_eq_true, List.all_eq_true, decide_eq_true_eq] at h
  intro x hx
  have := (h.2 x hx).2
  omega
theorem endL_ok {m : Int} {x : List Int} (h : smallL m x) (l : List Int) (b : List Bool) : (endL m x l b).length = x.length ∧ smallL m (endL m x l b) := allL_ok (st := st2 m) (m := m) st2_len st2_small h _
def allSm (m : Int) (l : List Int) : Bool := l.all fun x => decide (x ≤ m) || decide (x ≤ 0)
theorem allSm_eq {m : Int} {l : List Int} : allSm m l = true ↔ smallL m l := by
  simp [allSm, smallL]
def a_l8End (f_l2After : FuncId) : AFn := ⟨3, 
  .seq (.reg [⟨some 3, none, .w (.box 2 (.t 0))⟩,
    ⟨some 6, none, .w (.alloc [.nilsl, .int .i64 0])⟩])
  (.seq (.seq (.reg [⟨some 7, none, .d (.mv (.c (.int .i64 0)))⟩])
  (.block 0 (.loop (.seq (.seq (.reg [⟨some 8, none, .d (.mv (.t 7))⟩,
      ⟨some 9, none, .d (.mv (.t 1))⟩,
      ⟨some 10, none, .d (.len (.t 9))⟩,
      ⟨some 11, none, .d (.bin .arith .lss (.t 8) (.t 10))⟩])
    (.cond (.t 11) (.skip) (.exit 0)))
    (.seq (.block 1 (.dreg [] [([], ⟨some 14, none, .d (.load true 2 (.t 3))⟩),
       ([], ⟨some 15, none, .d (.mv (.t 1))⟩),
       ([], ⟨some 16, none, .d (.mv (.t 7))⟩),
       ([], ⟨some 17, none, .d (.ia 1 (.t 15) (.t 16))⟩),
       ([], ⟨some 18, none, .d (.load false 1 (.t 17))⟩),
       ([], ⟨some 19, none, .d (.mv (.t 2))⟩),
       ([], ⟨some 20, none, .d (.mv (.t 7))⟩),
       ([], ⟨some 21, none, .d (.ia 1 (.t 19) (.t 20))⟩),
       ([], ⟨some 22, none, .d (.load false 1 (.t 21))⟩)] [⟨some 23, none, .d (.call (.f f_l2After) [(.t 14), (.t 18), (.t 22)])⟩,
       ⟨none, none, .w (.store 2 (.t 3) (.t 23))⟩]))
    (.reg [⟨some 12, none, .d (.mv (.t 7))⟩,
      ⟨some 13, none, .d (.bin .arith .add (.t 12) (.c (.int .i64 1)))⟩,
      ⟨some 7, none, .d (.mv (.t 13))⟩]))))))
  (.seq (.reg [⟨some 24, none, .d (.load true 2 (.t 3))⟩,
    ⟨none, none, .w (.store 2 (.t 6) (.t 24))⟩])
  (.ret))), [.cell 6 2 true]⟩
def n_l8End : Nat → Option Ann := fun _ => none
abbrev k_l8End : List Nat := [0, 1, 2, 3, 6, 7, 11]
abbrev o_l8End : List Nat := [3, 6]
def a_told (f_answered : FuncId) : AFn := ⟨3, 
  .seq (.reg [⟨some 3, none, .w (.box 2 (.t 0))⟩,
    ⟨some 6, none, .w (.alloc [.nilsl, .int .i64 0])⟩])
  (.seq (.seq (.reg [⟨some 9, none, .d (.mv (.t 1))⟩,
    ⟨some 10, none, .d (.len (.t 9))⟩,
    ⟨some 11, none, .d (.mv (.c (.int .i64 0)))⟩])
  (.block 0 (.loop (.seq (.reg [⟨some 12, none, .d (.bin .arith .lss (.t 11) (.t 10))⟩])
    (.seq (.cond (.t 12) (.skip) (.exit 0))
    (.seq (.block 1 (.seq (.reg [⟨some 13, none, .d (.mv (.t 11))⟩,
       ⟨some 14, none, .d (.ia 1 (.t 9) (.t 11))⟩,
       ⟨some 15, none, .d (.load false 1 (.t 14))⟩,
       ⟨some 7, none, .d (.mv (.t 13))⟩,
       ⟨some 8, none, .d (.mv (.t 15))⟩])
     (.dreg [] [([], ⟨some 16, none, .d (.load true 2 (.t 3))⟩),
       ([], ⟨some 17, none, .d (.mv (.t 8))⟩),
       ([], ⟨some 18, none, .d (.mv (.t 2))⟩),
       ([], ⟨some 19, none, .d (.mv (.t 7))⟩),
       ([], ⟨some 20, none, .d (.ia 1 (.t 18) (.t 19))⟩),
       ([], ⟨some 21, none, .d (.load false 1 (.t 20))⟩),
       ([], ⟨some 22, none, .d (.build [.int .i64 0, .bool false] [(0, 1, (.t 17)), (1, 1, (.t 21))])⟩)] [⟨some 23, none, .d (.call (.f f_answered) [(.t 16), (.t 22)])⟩,
       ⟨none, none, .w (.store 2 (.t 3) (.t 23))⟩])))
    (.reg [⟨some 24, none, .d (.bin .arith .add (.t 11) (.c (.int .i64 1)))⟩,
      ⟨some 11, none, .d (.mv (.t 24))⟩])))))))
  (.seq (.reg [⟨some 25, none, .d (.load true 2 (.t 3))⟩,
    ⟨none, none, .w (.store 2 (.t 6) (.t 25))⟩])
  (.ret))), [.cell 6 2 true]⟩
def n_told : Nat → Option Ann := fun _ => none
abbrev k_told : List Nat := [0, 1, 2, 3, 6, 7, 8, 9, 10, 11, 12]
abbrev o_told : List Nat := [3, 6]
def c_l8End : Con := pure' fun
  | [.p (.agg [.sl 1 x_, .int .i64 m]), .p (.sl 1 l_), .p (.sl 1 b_)] => if isI x_ = true ∧ isI l_ = true ∧ isBo b_ = true ∧ ((ofI x_).length ≤ 1100000 ∧ (ofI l_).length ≤ 1100000 ∧ (ofBo b_).length = (ofI l_).length ∧ m ≤ 1000 ∧ allSm m (ofI x_) = true) then some (.ag [.p (.sl 1 (ints (endL m (ofI x_) (ofI l_) (ofBo b_)))), .p (.int .i64 m)], []) else none
  | _ => none
theorem s_l8End {P : Program} (hm : P.follows .mixedOrders = true) {Γ : Gam} (hΓ : GS P Γ) {n : FuncId} {f_l2After : FuncId} (is : Is P n (a_l8End f_l2After)) (h_l2After : Γ f_l2After = c_l2After)  : Says P n c_l8End := by
  refine Says.pure fun args r fs h => ?_
  split at h
  case h_2 => cases h
  rename_i x_ m l_ b_
  split at h
  case isFalse => cases h
  rename_i hc
  obtain ⟨hx_, hc⟩ := hc
  obtain ⟨x, rfl⟩ := isI_out hx_
  obtain ⟨hl_, hc⟩ := hc
  obtain ⟨l, rfl⟩ := isI_out hl_
  obtain ⟨hb_, hc⟩ := hc
  obtain ⟨b, rfl⟩ := isBo_out hb_
  simp only [ofI_ints, ofBo_bools, ofAs_asks, Option.some.injEq, Prod.mk.injEq] at h hc
  obtain ⟨rfl, rfl⟩ := h
  obtain ⟨hx0, hl0, hb0, hm1, hsm⟩ := hc
  rw [allSm_eq] at hsm
  have hok := fun k => allL_ok (st := st2 m) (m := m) st2_len st2_small hsm ((l.zip b).take k)
  have hzl : (l.zip b).length = l.length := by simp; omega
  refine is.go hm hΓ k_l8End o_l8End (by simp [a_l8End]) ?_
  simp only [a_l8End, h_l2After, c_l2After, List.zipIdx_cons, List.zipIdx_nil, ↓SP, SQ, Gam.add, stepM, callC, argC, lendO, nmBy, nmC, likeL, likeB, plainOb, offs, X, F, trP, trO, stepD, stepW, newA, SV.tr, SV.trL, fz, allP, Ob.tr, loadA, cellsA, SV.cells, binA, binI, eqOut, isSl, isPt, natOf, callee, snap, SV.refsL, SV.refs, thaw, fzAll, loA, hiA, elemOf, partsA, buildA, putCells, ↓reduceIte, reduceCtorEq, okCell, Nat.reduceAdd, Nat.reduceEqDiff, Nat.reduceSub, Nat.reduceMul, Nat.reduceLeDiff, Nat.reduceLT, Nat.reduceBEq, PV.scal, PV.scalL, SV.scal, SV.scalL, Ob.scal, PV.isCell, pure', resO]
  refine loop_at (fun s : Nat × SV => mkEnv [(0, .p (.agg [.sl 1 (ints x), .int .i64 m])), (1, .p (.sl 1 (ints l))), (2, .p (.sl 1 (bools b))), (3, .bx 3 0), (6, .bx 6 0), (7, si s.1), (11, s.2)]) (fun s => mkO [(3, some (.box [.p (.sl 1 (ints (allL (st2 m) x ((l.zip b).take s.1)))), si m])), (6, some (.box [.p .nilsl, si 0]))]) (fun s => s.1 ≤ l.length) (fun s => l.length - s.1) (0, .junk) (by simp) rfl rfl ?_
  rintro ⟨i, c⟩ hi R hR hN
  simp only at hi
  by_cases h : i < l.length
  · have h1 : (i : Int) < l.length := by omega
    have hw := wrap_one (i := i) (by omega)
    have hg := ints_get h
    have hg2 := bools_get (l := b) (i := i) (by omega)
    have hl1 : (allL (st2 m) x ((l.zip b).take i)).length ≤ 1100000 := by rw [(hok i).1]; omega
    have hl2 := small_1000 (hok i).2 hm1
    have hal := allL_one (st2 m) x (l.zip b) i (by omega)
    rw [zip_getD l b i h (by omega)] at hal
    simp only [h1, hw, hg, hg2, h_l2After, c_l2After, hl1, hl2, ↓SP, SQ, Gam.add, stepM, callC, argC, lendO, nmBy, nmC, likeL, likeB, plainOb, offs, X, F, trP, trO, stepD, stepW, newA, SV.tr, SV.trL, fz, allP, Ob.tr, loadA, cellsA, SV.cells, binA, binI, eqOut, isSl, isPt, natOf, callee, snap, SV.refsL, SV.refs, thaw, fzAll, loA, hiA, elemOf, partsA, buildA, putCells, ↓reduceIte, reduceCtorEq, okCell, Nat.reduceAdd, Nat.reduceEqDiff, Nat.reduceSub, Nat.reduceMul, Nat.reduceLeDiff, Nat.reduceLT, Nat.reduceBEq, PV.scal, PV.scalL, SV.scal, SV.scalL, Ob.scal, PV.isCell, pure', resO]
    refine hN (i + 1, _) _ _ (by simp only; omega) (by simp only; omega) rfl (by rw [hal]; rfl)
  · have he : i = l.length := by omega
    have h1 : ¬ (i : Int) < l.length := by omega
    simp only [h1, ↓SP, SQ, Gam.add, stepM, callC, argC, lendO, nmBy, nmC, likeL, likeB, plainOb, offs, X, F, trP, trO, stepD, stepW, newA, SV.tr, SV.trL, fz, allP, Ob.tr, loadA, cellsA, SV.cells, binA, binI, eqOut, isSl, isPt, natOf, callee, snap, SV.refsL, SV.refs, thaw, fzAll, loA, hiA, elemOf, partsA, buildA, putCells, ↓reduceIte, reduceCtorEq, okCell, Nat.reduceAdd, Nat.reduceEqDiff, Nat.reduceSub, Nat.reduceMul, Nat.reduceLeDiff, Nat.reduceLT, Nat.reduceBEq, PV.scal, PV.scalL, SV.scal, SV.scalL, Ob.scal, PV.isCell, pure', resO]
    refine hR _ _ _ (by intro h; cases h) ?_
    simp only [↓SP, SQ, Gam.add, stepM, callC, argC, lendO, nmBy, nmC, likeL, likeB, plainOb, offs, X, F, trP, trO, stepD, stepW, newA, SV.tr, SV.trL, fz, allP, Ob.tr, loadA, cellsA, SV.cells, binA, binI, eqOut, isSl, isPt, natOf, callee, snap, SV.refsL, SV.refs, thaw, fzAll, loA, hiA, elemOf, partsA, buildA, putCells, ↓reduceIte, reduceCtorEq, okCell, Nat.reduceAdd, Nat.reduceEqDiff, Nat.reduceSub, Nat.reduceMul, Nat.reduceLeDiff, Nat.reduceLT, Nat.reduceBEq, PV.scal, PV.scalL, SV.scal, SV.scalL, Ob.scal, PV.isCell, pure', resO]
    have ht : (l.zip b).take i = l.zip b := by rw [he, ← hzl]; exact List.take_length
    exact finA_val (by simp [ht, endL, retA, rvA, List.mapM_cons, List.mapM_nil, Option.pure_def, Option.bind_eq_bind, Option.bind_some, Option.map_some, mkE_cons, mk_nil, mkO_cons, mkO_nil, loadA, ↓reduceIte, List.take_succ_cons, List.take_zero, List.drop_zero, List.drop_succ_cons, List.length_cons, List.length_nil, Nat.reduceAdd, Nat.reduceEqDiff, Nat.reduceLeDiff, Nat.zero_add, Nat.le_refl, reduceCtorEq, SV.tr, SV.trL, nmF, rn_nil, rn_cons1, rn_cons2, List.map_cons, List.map_nil, List.all_cons, List.all_nil, plainOb, SV.refsL, SV.refs, Ob.refs, X, F, List.range_succ, List.range_zero, List.nil_append, List.cons_append, List.isEmpty_nil, decide_true, Nat.reduceLT, Bool.and_self, Bool.and_true, and_self, and_true, List.getElem?_cons_zero, List.getElem?_cons_succ, List.nodup_cons, List.nodup_nil, List.mem_cons, List.not_mem_nil, not_false_eq_true, or_false, List.append_nil, mkO, setO_mk, List.mem_singleton]) (by simp [SV.tr, SV.trL])
theorem s_told {P : Program} (hm : P.follows .mixedOrders = true) {Γ : Gam} (hΓ : GS P Γ) {n : FuncId} {f_answered : FuncId} (is : Is P n (a_told f_answered)) (h_answered : Γ f_answered = c_answered)  : Says P n c_l8End := by
  refine Says.pure fun args r fs h => ?_
  split at h
  case h_2 => cases h
  rename_i x_ m l_ b_
  split at h
  case isFalse => cases h
  rename_i hc
  obtain ⟨hx_, hc⟩ := hc
  obtain ⟨x, rfl⟩ := isI_out hx_
  obtain ⟨hl_, hc⟩ := hc
  obtain ⟨l, rfl⟩ := isI_out hl_
  obtain ⟨hb_, hc⟩ := hc
  obtain ⟨b, rfl⟩ := isBo_out hb_
  simp only [ofI_ints, ofBo_bools, ofAs_asks, Option.some.injEq, Prod.mk.injEq] at h hc
  obtain ⟨rfl, rfl⟩ := h
  obtain ⟨hx0, hl0, hb0, hm1, hsm⟩ := hc
  rw [allSm_eq] at hsm
  have hok := fun k => allL_ok (st := st2 m) (m := m) st2_len st2_small hsm ((l.zip b).take k)
  have hzl : (l.zip b).length = l.length := by simp; omega
  refine is.go hm hΓ k_told o_told (by simp [a_told]) ?_
  simp only [a_told, h_answered, c_answered, List.zipIdx_cons, List.zipIdx_nil, ↓SP, SQ, Gam.add, stepM, callC, argC, lendO, nmBy, nmC, likeL, likeB, plainOb, offs, X, F, trP, trO, stepD, stepW, newA, SV.tr, SV.trL, fz, allP, Ob.tr, loadA, cellsA, SV.cells, binA, binI, eqOut, isSl, isPt, natOf, callee, snap, SV.refsL, SV.refs, thaw, fzAll, loA, hiA, elemOf, partsA, buildA, putCells, ↓reduceIte, reduceCtorEq, okCell, Nat.reduceAdd, Nat.reduceEqDiff, Nat.reduceSub, Nat.reduceMul, Nat.reduceLeDiff, Nat.reduceLT, Nat.reduceBEq, PV.scal, PV.scalL, SV.scal, SV.scalL, Ob.scal, PV.isCell, pure', resO]
  refine loop_at (fun s : Nat × SV × SV × SV => mkEnv [(0, .p (.agg [.sl 1 (ints x), .int .i64 m])), (1, .p (.sl 1 (ints l))), (2, .p (.sl 1 (bools b))), (3, .bx 3 0), (6, .bx 6 0), (7, s.2.1), (8, s.2.2.1), (9, .p (.sl 1 (ints l))), (10, si l.length), (11, si s.1), (12, s.2.2.2)]) (fun s => mkO [(3, some (.box [.p (.sl 1 (ints (allL (st2 m) x ((l.zip b).take s.1)))), si m])), (6, some (.box [.p .nilsl, si 0]))]) (fun s => s.1 ≤ l.length) (fun s => l.length - s.1) (0, .junk, .junk, .junk) (by simp) rfl rfl ?_
  rintro ⟨i, c1, c2, c3⟩ hi R hR hN
  simp only at hi
  by_cases h : i < l.length
  · have h1 : (i : Int) < l.length := by omega
    have hw := wrap_one (i := i) (by omega)
    have hg := ints_get h
    have hg2 := bools_get (l := b) (i := i) (by omega)
    have hl1 : (allL (st2 m) x ((l.zip b).take i)).length ≤ 1100000 := by rw [(hok i).1]; omega
    have hl2 := small_1000 (hok i).2 hm1
    have hal := allL_one (st2 m) x (l.zip b) i (by omega)
    rw [zip_getD l b i h (by omega)] at hal
    simp only [h1, hw, hg, hg2, h_answered, c_answered, hl1, hl2, ↓SP, SQ, Gam.add, stepM, callC, argC, lendO, nmBy, nmC, likeL, likeB, plainOb, offs, X, F, trP, trO, stepD, stepW, newA, SV.tr, SV.trL, fz, allP, Ob.tr, loadA, cellsA, SV.cells, binA, binI, eqOut, isSl, isPt, natOf, callee, snap, SV.refsL, SV.refs, thaw, fzAll, loA, hiA, elemOf, partsA, buildA, putCells, ↓reduceIte, reduceCtorEq, okCell, Nat.reduceAdd, Nat.reduceEqDiff, Nat.reduceSub, Nat.reduceMul, Nat.reduceLeDiff, Nat.reduceLT, Nat.reduceBEq, PV.scal, PV.scalL, SV.scal, SV.scalL, Ob.scal, PV.isCell, pure', resO]
    refine hN (i + 1, _, _, _) _ _ (by simp only; omega) (by simp only; omega) rfl (by rw [hal]; rfl)
  · have he : i = l.length := by omega
    have h1 : ¬ (i : Int) < l.length := by omega
    simp only [h1, ↓SP, SQ, Gam.add, stepM, callC, argC, lendO, nmBy, nmC, likeL, likeB, plainOb, offs, X, F, trP, trO, stepD, stepW, newA, SV.tr, SV.trL, fz, allP, Ob.tr, loadA, cellsA, SV.cells, binA, binI, eqOut, isSl, isPt, natOf, callee, snap, SV.refsL, SV.refs, thaw, fzAll, loA, hiA, elemOf, partsA, buildA, putCells, ↓reduceIte, reduceCtorEq, okCell, Nat.reduceAdd, Nat.reduceEqDiff, Nat.reduceSub, Nat.reduceMul, Nat.reduceLeDiff, Nat.reduceLT, Nat.reduceBEq, PV.scal, PV.scalL, SV.scal, SV.scalL, Ob.scal, PV.isCell, pure', resO]
    refine hR _ _ _ (by intro h; cases h) ?_
    simp only [↓SP, SQ, Gam.add, stepM, callC, argC, lendO, nmBy, nmC, likeL, likeB, plainOb, offs, X, F, trP, trO, stepD, stepW, newA, SV.tr, SV.trL, fz, allP, Ob.tr, loadA, cellsA, SV.cells, binA, binI, eqOut, isSl, isPt, natOf, callee, snap, SV.refsL, SV.refs, thaw, fzAll, loA, hiA, elemOf, partsA, buildA, putCells, ↓reduceIte, reduceCtorEq, okCell, Nat.reduceAdd, Nat.reduceEqDiff, Nat.reduceSub, Nat.reduceMul, Nat.reduceLeDiff, Nat.reduceLT, Nat.reduceBEq, PV.scal, PV.scalL, SV.scal, SV.scalL, Ob.scal, PV.isCell, pure', resO]
    have ht : (l.zip b).take i = l.zip b := by rw [he, ← hzl]; exact List.take_length
    exact finA_val (by simp [ht, endL, retA, rvA, List.mapM_cons, List.mapM_nil, Option.pure_def, Option.bind_eq_bind, Option.bind_some, Option.map_some, mkE_cons, mk_nil, mkO_cons, mkO_nil, loadA, ↓reduceIte, List.take_succ_cons, List.take_zero, List.drop_zero, List.drop_succ_cons, List.length_cons, List.length_nil, Nat.reduceAdd, Nat.reduceEqDiff, Nat.reduceLeDiff, Nat.zero_add, Nat.le_refl, reduceCtorEq, SV.tr, SV.trL, nmF, rn_nil, rn_cons1, rn_cons2, List.map_cons, List.map_nil, List.all_cons, List.all_nil, plainOb, SV.refsL, SV.refs, Ob.refs, X, F, List.range_succ, List.range_zero, List.nil_append, List.cons_append, List.isEmpty_nil, decide_true, Nat.reduceLT, Bool.and_self, Bool.and_true, and_self, and_true, List.getElem?_cons_zero, List.getElem?_cons_succ, List.nodup_cons, List.nodup_nil, List.mem_cons, List.not_mem_nil, not_false_eq_true, or_false, List.append_nil, mkO, setO_mk, List.mem_singleton]) (by simp [SV.tr, SV.trL])
def a_s_AnswerList (f_l8Good : FuncId) (f_l1Own : FuncId) (f_l8End : FuncId) : AFn := ⟨3, 
  .seq (.reg [⟨some 3, none, .w (.box 2 (.t 0))⟩,
    ⟨some 6, none, .w (.alloc [.nilsl, .int .i64 0])⟩,
    ⟨some 7, none, .d (.mv (.c (.bool false)))⟩])
  (.seq (.seq (.reg [⟨some 8, none, .d (.load true 2 (.t 3))⟩,
    ⟨some 9, none, .d (.mv (.t 1))⟩,
    ⟨some 10, none, .d (.call (.f f_l8Good) [(.t 8), (.t 9)])⟩,
    ⟨some 11, none, .d (.not (.t 10))⟩,
    ⟨some 12, none, .d (.mv (.t 11))⟩,
    ⟨some 13, some (12, false), .d (.mv (.t 2))⟩,
    ⟨some 14, some (12, false), .d (.len (.t 13))⟩,
    ⟨some 15, some (12, false), .d (.mv (.t 1))⟩,
    ⟨some 16, some (12, false), .d (.len (.t 15))⟩,
    ⟨some 17, some (12, false), .d (.bin .arith .neq (.t 14) (.t 16))⟩,
    ⟨some 18, none, .d (.pick (.t 12) (.c (.bool true)) (.t 17))⟩])
  (.cond (.t 18) (.seq (.reg [⟨some 19, none, .d (.build [.nilsl, .int .i64 0] [])⟩,
     ⟨none, none, .w (.store 2 (.t 6) (.t 19))⟩,
     ⟨some 7, none, .d (.mv (.c (.bool false)))⟩])
   (.ret)) (.skip)))
  (.seq (.dreg [] [([], ⟨some 20, none, .d (.fa 0 (.t 3))⟩),
    ([], ⟨some 21, none, .d (.load false 1 (.t 20))⟩),
    ([], ⟨some 22, none, .d (.call (.f f_l1Own) [(.t 21)])⟩),
    ([], ⟨some 23, none, .d (.fa 1 (.t 3))⟩),
    ([], ⟨some 24, none, .d (.load false 1 (.t 23))⟩),
    ([], ⟨some 25, none, .d (.build [.nilsl, .int .i64 0] [(0, 1, (.t 22)), (1, 1, (.t 24))])⟩),
    ([], ⟨some 26, none, .d (.mv (.t 1))⟩),
    ([], ⟨some 27, none, .d (.mv (.t 2))⟩)] [⟨some 28, none, .d (.call (.f f_l8End) [(.t 25), (.t 26), (.t 27)])⟩,
    ⟨none, none, .w (.store 2 (.t 6) (.t 28))⟩,
    ⟨some 7, none, .d (.mv (.c (.bool true)))⟩])
  (.ret))), [.cell 6 2 true, .tmp 7]⟩
def n_s_AnswerList : Nat → Option Ann := fun _ => none
abbrev k_s_AnswerList : List Nat := [0, 1, 2, 3, 6, 7, 18]
abbrev o_s_AnswerList : List Nat := [3, 6]
/-- Whether answers fit a list of questions. -/
def okL (x : List Int) (m : Int) (l : List Int) (b : List Bool) : Bool := isL x m l && decide (b.length = l.length)
def c_s_AnswerList : Con := pure' fun
  | [.p (.agg [.sl 1 x_, .int .i64 m]), .p (.sl 1 l_), .p (.sl 1 b_)] => if isI x_ = true ∧ isI l_ = true ∧ isBo b_ = true ∧ ((ofI x_).length ≤ 1100000 ∧ (ofI l_).length ≤ 1100000 ∧ (ofBo b_).length ≤ 1100000) then some (if okL (ofI x_) m (ofI l_) (ofBo b_) = true then .tp [.ag [.p (.sl 1 (ints (endL m (ofI x_) (ofI l_) (ofBo b_)))), .p (.int .i64 m)], .p (.bool true)] else .tp [.ag [.p .nilsl, .p (.int .i64 0)], .p (.bool false)], []) else none
  | _ => none
theorem s_s_AnswerList {P : Program} (hm : P.follows .mixedOrders = true) {Γ : Gam} (hΓ : GS P Γ) {n : FuncId} {f_l8Good : FuncId} {f_l1Own : FuncId} {f_l8End : FuncId} (is : Is P n (a_s_AnswerList f_l8Good f_l1Own f_l8End)) (h_l8Good : Γ f_l8Good = c_areListed) (h_l1Own : Γ f_l1Own = c_Clone) (h_l8End : Γ f_l8End = c_l8End)  : Says P n c_s_AnswerList := by
  refine Says.pure fun args r fs h => ?_
  split at h
  case h_2 => cases h
  rename_i x_ m l_ b_
  split at h
  case isFalse => cases h
  rename_i hc
  obtain ⟨hx_, hc⟩ := hc
  obtain ⟨x, rfl⟩ := isI_out hx_
  obtain ⟨hl_, hc⟩ := hc
  obtain ⟨l, rfl⟩ := isI_out hl_
  obtain ⟨hb_, hc⟩ := hc
  obtain ⟨b, rfl⟩ := isBo_out hb_
  simp only [ofI_ints, ofBo_bools, ofAs_asks, Option.some.injEq, Prod.mk.injEq] at h hc
  obtain ⟨rfl, rfl⟩ := h
  cases hL : isL x m l with
  | false =>
    have hok0 : okL x m l b = false := by simp only [okL, hL, Bool.false_and]
    refine is.go hm hΓ k_s_AnswerList o_s_AnswerList (by simp [a_s_AnswerList]) ?_
    simp only [a_s_AnswerList, h_l8Good, c_areListed, h_l1Own, c_Clone, h_l8End, c_l8End, hc, hL, hok0, Bool.false_eq_true, List.zipIdx_cons, List.zipIdx_nil, ↓SP, SQ, Gam.add, stepM, callC, argC, lendO, nmBy, nmC, likeL, likeB, plainOb, offs, X, F, trP, trO, stepD, stepW, newA, SV.tr, SV.trL, fz, allP, Ob.tr, loadA, cellsA, SV.cells, binA, binI, eqOut, isSl, isPt, natOf, callee, snap, SV.refsL, SV.refs, thaw, fzAll, loA, hiA, elemOf, partsA, buildA, putCells, ↓reduceIte, reduceCtorEq, okCell, Nat.reduceAdd, Nat.reduceEqDiff, Nat.reduceSub, Nat.reduceMul, Nat.reduceLeDiff, Nat.reduceLT, Nat.reduceBEq, PV.scal, PV.scalL, SV.scal, SV.scalL, Ob.scal, PV.isCell, pure', resO]
    exact finA_val (by simp [retA, rvA, List.mapM_cons, List.mapM_nil, Option.pure_def, Option.bind_eq_bind, Option.bind_some, Option.map_some, mkE_cons, mk_nil, mkO_cons, mkO_nil, loadA, ↓reduceIte, List.take_succ_cons, List.take_zero, List.drop_zero, List.drop_succ_cons, List.length_cons, List.length_nil, Nat.reduceAdd, Nat.reduceEqDiff, Nat.reduceLeDiff, Nat.zero_add, Nat.le_refl, reduceCtorEq, SV.tr, SV.trL, nmF, rn_nil, rn_cons1, rn_cons2, List.map_cons, List.map_nil, List.all_cons, List.all_nil, plainOb, SV.refsL, SV.refs, Ob.refs, X, F, List.range_succ, List.range_zero, List.nil_append, List.cons_append, List.isEmpty_nil, decide_true, Nat.reduceLT, Bool.and_self, Bool.and_true, and_self, and_true, List.getElem?_cons_zero, List.getElem?_cons_succ, List.nodup_cons, List.nodup_nil, List.mem_cons, List.not_mem_nil, not_false_eq_true, or_false, List.append_nil, mkO, setO_mk, List.mem_singleton]) (by simp [SV.tr, SV.trL])
  | true =>
    by_cases hb : b.length = l.length
    · have hok0 : okL x m l b = true := by simp only [okL, hL, hb, decide_true, Bool.and_self]
      have hne : ((b.length : Int) != (l.length : Int)) = false := by rw [hb]; exact bne_self_eq_false _
      obtain ⟨h1, h2⟩ := isL_st hL
      have hs := allSm_eq.2 (isSt_small2 h1)
      have hm2 : m ≤ 1000 := by
        simp only [isSt, Bool.and_eq_true, decide_eq_true_eq] at h1; omega
      refine is.go hm hΓ k_s_AnswerList o_s_AnswerList (by simp [a_s_AnswerList]) ?_
      simp only [a_s_AnswerList, h_l8Good, c_areListed, h_l1Own, c_Clone, h_l8End, c_l8End, hc, hL, hok0, hne, hb, hs, hm2, List.zipIdx_cons, List.zipIdx_nil, ↓SP, SQ, Gam.add, stepM, callC, argC, lendO, nmBy, nmC, likeL, likeB, plainOb, offs, X, F, trP, trO, stepD, stepW, newA, SV.tr, SV.trL, fz, allP, Ob.tr, loadA, cellsA, SV.cells, binA, binI, eqOut, isSl, isPt, natOf, callee, snap, SV.refsL, SV.refs, thaw, fzAll, loA, hiA, elemOf, partsA, buildA, putCells, ↓reduceIte, reduceCtorEq, okCell, Nat.reduceAdd, Nat.reduceEqDiff, Nat.reduceSub, Nat.reduceMul, Nat.reduceLeDiff, Nat.reduceLT, Nat.reduceBEq, PV.scal, PV.scalL, SV.scal, SV.scalL, Ob.scal, PV.isCell, pure', resO]
      exact finA_val (by simp [retA, rvA, List.mapM_cons, List.mapM_nil, Option.pure_def, Option.bind_eq_bind, Option.bind_some, Option.map_some, mkE_cons, mk_nil, mkO_cons, mkO_nil, loadA, ↓reduceIte, List.take_succ_cons, List.take_zero, List.drop_zero, List.drop_succ_cons, List.length_cons, List.length_nil, Nat.reduceAdd, Nat.reduceEqDiff, Nat.reduceLeDiff, Nat.zero_add, Nat.le_refl, reduceCtorEq, SV.tr, SV.trL, nmF, rn_nil, rn_cons1, rn_cons2, List.map_cons, List.map_nil, List.all_cons, List.all_nil, plainOb, SV.refsL, SV.refs, Ob.refs, X, F, List.range_succ, List.range_zero, List.nil_append, List.cons_append, List.isEmpty_nil, decide_true, Nat.reduceLT, Bool.and_self, Bool.and_true, and_self, and_true, List.getElem?_cons_zero, List.getElem?_cons_succ, List.nodup_cons, List.nodup_nil, List.mem_cons, List.not_mem_nil, not_false_eq_true, or_false, List.append_nil, mkO, setO_mk, List.mem_singleton]) (by simp [SV.tr, SV.trL])
    · have hok0 : okL x m l b = false := by simp only [okL, hL, hb, decide_false, Bool.and_false]
      have hne : ((b.length : Int) != (l.length : Int)) = true := bne_iff_ne.2 (by omega)
      refine is.go hm hΓ k_s_AnswerList o_s_AnswerList (by simp [a_s_AnswerList]) ?_
      simp only [a_s_AnswerList, h_l8Good, c_areListed, h_l1Own, c_Clone, h_l8End, c_l8End, hc, hL, hok0, hne, Bool.false_eq_true, List.zipIdx_cons, List.zipIdx_nil, ↓SP, SQ, Gam.add, stepM, callC, argC, lendO, nmBy, nmC, likeL, likeB, plainOb, offs, X, F, trP, trO, stepD, stepW, newA, SV.tr, SV.trL, fz, allP, Ob.tr, loadA, cellsA, SV.cells, binA, binI, eqOut, isSl, isPt, natOf, callee, snap, SV.refsL, SV.refs, thaw, fzAll, loA, hiA, elemOf, partsA, buildA, putCells, ↓reduceIte, reduceCtorEq, okCell, Nat.reduceAdd, Nat.reduceEqDiff, Nat.reduceSub, Nat.reduceMul, Nat.reduceLeDiff, Nat.reduceLT, Nat.reduceBEq, PV.scal, PV.scalL, SV.scal, SV.scalL, Ob.scal, PV.isCell, pure', resO]
      exact finA_val (by simp [retA, rvA, List.mapM_cons, List.mapM_nil, Option.pure_def, Option.bind_eq_bind, Option.bind_some, Option.map_some, mkE_cons, mk_nil, mkO_cons, mkO_nil, loadA, ↓reduceIte, List.take_succ_cons, List.take_zero, List.drop_zero, List.drop_succ_cons, List.length_cons, List.length_nil, Nat.reduceAdd, Nat.reduceEqDiff, Nat.reduceLeDiff, Nat.zero_add, Nat.le_refl, reduceCtorEq, SV.tr, SV.trL, nmF, rn_nil, rn_cons1, rn_cons2, List.map_cons, List.map_nil, List.all_cons, List.all_nil, plainOb, SV.refsL, SV.refs, Ob.refs, X, F, List.range_succ, List.range_zero, List.nil_append, List.cons_append, List.isEmpty_nil, decide_true, Nat.reduceLT, Bool.and_self, Bool.and_true, and_self, and_true, List.getElem?_cons_zero, List.getElem?_cons_succ, List.nodup_cons, List.nodup_nil, List.mem_cons, List.not_mem_nil, not_false_eq_true, or_false, List.append_nil, mkO, setO_mk, List.mem_singleton]) (by simp [SV.tr, SV.trL])
def a_AnswerList (f_areListed : FuncId) (f_CloneB : FuncId) (f_told : FuncId) (f_after : FuncId) (f_AnswerList1 : FuncId) : AFn := ⟨3, 
  .seq (.reg [⟨some 3, none, .w (.box 2 (.t 0))⟩,
    ⟨some 6, none, .w (.alloc [.nilsl, .int .i64 0])⟩,
    ⟨some 7, none, .d (.mv (.c (.bool false)))⟩])
  (.seq (.seq (.reg [⟨some 8, none, .d (.load true 2 (.t 3))⟩,
    ⟨some 9, none, .d (.mv (.t 1))⟩,
    ⟨some 10, none, .d (.call (.f f_areListed) [(.t 8), (.t 9)])⟩,
    ⟨some 11, none, .d (.not (.t 10))⟩,
    ⟨some 12, none, .d (.mv (.t 11))⟩,
    ⟨some 13, some (12, false), .d (.mv (.t 2))⟩,
    ⟨some 14, some (12, false), .d (.len (.t 13))⟩,
    ⟨some 15, some (12, false), .d (.mv (.t 1))⟩,
    ⟨some 16, some (12, false), .d (.len (.t 15))⟩,
    ⟨some 17, some (12, false), .d (.bin .arith .neq (.t 14) (.t 16))⟩,
    ⟨some 18, none, .d (.pick (.t 12) (.c (.bool true)) (.t 17))⟩])
  (.cond (.t 18) (.seq (.reg [⟨some 19, none, .d (.build [.nilsl, .int .i64 0] [])⟩,
     ⟨none, none, .w (.store 2 (.t 6) (.t 19))⟩,
     ⟨some 7, none, .d (.mv (.c (.bool false)))⟩])
   (.ret)) (.skip)))
  (.seq (.dreg [] [([], ⟨some 20, none, .d (.load true 2 (.t 3))⟩),
    ([], ⟨some 21, none, .d (.mv (.t 1))⟩),
    ([], ⟨some 22, none, .d (.mv (.t 2))⟩),
    ([], ⟨some 23, none, .d (.call (.f f_CloneB) [(.t 22)])⟩)] [⟨some 24, none, .d (.call (.f f_told) [(.t 20), (.t 21), (.t 23)])⟩,
    ⟨some 25, none, .w (.callL (.f f_after) [(.t 24), (.f f_AnswerList1)] [] 1 false)⟩,
    ⟨none, none, .w (.store 2 (.t 6) (.t 25))⟩,
    ⟨some 7, none, .d (.mv (.c (.bool true)))⟩])
  (.ret))), [.cell 6 2 true, .tmp 7]⟩
def n_AnswerList : Nat → Option Ann := fun d => if d = 25 then some ⟨[], 1, false⟩ else none
abbrev k_AnswerList : List Nat := [0, 1, 2, 3, 6, 7, 18]
abbrev o_AnswerList : List Nat := [3, 6, 25]
def c_AnswerList : Con := pure' fun
  | [.p (.agg [.sl 1 x_, .int .i64 m]), .p (.sl 1 l_), .p (.sl 1 b_)] => if isI x_ = true ∧ isI l_ = true ∧ isBo b_ = true ∧ ((ofI x_).length ≤ 1100000 ∧ (ofI l_).length ≤ 1100000 ∧ (ofBo b_).length ≤ 1100000) then some (if okL (ofI x_) m (ofI l_) (ofBo b_) = true then .tp [.ag [.ar 2000000, .p (.int .i64 m)], .p (.bool true)] else .tp [.ag [.p .nilsl, .p (.int .i64 0)], .p (.bool false)], if okL (ofI x_) m (ofI l_) (ofBo b_) = true then [.arr 1 (ints (endL m (ofI x_) (ofI l_) (ofBo b_)))] else []) else none
  | _ => none
theorem s_AnswerList {P : Program} (hm : P.follows .mixedOrders = true) {Γ : Gam} (hΓ : GS P Γ) {n : FuncId} {f_areListed : FuncId} {f_CloneB : FuncId} {f_told : FuncId} {f_after : FuncId} {f_AnswerList1 : FuncId} (is : Is P n (a_AnswerList f_areListed f_CloneB f_told f_after f_AnswerList1)) (h_areListed : Γ f_areListed = c_areListed) (h_CloneB : Γ f_CloneB = c_CloneB) (h_told : Γ f_told = c_l8End) {Γ0 : Gam} (h_after : Γ f_after = c_after Γ0) (h_no : Γ0 f_AnswerList1 = c_no) : Says P n c_AnswerList := by
  refine Says.pure fun args r fs h => ?_
  split at h
  case h_2 => cases h
  rename_i x_ m l_ b_
  split at h
  case isFalse => cases h
  rename_i hc
  obtain ⟨hx_, hc⟩ := hc
  obtain ⟨x, rfl⟩ := isI_out hx_
  obtain ⟨hl_, hc⟩ := hc
  obtain ⟨l, rfl⟩ := isI_out hl_
  obtain ⟨hb_, hc⟩ := hc
  obtain ⟨b, rfl⟩ := isBo_out hb_
  simp only [ofI_ints, ofBo_bools, ofAs_asks, Option.some.injEq, Prod.mk.injEq] at h hc
  obtain ⟨rfl, rfl⟩ := h
  cases hL : isL x m l with
  | false =>
    have hok0 : okL x m l b = false := by simp only [okL, hL, Bool.false_and]
    refine is.go hm hΓ k_AnswerList o_AnswerList (by simp [a_AnswerList]) ?_
    simp only [a_AnswerList, h_areListed, c_areListed, h_CloneB, c_CloneB, h_told, c_l8End, hc, hL, hok0, Bool.false_eq_true, List.zipIdx_cons, List.zipIdx_nil, ↓SP, SQ, Gam.add, stepM, callC, argC, lendO, nmBy, nmC, likeL, likeB, plainOb, offs, X, F, trP, trO, stepD, stepW, newA, SV.tr, SV.trL, fz, allP, Ob.tr, loadA, cellsA, SV.cells, binA, binI, eqOut, isSl, isPt, natOf, callee, snap, SV.refsL, SV.refs, thaw, fzAll, loA, hiA, elemOf, partsA, buildA, putCells, ↓reduceIte, reduceCtorEq, okCell, Nat.reduceAdd, Nat.reduceEqDiff, Nat.reduceSub, Nat.reduceMul, Nat.reduceLeDiff, Nat.reduceLT, Nat.reduceBEq, PV.scal, PV.scalL, SV.scal, SV.scalL, Ob.scal, PV.isCell, pure', resO]
    exact finA_gen [] trivial (by simp [retA, rvA, List.mapM_cons, List.mapM_nil, Option.pure_def, Option.bind_eq_bind, Option.bind_some, Option.map_some, mkE_cons, mk_nil, mkO_cons, mkO_nil, loadA, ↓reduceIte, List.take_succ_cons, List.take_zero, List.drop_zero, List.drop_succ_cons, List.length_cons, List.length_nil, Nat.reduceAdd, Nat.reduceEqDiff, Nat.reduceLeDiff, Nat.zero_add, Nat.le_refl, reduceCtorEq, SV.tr, SV.trL, nmF, rn_nil, rn_cons1, rn_cons2, List.map_cons, List.map_nil, List.all_cons, List.all_nil, plainOb, SV.refsL, SV.refs, Ob.refs, X, F, List.range_succ, List.range_zero, List.nil_append, List.cons_append, List.isEmpty_nil, decide_true, Nat.reduceLT, Bool.and_self, Bool.and_true, and_self, and_true, List.getElem?_cons_zero, List.getElem?_cons_succ, List.nodup_cons, List.nodup_nil, List.mem_cons, List.not_mem_nil, not_false_eq_true, or_false, List.append_nil, mkO, setO_mk, List.mem_singleton]; rfl) (by simp [retA, rvA, List.mapM_cons, List.mapM_nil, Option.pure_def, Option.bind_eq_bind, Option.bind_some, Option.map_some, mkE_cons, mk_nil, mkO_cons, mkO_nil, loadA, ↓reduceIte, List.take_succ_cons, List.take_zero, List.drop_zero, List.drop_succ_cons, List.length_cons, List.length_nil, Nat.reduceAdd, Nat.reduceEqDiff, Nat.reduceLeDiff, Nat.zero_add, Nat.le_refl, reduceCtorEq, SV.tr, SV.trL, nmF, rn_nil, rn_cons1, rn_cons2, List.map_cons, List.map_nil, List.all_cons, List.all_nil, plainOb, SV.refsL, SV.refs, Ob.refs, X, F, List.range_succ, List.range_zero, List.nil_append, List.cons_append, List.isEmpty_nil, decide_true, Nat.reduceLT, Bool.and_self, Bool.and_true, and_self, and_true, List.getElem?_cons_zero, List.getElem?_cons_succ, List.nodup_cons, List.nodup_nil, List.mem_cons, List.not_mem_nil, not_false_eq_true, or_false, List.append_nil, mkO, setO_mk, List.mem_singleton]) (by simp [retA, rvA, List.mapM_cons, List.mapM_nil, Option.pure_def, Option.bind_eq_bind, Option.bind_some, Option.map_some, mkE_cons, mk_nil, mkO_cons, mkO_nil, loadA, ↓reduceIte, List.take_succ_cons, List.take_zero, List.drop_zero, List.drop_succ_cons, List.length_cons, List.length_nil, Nat.reduceAdd, Nat.reduceEqDiff, Nat.reduceLeDiff, Nat.zero_add, Nat.le_refl, reduceCtorEq, SV.tr, SV.trL, nmF, rn_nil, rn_cons1, rn_cons2, List.map_cons, List.map_nil, List.all_cons, List.all_nil, plainOb, SV.refsL, SV.refs, Ob.refs, X, F, List.range_succ, List.range_zero, List.nil_append, List.cons_append, List.isEmpty_nil, decide_true, Nat.reduceLT, Bool.and_self, Bool.and_true, and_self, and_true, List.getElem?_cons_zero, List.getElem?_cons_succ, List.nodup_cons, List.nodup_nil, List.mem_cons, List.not_mem_nil, not_false_eq_true, or_false, List.append_nil, mkO, setO_mk, List.mem_singleton]) (by simp) (by simp) (by simp [retA, rvA, List.mapM_cons, List.mapM_nil, Option.pure_def, Option.bind_eq_bind, Option.bind_some, Option.map_some, mkE_cons, mk_nil, mkO_cons, mkO_nil, loadA, ↓reduceIte, List.take_succ_cons, List.take_zero, List.drop_zero, List.drop_succ_cons, List.length_cons, List.length_nil, Nat.reduceAdd, Nat.reduceEqDiff, Nat.reduceLeDiff, Nat.zero_add, Nat.le_refl, reduceCtorEq, SV.tr, SV.trL, nmF, rn_nil, rn_cons1, rn_cons2, List.map_cons, List.map_nil, List.all_cons, List.all_nil, plainOb, SV.refsL, SV.refs, Ob.refs, X, F, List.range_succ, List.range_zero, List.nil_append, List.cons_append, List.isEmpty_nil, decide_true, Nat.reduceLT, Bool.and_self, Bool.and_true, and_self, and_true, List.getElem?_cons_zero, List.getElem?_cons_succ, List.nodup_cons, List.nodup_nil, List.mem_cons, List.not_mem_nil, not_false_eq_true, or_false, List.append_nil, mkO, setO_mk, List.mem_singleton]) (by simp [retA, rvA, List.mapM_cons, List.mapM_nil, Option.pure_def, Option.bind_eq_bind, Option.bind_some, Option.map_some, mkE_cons, mk_nil, mkO_cons, mkO_nil, loadA, ↓reduceIte, List.take_succ_cons, List.take_zero, List.drop_zero, List.drop_succ_cons, List.length_cons, List.length_nil, Nat.reduceAdd, Nat.reduceEqDiff, Nat.reduceLeDiff, Nat.zero_add, Nat.le_refl, reduceCtorEq, SV.tr, SV.trL, nmF, rn_nil, rn_cons1, rn_cons2, List.map_cons, List.map_nil, List.all_cons, List.all_nil, plainOb, SV.refsL, SV.refs, Ob.refs, X, F, List.range_succ, List.range_zero, List.nil_append, List.cons_append, List.isEmpty_nil, decide_true, Nat.reduceLT, Bool.and_self, Bool.and_true, and_self, and_true, List.getElem?_cons_zero, List.getElem?_cons_succ, List.nodup_cons, List.nodup_nil, List.mem_cons, List.not_mem_nil, not_false_eq_true, or_false, List.append_nil, mkO, setO_mk, List.mem_singleton]) (by simp [retA, rvA, List.mapM_cons, List.mapM_nil, Option.pure_def, Option.bind_eq_bind, Option.bind_some, Option.map_some, mkE_cons, mk_nil, mkO_cons, mkO_nil, loadA, ↓reduceIte, List.take_succ_cons, List.take_zero, List.drop_zero, List.drop_succ_cons, List.length_cons, List.length_nil, Nat.reduceAdd, Nat.reduceEqDiff, Nat.reduceLeDiff, Nat.zero_add, Nat.le_refl, reduceCtorEq, SV.tr, SV.trL, nmF, rn_nil, rn_cons1, rn_cons2, List.map_cons, List.map_nil, List.all_cons, List.all_nil, plainOb, SV.refsL, SV.refs, Ob.refs, X, F, List.range_succ, List.range_zero, List.nil_append, List.cons_append, List.isEmpty_nil, decide_true, Nat.reduceLT, Bool.and_self, Bool.and_true, and_self, and_true, List.getElem?_cons_zero, List.getElem?_cons_succ, List.nodup_cons, List.nodup_nil, List.mem_cons, List.not_mem_nil, not_false_eq_true, or_false, List.append_nil, mkO, setO_mk, List.mem_singleton])
  | true =>
    by_cases hb : b.length = l.length
    · have hok0 : okL x m l b = true := by simp only [okL, hL, hb, decide_true, Bool.and_self]
      have hne : ((b.length : Int) != (l.length : Int)) = false := by rw [hb]; exact bne_self_eq_false _
      obtain ⟨h1, h2⟩ := isL_st hL
      have hs := allSm_eq.2 (isSt_small2 h1)
      have hm2 : m ≤ 1000 := by
        simp only [isSt, Bool.and_eq_true, decide_eq_true_eq] at h1; omega
      have hek := endL_ok (isSt_small2 h1) l b
      have hel : (endL m x l b).length ≤ 1100000 := by rw [hek.1]; exact hc.1
      have hes := small_1000 hek.2 hm2
      have hask := ask_no h_no (endL m x l b).length
      refine is.go hm hΓ k_AnswerList o_AnswerList (by simp [a_AnswerList]) ?_
      simp only [a_AnswerList, h_areListed, c_areListed, h_CloneB, c_CloneB, h_told, c_l8End, hc, hL, hok0, hne, hb, hs, hm2, hel, hes, h_after, c_after, hask, afterL_no', ints_len, List.zipIdx_cons, List.zipIdx_nil, ↓SP, SQ, Gam.add, stepM, callC, argC, lendO, nmBy, nmC, likeL, likeB, plainOb, offs, X, F, trP, trO, stepD, stepW, newA, SV.tr, SV.trL, fz, allP, Ob.tr, loadA, cellsA, SV.cells, binA, binI, eqOut, isSl, isPt, natOf, callee, snap, SV.refsL, SV.refs, thaw, fzAll, loA, hiA, elemOf, partsA, buildA, putCells, ↓reduceIte, reduceCtorEq, okCell, Nat.reduceAdd, Nat.reduceEqDiff, Nat.reduceSub, Nat.reduceMul, Nat.reduceLeDiff, Nat.reduceLT, Nat.reduceBEq, PV.scal, PV.scalL, SV.scal, SV.scalL, Ob.scal, PV.isCell, pure', resO]
      trace_state
      exact finA_gen [25] trivial (by simp [retA, rvA, List.mapM_cons, List.mapM_nil, Option.pure_def, Option.bind_eq_bind, Option.bind_some, Option.map_some, mkE_cons, mk_nil, mkO_cons, mkO_nil, loadA, ↓reduceIte, List.take_succ_cons, List.take_zero, List.drop_zero, List.drop_succ_cons, List.length_cons, List.length_nil, Nat.reduceAdd, Nat.reduceEqDiff, Nat.reduceLeDiff, Nat.zero_add, Nat.le_refl, reduceCtorEq, SV.tr, SV.trL, nmF, rn_nil, rn_cons1, rn_cons2, List.map_cons, List.map_nil, List.all_cons, List.all_nil, plainOb, SV.refsL, SV.refs, Ob.refs, X, F, List.range_succ, List.range_zero, List.nil_append, List.cons_append, List.isEmpty_nil, decide_true, Nat.reduceLT, Bool.and_self, Bool.and_true, and_self, and_true, List.getElem?_cons_zero, List.getElem?_cons_succ, List.nodup_cons, List.nodup_nil, List.mem_cons, List.not_mem_nil, not_false_eq_true, or_false, List.append_nil, mkO, setO_mk, List.mem_singleton]; rfl) (by simp [retA, rvA, List.mapM_cons, List.mapM_nil, Option.pure_def, Option.bind_eq_bind, Option.bind_some, Option.map_some, mkE_cons, mk_nil, mkO_cons, mkO_nil, loadA, ↓reduceIte, List.take_succ_cons, List.take_zero, List.drop_zero, List.drop_succ_cons, List.length_cons, List.length_nil, Nat.reduceAdd, Nat.reduceEqDiff, Nat.reduceLeDiff, Nat.zero_add, Nat.le_refl, reduceCtorEq, SV.tr, SV.trL, nmF, rn_nil, rn_cons1, rn_cons2, List.map_cons, List.map_nil, List.all_cons, List.all_nil, plainOb, SV.refsL, SV.refs, Ob.refs, X, F, List.range_succ, List.range_zero, List.nil_append, List.cons_append, List.isEmpty_nil, decide_true, Nat.reduceLT, Bool.and_self, Bool.and_true, and_self, and_true, List.getElem?_cons_zero, List.getElem?_cons_succ, List.nodup_cons, List.nodup_nil, List.mem_cons, List.not_mem_nil, not_false_eq_true, or_false, List.append_nil, mkO, setO_mk, List.mem_singleton]) (by simp [retA, rvA, List.mapM_cons, List.mapM_nil, Option.pure_def, Option.bind_eq_bind, Option.bind_some, Option.map_some, mkE_cons, mk_nil, mkO_cons, mkO_nil, loadA, ↓reduceIte, List.take_succ_cons, List.take_zero, List.drop_zero, List.drop_succ_cons, List.length_cons, List.length_nil, Nat.reduceAdd, Nat.reduceEqDiff, Nat.reduceLeDiff, Nat.zero_add, Nat.le_refl, reduceCtorEq, SV.tr, SV.trL, nmF, rn_nil, rn_cons1, rn_cons2, List.map_cons, List.map_nil, List.all_cons, List.all_nil, plainOb, SV.refsL, SV.refs, Ob.refs, X, F, List.range_succ, List.range_zero, List.nil_append, List.cons_append, List.isEmpty_nil, decide_true, Nat.reduceLT, Bool.and_self, Bool.and_true, and_self, and_true, List.getElem?_cons_zero, List.getElem?_cons_succ, List.nodup_cons, List.nodup_nil, List.mem_cons, List.not_mem_nil, not_false_eq_true, or_false, List.append_nil, mkO, setO_mk, List.mem_singleton]) (by simp) (by simp) (by simp [retA, rvA, List.mapM_cons, List.mapM_nil, Option.pure_def, Option.bind_eq_bind, Option.bind_some, Option.map_some, mkE_cons, mk_nil, mkO_cons, mkO_nil, loadA, ↓reduceIte, List.take_succ_cons, List.take_zero, List.drop_zero, List.drop_succ_cons, List.length_cons, List.length_nil, Nat.reduceAdd, Nat.reduceEqDiff, Nat.reduceLeDiff, Nat.zero_add, Nat.le_refl, reduceCtorEq, SV.tr, SV.trL, nmF, rn_nil, rn_cons1, rn_cons2, List.map_cons, List.map_nil, List.all_cons, List.all_nil, plainOb, SV.refsL, SV.refs, Ob.refs, X, F, List.range_succ, List.range_zero, List.nil_append, List.cons_append, List.isEmpty_nil, decide_true, Nat.reduceLT, Bool.and_self, Bool.and_true, and_self, and_true, List.getElem?_cons_zero, List.getElem?_cons_succ, List.nodup_cons, List.nodup_nil, List.mem_cons, List.not_mem_nil, not_false_eq_true, or_false, List.append_nil, mkO, setO_mk, List.mem_singleton]) (by simp [retA, rvA, List.mapM_cons, List.mapM_nil, Option.pure_def, Option.bind_eq_bind, Option.bind_some, Option.map_some, mkE_cons, mk_nil, mkO_cons, mkO_nil, loadA, ↓reduceIte, List.take_succ_cons, List.take_zero, List.drop_zero, List.drop_succ_cons, List.length_cons, List.length_nil, Nat.reduceAdd, Nat.reduceEqDiff, Nat.reduceLeDiff, Nat.zero_add, Nat.le_refl, reduceCtorEq, SV.tr, SV.trL, nmF, rn_nil, rn_cons1, rn_cons2, List.map_cons, List.map_nil, List.all_cons, List.all_nil, plainOb, SV.refsL, SV.refs, Ob.refs, X, F, List.range_succ, List.range_zero, List.nil_append, List.cons_append, List.isEmpty_nil, decide_true, Nat.reduceLT, Bool.and_self, Bool.and_true, and_self, and_true, List.getElem?_cons_zero, List.getElem?_cons_succ, List.nodup_cons, List.nodup_nil, List.mem_cons, List.not_mem_nil, not_false_eq_true, or_false, List.append_nil, mkO, setO_mk, List.mem_singleton]) (by simp [retA, rvA, List.mapM_cons, List.mapM_nil, Option.pure_def, Option.bind_eq_bind, Option.bind_some, Option.map_some, mkE_cons, mk_nil, mkO_cons, mkO_nil, loadA, ↓reduceIte, List.take_succ_cons, List.take_zero, List.drop_zero, List.drop_succ_cons, List.length_cons, List.length_nil, Nat.reduceAdd, Nat.reduceEqDiff, Nat.reduceLeDiff, Nat.zero_add, Nat.le_refl, reduceCtorEq, SV.tr, SV.trL, nmF, rn_nil, rn_cons1, rn_cons2, List.map_cons, List.map_nil, List.all_cons, List.all_nil, plainOb, SV.refsL, SV.refs, Ob.refs, X, F, List.range_succ, List.range_zero, List.nil_append, List.cons_append, List.isEmpty_nil, decide_true, Nat.reduceLT, Bool.and_self, Bool.and_true, and_self, and_true, List.getElem?_cons_zero, List.getElem?_cons_succ, List.nodup_cons, List.nodup_nil, List.mem_cons, List.not_mem_nil, not_false_eq_true, or_false, List.append_nil, mkO, setO_mk, List.mem_singleton])
    · have hok0 : okL x m l b = false := by simp only [okL, hL, hb, decide_false, Bool.and_false]
      have hne : ((b.length : Int) != (l.length : Int)) = true := bne_iff_ne.2 (by omega)
      refine is.go hm hΓ k_AnswerList o_AnswerList (by simp [a_AnswerList]) ?_
      simp only [a_AnswerList, h_areListed, c_areListed, h_CloneB, c_CloneB, h_told, c_l8End, hc, hL, hok0, hne, Bool.false_eq_true, List.zipIdx_cons, List.zipIdx_nil, ↓SP, SQ, Gam.add, stepM, callC, argC, lendO, nmBy, nmC, likeL, likeB, plainOb, offs, X, F, trP, trO, stepD, stepW, newA, SV.tr, SV.trL, fz, allP, Ob.tr, loadA, cellsA, SV.cells, binA, binI, eqOut, isSl, isPt, natOf, callee, snap, SV.refsL, SV.refs, thaw, fzAll, loA, hiA, elemOf, partsA, buildA, putCells, ↓reduceIte, reduceCtorEq, okCell, Nat.reduceAdd, Nat.reduceEqDiff, Nat.reduceSub, Nat.reduceMul, Nat.reduceLeDiff, Nat.reduceLT, Nat.reduceBEq, PV.scal, PV.scalL, SV.scal, SV.scalL, Ob.scal, PV.isCell, pure', resO]
      exact finA_gen [] trivial (by simp [retA, rvA, List.mapM_cons, List.mapM_nil, Option.pure_def, Option.bind_eq_bind, Option.bind_some, Option.map_some, mkE_cons, mk_nil, mkO_cons, mkO_nil, loadA, ↓reduceIte, List.take_succ_cons, List.take_zero, List.drop_zero, List.drop_succ_cons, List.length_cons, List.length_nil, Nat.reduceAdd, Nat.reduceEqDiff, Nat.reduceLeDiff, Nat.zero_add, Nat.le_refl, reduceCtorEq, SV.tr, SV.trL, nmF, rn_nil, rn_cons1, rn_cons2, List.map_cons, List.map_nil, List.all_cons, List.all_nil, plainOb, SV.refsL, SV.refs, Ob.refs, X, F, List.range_succ, List.range_zero, List.nil_append, List.cons_append, List.isEmpty_nil, decide_true, Nat.reduceLT, Bool.and_self, Bool.and_true, and_self, and_true, List.getElem?_cons_zero, List.getElem?_cons_succ, List.nodup_cons, List.nodup_nil, List.mem_cons, List.not_mem_nil, not_false_eq_true, or_false, List.append_nil, mkO, setO_mk, List.mem_singleton]; rfl) (by simp [retA, rvA, List.mapM_cons, List.mapM_nil, Option.pure_def, Option.bind_eq_bind, Option.bind_some, Option.map_some, mkE_cons, mk_nil, mkO_cons, mkO_nil, loadA, ↓reduceIte, List.take_succ_cons, List.take_zero, List.drop_zero, List.drop_succ_cons, List.length_cons, List.length_nil, Nat.reduceAdd, Nat.reduceEqDiff, Nat.reduceLeDiff, Nat.zero_add, Nat.le_refl, reduceCtorEq, SV.tr, SV.trL, nmF, rn_nil, rn_cons1, rn_cons2, List.map_cons, List.map_nil, List.all_cons, List.all_nil, plainOb, SV.refsL, SV.refs, Ob.refs, X, F, List.range_succ, List.range_zero, List.nil_append, List.cons_append, List.isEmpty_nil, decide_true, Nat.reduceLT, Bool.and_self, Bool.and_true, and_self, and_true, List.getElem?_cons_zero, List.getElem?_cons_succ, List.nodup_cons, List.nodup_nil, List.mem_cons, List.not_mem_nil, not_false_eq_true, or_false, List.append_nil, mkO, setO_mk, List.mem_singleton]) (by simp [retA, rvA, List.mapM_cons, List.mapM_nil, Option.pure_def, Option.bind_eq_bind, Option.bind_some, Option.map_some, mkE_cons, mk_nil, mkO_cons, mkO_nil, loadA, ↓reduceIte, List.take_succ_cons, List.take_zero, List.drop_zero, List.drop_succ_cons, List.length_cons, List.length_nil, Nat.reduceAdd, Nat.reduceEqDiff, Nat.reduceLeDiff, Nat.zero_add, Nat.le_refl, reduceCtorEq, SV.tr, SV.trL, nmF, rn_nil, rn_cons1, rn_cons2, List.map_cons, List.map_nil, List.all_cons, List.all_nil, plainOb, SV.refsL, SV.refs, Ob.refs, X, F, List.range_succ, List.range_zero, List.nil_append, List.cons_append, List.isEmpty_nil, decide_true, Nat.reduceLT, Bool.and_self, Bool.and_true, and_self, and_true, List.getElem?_cons_zero, List.getElem?_cons_succ, List.nodup_cons, List.nodup_nil, List.mem_cons, List.not_mem_nil, not_false_eq_true, or_false, List.append_nil, mkO, setO_mk, List.mem_singleton]) (by simp) (by simp) (by simp [retA, rvA, List.mapM_cons, List.mapM_nil, Option.pure_def, Option.bind_eq_bind, Option.bind_some, Option.map_some, mkE_cons, mk_nil, mkO_cons, mkO_nil, loadA, ↓reduceIte, List.take_succ_cons, List.take_zero, List.drop_zero, List.drop_succ_cons, List.length_cons, List.length_nil, Nat.reduceAdd, Nat.reduceEqDiff, Nat.reduceLeDiff, Nat.zero_add, Nat.le_refl, reduceCtorEq, SV.tr, SV.trL, nmF, rn_nil, rn_cons1, rn_cons2, List.map_cons, List.map_nil, List.all_cons, List.all_nil, plainOb, SV.refsL, SV.refs, Ob.refs, X, F, List.range_succ, List.range_zero, List.nil_append, List.cons_append, List.isEmpty_nil, decide_true, Nat.reduceLT, Bool.and_self, Bool.and_true, and_self, and_true, List.getElem?_cons_zero, List.getElem?_cons_succ, List.nodup_cons, List.nodup_nil, List.mem_cons, List.not_mem_nil, not_false_eq_true, or_false, List.append_nil, mkO, setO_mk, List.mem_singleton]) (by simp [retA, rvA, List.mapM_cons, List.mapM_nil, Option.pure_def, Option.bind_eq_bind, Option.bind_some, Option.map_some, mkE_cons, mk_nil, mkO_cons, mkO_nil, loadA, ↓reduceIte, List.take_succ_cons, List.take_zero, List.drop_zero, List.drop_succ_cons, List.length_cons, List.length_nil, Nat.reduceAdd, Nat.reduceEqDiff, Nat.reduceLeDiff, Nat.zero_add, Nat.le_refl, reduceCtorEq, SV.tr, SV.trL, nmF, rn_nil, rn_cons1, rn_cons2, List.map_cons, List.map_nil, List.all_cons, List.all_nil, plainOb, SV.refsL, SV.refs, Ob.refs, X, F, List.range_succ, List.range_zero, List.nil_append, List.cons_append, List.isEmpty_nil, decide_true, Nat.reduceLT, Bool.and_self, Bool.and_true, and_self, and_true, List.getElem?_cons_zero, List.getElem?_cons_succ, List.nodup_cons, List.nodup_nil, List.mem_cons, List.not_mem_nil, not_false_eq_true, or_false, List.append_nil, mkO, setO_mk, List.mem_singleton]) (by simp [retA, rvA, List.mapM_cons, List.mapM_nil, Option.pure_def, Option.bind_eq_bind, Option.bind_some, Option.map_some, mkE_cons, mk_nil, mkO_cons, mkO_nil, loadA, ↓reduceIte, List.take_succ_cons, List.take_zero, List.drop_zero, List.drop_succ_cons, List.length_cons, List.length_nil, Nat.reduceAdd, Nat.reduceEqDiff, Nat.reduceLeDiff, Nat.zero_add, Nat.le_refl, reduceCtorEq, SV.tr, SV.trL, nmF, rn_nil, rn_cons1, rn_cons2, List.map_cons, List.map_nil, List.all_cons, List.all_nil, plainOb, SV.refsL, SV.refs, Ob.refs, X, F, List.range_succ, List.range_zero, List.nil_append, List.cons_append, List.isEmpty_nil, decide_true, Nat.reduceLT, Bool.and_self, Bool.and_true, and_self, and_true, List.getElem?_cons_zero, List.getElem?_cons_succ, List.nodup_cons, List.nodup_nil, List.mem_cons, List.not_mem_nil, not_false_eq_true, or_false, List.append_nil, mkO, setO_mk, List.mem_singleton])
end Go.Proofs.Ytnonkjcklgihhaa.Pam
