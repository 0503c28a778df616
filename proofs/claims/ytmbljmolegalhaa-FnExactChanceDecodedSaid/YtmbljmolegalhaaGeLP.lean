/- A part of the proof that stands in this folder: a small machine whose steps are shown to be the steps of the model, or walks of functions by it. No condition of its own. -/
import Derived.Test.YtmbljmolegalhaaGeLD
set_option linter.unusedVariables false
set_option linter.unusedSimpArgs false
namespace Go.Proofs.Ytmbljmolegalhaa.Pam
open Go
/-- Whether a doubt is one. -/
def isD (s o : Int) : Bool := decide (1 ≤ o) && decide (o ≤ 10) && (decide (0 ≤ s) && decide (s ≤ o))
def a_IsDoubt (f_in : FuncId) : AFn := ⟨1, 
  .seq (.reg [⟨some 1, none, .w (.box 2 (.t 0))⟩,
    ⟨some 2, none, .d (.mv (.c (.bool false)))⟩])
  (.seq (.reg [⟨some 3, none, .d (.fa 1 (.t 1))⟩,
    ⟨some 4, none, .d (.load false 1 (.t 3))⟩,
    ⟨some 5, none, .d (.call (.f f_in) [(.t 4), (.c (.int .i64 1)), (.c (.int .i64 10))])⟩,
    ⟨some 6, none, .d (.mv (.t 5))⟩,
    ⟨some 7, some (6, true), .d (.fa 0 (.t 1))⟩,
    ⟨some 8, some (6, true), .d (.load false 1 (.t 7))⟩,
    ⟨some 9, some (6, true), .d (.fa 1 (.t 1))⟩,
    ⟨some 10, some (6, true), .d (.load false 1 (.t 9))⟩,
    ⟨some 11, some (6, true), .d (.call (.f f_in) [(.t 8), (.c (.int .i64 0)), (.t 10)])⟩,
    ⟨some 12, none, .d (.pick (.t 6) (.t 11) (.c (.bool false)))⟩,
    ⟨some 2, none, .d (.mv (.t 12))⟩])
  (.ret)), [.tmp 2]⟩
def n_IsDoubt : Nat → Option Ann := fun _ => none
abbrev k_IsDoubt : List Nat := [0, 1, 2]
abbrev o_IsDoubt : List Nat := [1]
def a_l7Good (f_l1In : FuncId) : AFn := ⟨1, 
  .seq (.reg [⟨some 1, none, .w (.box 2 (.t 0))⟩,
    ⟨some 2, none, .d (.mv (.c (.bool false)))⟩])
  (.seq (.reg [⟨some 3, none, .d (.fa 1 (.t 1))⟩,
    ⟨some 4, none, .d (.load false 1 (.t 3))⟩,
    ⟨some 5, none, .d (.call (.f f_l1In) [(.t 4), (.c (.int .i64 1)), (.c (.int .i64 10))])⟩,
    ⟨some 6, none, .d (.mv (.t 5))⟩,
    ⟨some 7, some (6, true), .d (.fa 0 (.t 1))⟩,
    ⟨some 8, some (6, true), .d (.load false 1 (.t 7))⟩,
    ⟨some 9, some (6, true), .d (.fa 1 (.t 1))⟩,
    ⟨some 10, some (6, true), .d (.load false 1 (.t 9))⟩,
    ⟨some 11, some (6, true), .d (.call (.f f_l1In) [(.t 8), (.c (.int .i64 0)), (.t 10)])⟩,
    ⟨some 12, none, .d (.pick (.t 6) (.t 11) (.c (.bool false)))⟩,
    ⟨some 2, none, .d (.mv (.t 12))⟩])
  (.ret)), [.tmp 2]⟩
def n_l7Good : Nat → Option Ann := fun _ => none
abbrev k_l7Good : List Nat := [0, 1, 2]
abbrev o_l7Good : List Nat := [1]
def c_IsDoubt : Con := pure' fun
  | [.p (.agg [.int .i64 s, .int .i64 o])] => if (True) then some (.p (.bool (isD s o)), []) else none
  | _ => none
theorem s_IsDoubt {P : Program} (hm : P.follows .mixedOrders = true) {Γ : Gam} (hΓ : GS P Γ) {n : FuncId} {f_in : FuncId} (is : Is P n (a_IsDoubt f_in)) (h_in : Γ f_in = c_in)  : Says P n c_IsDoubt := by
  refine Says.pure fun args r fs h => ?_
  split at h
  case h_2 => cases h
  rename_i s o
  split at h
  case isFalse => cases h
  rename_i hc
  simp only [ofI_ints, ofBo_bools, ofAs_asks, Option.some.injEq, Prod.mk.injEq] at h hc
  obtain ⟨rfl, rfl⟩ := h
  cases h1 : (decide (1 ≤ o) && decide (o ≤ 10)) with
  | false =>
    have hb : isD s o = false := by simp only [isD, h1, Bool.false_and]
    refine is.go hm hΓ k_IsDoubt o_IsDoubt (by simp [a_IsDoubt]) ?_
    simp only [a_IsDoubt, h_in, c_in, h1, hb, List.zipIdx_cons, List.zipIdx_nil, ↓SP, SQ, Gam.add, stepM, callC, argC, lendO, nmBy, nmC, likeL, likeB, plainOb, offs, X, F, trP, trO, stepD, stepW, newA, SV.tr, SV.trL, fz, allP, Ob.tr, loadA, cellsA, SV.cells, binA, binI, eqOut, isSl, isPt, natOf, callee, snap, SV.refsL, SV.refs, thaw, fzAll, loA, hiA, elemOf, partsA, buildA, putCells, ↓reduceIte, reduceCtorEq, okCell, Nat.reduceAdd, Nat.reduceEqDiff, Nat.reduceSub, Nat.reduceMul, Nat.reduceLeDiff, Nat.reduceLT, Nat.reduceBEq, PV.scal, PV.scalL, SV.scal, SV.scalL, Ob.scal, PV.isCell, pure', resO]
    exact finA_val (by simp [retA, rvA, List.mapM_cons, List.mapM_nil, Option.pure_def, Option.bind_eq_bind, Option.bind_some, Option.map_some, mkE_cons, mk_nil, mkO_cons, mkO_nil, loadA, ↓reduceIte, List.take_succ_cons, List.take_zero, List.drop_zero, List.drop_succ_cons, List.length_cons, List.length_nil, Nat.reduceAdd, Nat.reduceEqDiff, Nat.reduceLeDiff, Nat.zero_add, Nat.le_refl, reduceCtorEq, SV.tr, SV.trL, nmF, rn_nil, rn_cons1, rn_cons2, List.map_cons, List.map_nil, List.all_cons, List.all_nil, plainOb, SV.refsL, SV.refs, Ob.refs, X, F, List.range_succ, List.range_zero, List.nil_append, List.cons_append, List.isEmpty_nil, decide_true, Nat.reduceLT, Bool.and_self, Bool.and_true, and_self, and_true, List.getElem?_cons_zero, List.getElem?_cons_succ, List.nodup_cons, List.nodup_nil, List.mem_cons, List.not_mem_nil, not_false_eq_true, or_false, List.append_nil, mkO, setO_mk, List.mem_singleton]) (by simp [SV.tr, SV.trL])
  | true =>
    have hb : isD s o = (decide (0 ≤ s) && decide (s ≤ o)) := by simp only [isD, h1, Bool.true_and]
    refine is.go hm hΓ k_IsDoubt o_IsDoubt (by simp [a_IsDoubt]) ?_
    simp only [a_IsDoubt, h_in, c_in, h1, hb, List.zipIdx_cons, List.zipIdx_nil, ↓SP, SQ, Gam.add, stepM, callC, argC, lendO, nmBy, nmC, likeL, likeB, plainOb, offs, X, F, trP, trO, stepD, stepW, newA, SV.tr, SV.trL, fz, allP, Ob.tr, loadA, cellsA, SV.cells, binA, binI, eqOut, isSl, isPt, natOf, callee, snap, SV.refsL, SV.refs, thaw, fzAll, loA, hiA, elemOf, partsA, buildA, putCells, ↓reduceIte, reduceCtorEq, okCell, Nat.reduceAdd, Nat.reduceEqDiff, Nat.reduceSub, Nat.reduceMul, Nat.reduceLeDiff, Nat.reduceLT, Nat.reduceBEq, PV.scal, PV.scalL, SV.scal, SV.scalL, Ob.scal, PV.isCell, pure', resO]
    exact finA_val (by simp [retA, rvA, List.mapM_cons, List.mapM_nil, Option.pure_def, Option.bind_eq_bind, Option.bind_some, Option.map_some, mkE_cons, mk_nil, mkO_cons, mkO_nil, loadA, ↓reduceIte, List.take_succ_cons, List.take_zero, List.drop_zero, List.drop_succ_cons, List.length_cons, List.length_nil, Nat.reduceAdd, Nat.reduceEqDiff, Nat.reduceLeDiff, Nat.zero_add, Nat.le_refl, reduceCtorEq, SV.tr, SV.trL, nmF, rn_nil, rn_cons1, rn_cons2, List.map_cons, List.map_nil, List.all_cons, List.all_nil, plainOb, SV.refsL, SV.refs, Ob.refs, X, F, List.range_succ, List.range_zero, List.nil_append, List.cons_append, List.isEmpty_nil, decide_true, Nat.reduceLT, Bool.and_self, Bool.and_true, and_self, and_true, List.getElem?_cons_zero, List.getElem?_cons_succ, List.nodup_cons, List.nodup_nil, List.mem_cons, List.not_mem_nil, not_false_eq_true, or_false, List.append_nil, mkO, setO_mk, List.mem_singleton]) (by simp [SV.tr, SV.trL])
theorem s_l7Good {P : Program} (hm : P.follows .mixedOrders = true) {Γ : Gam} (hΓ : GS P Γ) {n : FuncId} {f_l1In : FuncId} (is : Is P n (a_l7Good f_l1In)) (h_l1In : Γ f_l1In = c_in)  : Says P n c_IsDoubt := by
  refine Says.pure fun args r fs h => ?_
  split at h
  case h_2 => cases h
  rename_i s o
  split at h
  case isFalse => cases h
  rename_i hc
  simp only [ofI_ints, ofBo_bools, ofAs_asks, Option.some.injEq, Prod.mk.injEq] at h hc
  obtain ⟨rfl, rfl⟩ := h
  cases h1 : (decide (1 ≤ o) && decide (o ≤ 10)) with
  | false =>
    have hb : isD s o = false := by simp only [isD, h1, Bool.false_and]
    refine is.go hm hΓ k_l7Good o_l7Good (by simp [a_l7Good]) ?_
    simp only [a_l7Good, h_l1In, c_in, h1, hb, List.zipIdx_cons, List.zipIdx_nil, ↓SP, SQ, Gam.add, stepM, callC, argC, lendO, nmBy, nmC, likeL, likeB, plainOb, offs, X, F, trP, trO, stepD, stepW, newA, SV.tr, SV.trL, fz, allP, Ob.tr, loadA, cellsA, SV.cells, binA, binI, eqOut, isSl, isPt, natOf, callee, snap, SV.refsL, SV.refs, thaw, fzAll, loA, hiA, elemOf, partsA, buildA, putCells, ↓reduceIte, reduceCtorEq, okCell, Nat.reduceAdd, Nat.reduceEqDiff, Nat.reduceSub, Nat.reduceMul, Nat.reduceLeDiff, Nat.reduceLT, Nat.reduceBEq, PV.scal, PV.scalL, SV.scal, SV.scalL, Ob.scal, PV.isCell, pure', resO]
    exact finA_val (by simp [retA, rvA, List.mapM_cons, List.mapM_nil, Option.pure_def, Option.bind_eq_bind, Option.bind_some, Option.map_some, mkE_cons, mk_nil, mkO_cons, mkO_nil, loadA, ↓reduceIte, List.take_succ_cons, List.take_zero, List.drop_zero, List.drop_succ_cons, List.length_cons, List.length_nil, Nat.reduceAdd, Nat.reduceEqDiff, Nat.reduceLeDiff, Nat.zero_add, Nat.le_refl, reduceCtorEq, SV.tr, SV.trL, nmF, rn_nil, rn_cons1, rn_cons2, List.map_cons, List.map_nil, List.all_cons, List.all_nil, plainOb, SV.refsL, SV.refs, Ob.refs, X, F, List.range_succ, List.range_zero, List.nil_append, List.cons_append, List.isEmpty_nil, decide_true, Nat.reduceLT, Bool.and_self, Bool.and_true, and_self, and_true, List.getElem?_cons_zero, List.getElem?_cons_succ, List.nodup_cons, List.nodup_nil, List.mem_cons, List.not_mem_nil, not_false_eq_true, or_false, List.append_nil, mkO, setO_mk, List.mem_singleton]) (by simp [SV.tr, SV.trL])
  | true =>
    have hb : isD s o = (decide (0 ≤ s) && decide (s ≤ o)) := by simp only [isD, h1, Bool.true_and]
    refine is.go hm hΓ k_l7Good o_l7Good (by simp [a_l7Good]) ?_
    simp only [a_l7Good, h_l1In, c_in, h1, hb, List.zipIdx_cons, List.zipIdx_nil, ↓SP, SQ, Gam.add, stepM, callC, argC, lendO, nmBy, nmC, likeL, likeB, plainOb, offs, X, F, trP, trO, stepD, stepW, newA, SV.tr, SV.trL, fz, allP, Ob.tr, loadA, cellsA, SV.cells, binA, binI, eqOut, isSl, isPt, natOf, callee, snap, SV.refsL, SV.refs, thaw, fzAll, loA, hiA, elemOf, partsA, buildA, putCells, ↓reduceIte, reduceCtorEq, okCell, Nat.reduceAdd, Nat.reduceEqDiff, Nat.reduceSub, Nat.reduceMul, Nat.reduceLeDiff, Nat.reduceLT, Nat.reduceBEq, PV.scal, PV.scalL, SV.scal, SV.scalL, Ob.scal, PV.isCell, pure', resO]
    exact finA_val (by simp [retA, rvA, List.mapM_cons, List.mapM_nil, Option.pure_def, Option.bind_eq_bind, Option.bind_some, Option.map_some, mkE_cons, mk_nil, mkO_cons, mkO_nil, loadA, ↓reduceIte, List.take_succ_cons, List.take_zero, List.drop_zero, List.drop_succ_cons, List.length_cons, List.length_nil, Nat.reduceAdd, Nat.reduceEqDiff, Nat.reduceLeDiff, Nat.zero_add, Nat.le_refl, reduceCtorEq, SV.tr, SV.trL, nmF, rn_nil, rn_cons1, rn_cons2, List.map_cons, List.map_nil, List.all_cons, List.all_nil, plainOb, SV.refsL, SV.refs, Ob.refs, X, F, List.range_succ, List.range_zero, List.nil_append, List.cons_append, List.isEmpty_nil, decide_true, Nat.reduceLT, Bool.and_self, Bool.and_true, and_self, and_true, List.getElem?_cons_zero, List.getElem?_cons_succ, List.nodup_cons, List.nodup_nil, List.mem_cons, List.not_mem_nil, not_false_eq_true, or_false, List.append_nil, mkO, setO_mk, List.mem_singleton]) (by simp [SV.tr, SV.trL])
def a_toDoubt : AFn := ⟨1, 
  .seq (.reg [⟨some 1, none, .w (.box 2 (.t 0))⟩,
    ⟨some 2, none, .w (.alloc [.int .i64 0, .int .i64 0])⟩])
  (.seq (.reg [⟨some 3, none, .w (.alloc [.int .i64 0, .int .i64 0])⟩])
  (.seq (.reg [⟨some 4, none, .d (.fa 0 (.t 1))⟩,
    ⟨some 5, none, .d (.load false 1 (.t 4))⟩,
    ⟨some 6, none, .d (.fa 0 (.t 3))⟩,
    ⟨none, none, .w (.store 1 (.t 6) (.t 5))⟩])
  (.seq (.reg [⟨some 7, none, .d (.fa 1 (.t 1))⟩,
    ⟨some 8, none, .d (.load false 1 (.t 7))⟩,
    ⟨some 9, none, .d (.fa 1 (.t 3))⟩,
    ⟨none, none, .w (.store 1 (.t 9) (.t 8))⟩])
  (.seq (.reg [⟨some 10, none, .d (.load true 2 (.t 3))⟩,
    ⟨none, none, .w (.store 2 (.t 2) (.t 10))⟩])
  (.ret))))), [.cell 2 2 true]⟩
def n_toDoubt : Nat → Option Ann := fun _ => none
abbrev k_toDoubt : List Nat := [0, 1, 2, 3]
abbrev o_toDoubt : List Nat := [1, 2, 3]
def c_toDoubt : Con := pure' fun
  | [.p (.agg [.int .i64 s, .int .i64 o])] => if (True) then some (.ag [.p (.int .i64 s), .p (.int .i64 o)], []) else none
  | _ => none
theorem s_toDoubt {P : Program} (hm : P.follows .mixedOrders = true) {Γ : Gam} (hΓ : GS P Γ) {n : FuncId} (is : Is P n a_toDoubt)  : Says P n c_toDoubt := by
  refine Says.pure fun args r fs h => ?_
  split at h
  case h_2 => cases h
  rename_i s o
  split at h
  case isFalse => cases h
  rename_i hc
  simp only [ofI_ints, ofBo_bools, ofAs_asks, Option.some.injEq, Prod.mk.injEq] at h hc
  obtain ⟨rfl, rfl⟩ := h
  refine is.go hm hΓ k_toDoubt o_toDoubt (by simp [a_toDoubt]) ?_
  simp only [a_toDoubt, List.zipIdx_cons, List.zipIdx_nil, ↓SP, SQ, Gam.add, stepM, callC, argC, lendO, nmBy, nmC, likeL, likeB, plainOb, offs, X, F, trP, trO, stepD, stepW, newA, SV.tr, SV.trL, fz, allP, Ob.tr, loadA, cellsA, SV.cells, binA, binI, eqOut, isSl, isPt, natOf, callee, snap, SV.refsL, SV.refs, thaw, fzAll, loA, hiA, elemOf, partsA, buildA, putCells, ↓reduceIte, reduceCtorEq, okCell, Nat.reduceAdd, Nat.reduceEqDiff, Nat.reduceSub, Nat.reduceMul, Nat.reduceLeDiff, Nat.reduceLT, Nat.reduceBEq, PV.scal, PV.scalL, SV.scal, SV.scalL, Ob.scal, PV.isCell, pure', resO]
  exact finA_val (by simp [retA, rvA, List.mapM_cons, List.mapM_nil, Option.pure_def, Option.bind_eq_bind, Option.bind_some, Option.map_some, mkE_cons, mk_nil, mkO_cons, mkO_nil, loadA, ↓reduceIte, List.take_succ_cons, List.take_zero, List.drop_zero, List.drop_succ_cons, List.length_cons, List.length_nil, Nat.reduceAdd, Nat.reduceEqDiff, Nat.reduceLeDiff, Nat.zero_add, Nat.le_refl, reduceCtorEq, SV.tr, SV.trL, nmF, rn_nil, rn_cons1, rn_cons2, List.map_cons, List.map_nil, List.all_cons, List.all_nil, plainOb, SV.refsL, SV.refs, Ob.refs, X, F, List.range_succ, List.range_zero, List.nil_append, List.cons_append, List.isEmpty_nil, decide_true, Nat.reduceLT, Bool.and_self, Bool.and_true, and_self, and_true, List.getElem?_cons_zero, List.getElem?_cons_succ, List.nodup_cons, List.nodup_nil, List.mem_cons, List.not_mem_nil, not_false_eq_true, or_false, List.append_nil, mkO, setO_mk, List.mem_singleton]) (by simp [SV.tr, SV.trL])
theorem pow_le {b e : Nat} (hb : b ≤ 10) (he : e ≤ 12) : b ^ e ≤ 10 ^ 12 := Nat.le_trans (Nat.pow_le_pow_left hb e) (Nat.pow_le_pow_right (by omega) he)
theorem pow_step {b i : Nat} (hb : b ≤ 10) (hi : i < 12) : IntKind.i64.wrap (((b ^ i : Nat) : Int) * (b : Int)) = ((b ^ (i + 1) : Nat) : Int) := by
  have h1 := pow_le (e := i + 1) hb (by omega)
  rw [← Int.natCast_mul, ← Nat.pow_succ]
  generalize b ^ (i + 1) = q at *
  exact wrap64 (by omega) (by omega)
def a_power : AFn := ⟨2, 
  .seq (.reg [⟨some 4, none, .d (.mv (.c (.int .i64 0)))⟩])
  (.seq (.reg [⟨some 5, none, .d (.mv (.c (.int .i64 1)))⟩])
  (.seq (.seq (.reg [⟨some 6, none, .d (.mv (.t 1))⟩,
    ⟨some 7, none, .d (.mv (.c (.int .i64 0)))⟩])
  (.block 0 (.loop (.seq (.reg [⟨some 8, none, .d (.bin .arith .lss (.t 7) (.t 6))⟩])
    (.seq (.cond (.t 8) (.skip) (.exit 0))
    (.seq (.block 1 (.reg [⟨some 9, none, .d (.mv (.t 5))⟩,
       ⟨some 10, none, .d (.mv (.t 0))⟩,
       ⟨some 11, none, .d (.bin .arith .mul (.t 9) (.t 10))⟩,
       ⟨some 5, none, .d (.mv (.t 11))⟩]))
    (.reg [⟨some 12, none, .d (.bin .arith .add (.t 7) (.c (.int .i64 1)))⟩,
      ⟨some 7, none, .d (.mv (.t 12))⟩])))))))
  (.seq (.reg [⟨some 13, none, .d (.mv (.t 5))⟩,
    ⟨some 4, none, .d (.mv (.t 13))⟩])
  (.ret)))), [.tmp 4]⟩
def n_power : Nat → Option Ann := fun _ => none
abbrev k_power : List Nat := [0, 1, 4, 5, 6, 7, 8]
abbrev o_power : List Nat := []
def a_l7Power : AFn := ⟨2, 
  .seq (.reg [⟨some 4, none, .d (.mv (.c (.int .i64 0)))⟩])
  (.seq (.reg [⟨some 5, none, .d (.mv (.c (.int .i64 1)))⟩])
  (.seq (.seq (.reg [⟨some 6, none, .d (.mv (.c (.int .i64 0)))⟩])
  (.block 0 (.loop (.seq (.seq (.reg [⟨some 7, none, .d (.mv (.t 6))⟩,
      ⟨some 8, none, .d (.mv (.t 1))⟩,
      ⟨some 9, none, .d (.bin .arith .lss (.t 7) (.t 8))⟩])
    (.cond (.t 9) (.skip) (.exit 0)))
    (.seq (.block 1 (.reg [⟨some 12, none, .d (.mv (.t 5))⟩,
       ⟨some 13, none, .d (.mv (.t 0))⟩,
       ⟨some 14, none, .d (.bin .arith .mul (.t 12) (.t 13))⟩,
       ⟨some 5, none, .d (.mv (.t 14))⟩]))
    (.reg [⟨some 10, none, .d (.mv (.t 6))⟩,
      ⟨some 11, none, .d (.bin .arith .add (.t 10) (.c (.int .i64 1)))⟩,
      ⟨some 6, none, .d (.mv (.t 11))⟩]))))))
  (.seq (.reg [⟨some 15, none, .d (.mv (.t 5))⟩,
    ⟨some 4, none, .d (.mv (.t 15))⟩])
  (.ret)))), [.tmp 4]⟩
def n_l7Power : Nat → Option Ann := fun _ => none
abbrev k_l7Power : List Nat := [0, 1, 4, 5, 6, 9]
abbrev o_l7Power : List Nat := []
def c_power : Con := pure' fun
  | [.p (.int .i64 b), .p (.int .i64 e)] => if (0 ≤ b ∧ b ≤ 10 ∧ 0 ≤ e ∧ e ≤ 12) then some (.p (.int .i64 ((b.toNat ^ e.toNat : Nat) : Int)), []) else none
  | _ => none
theorem s_power {P : Program} (hm : P.follows .mixedOrders = true) {Γ : Gam} (hΓ : GS P Γ) {n : FuncId} (is : Is P n a_power)  : Says P n c_power := by
  refine Says.pure fun args r fs h => ?_
  split at h
  case h_2 => cases h
  rename_i b e
  split at h
  case isFalse => cases h
  rename_i hc
  simp only [ofI_ints, ofBo_bools, ofAs_asks, Option.some.injEq, Prod.mk.injEq] at h hc
  obtain ⟨rfl, rfl⟩ := h
  obtain ⟨h0, h1, h2, h3⟩ := hc
  obtain ⟨b, rfl⟩ : ∃ j : Nat, b = j := ⟨b.toNat, by omega⟩
  obtain ⟨e, rfl⟩ : ∃ j : Nat, e = j := ⟨e.toNat, by omega⟩
  simp only [Int.toNat_natCast]
  refine is.go hm hΓ k_power o_power (by simp [a_power]) ?_
  simp only [a_power, List.zipIdx_cons, List.zipIdx_nil, ↓SP, SQ, Gam.add, stepM, callC, argC, lendO, nmBy, nmC, likeL, likeB, plainOb, offs, X, F, trP, trO, stepD, stepW, newA, SV.tr, SV.trL, fz, allP, Ob.tr, loadA, cellsA, SV.cells, binA, binI, eqOut, isSl, isPt, natOf, callee, snap, SV.refsL, SV.refs, thaw, fzAll, loA, hiA, elemOf, partsA, buildA, putCells, ↓reduceIte, reduceCtorEq, okCell, Nat.reduceAdd, Nat.reduceEqDiff, Nat.reduceSub, Nat.reduceMul, Nat.reduceLeDiff, Nat.reduceLT, Nat.reduceBEq, PV.scal, PV.scalL, SV.scal, SV.scalL, Ob.scal, PV.isCell, pure', resO]
  refine loop_at (fun s : Nat × SV => mkEnv [(0, si b), (1, si e), (4, si 0), (5, si ((b ^ s.1 : Nat) : Int)), (6, si e), (7, si s.1), (8, s.2)]) (fun s => mkO []) (fun s => s.1 ≤ e) (fun s => e - s.1) (0, .junk) (by simp) rfl rfl ?_
  rintro ⟨i, c1⟩ hi R hR hN
  simp only at hi
  by_cases h : i < e
  · have h1' : (i : Int) < e := by omega
    have hw := wrap_one (i := i) (by omega)
    have hp := pow_step (b := b) (i := i) (by omega) (by omega)
    simp only [h1', hw, hp, ↓SP, SQ, Gam.add, stepM, callC, argC, lendO, nmBy, nmC, likeL, likeB, plainOb, offs, X, F, trP, trO, stepD, stepW, newA, SV.tr, SV.trL, fz, allP, Ob.tr, loadA, cellsA, SV.cells, binA, binI, eqOut, isSl, isPt, natOf, callee, snap, SV.refsL, SV.refs, thaw, fzAll, loA, hiA, elemOf, partsA, buildA, putCells, ↓reduceIte, reduceCtorEq, okCell, Nat.reduceAdd, Nat.reduceEqDiff, Nat.reduceSub, Nat.reduceMul, Nat.reduceLeDiff, Nat.reduceLT, Nat.reduceBEq, PV.scal, PV.scalL, SV.scal, SV.scalL, Ob.scal, PV.isCell, pure', resO]
    exact hN (i + 1, _) _ _ (by simp only; omega) (by simp only; omega) rfl rfl
  · have he : i = e := by omega
    have h1' : ¬ (i : Int) < e := by omega
    simp only [h1', ↓SP, SQ, Gam.add, stepM, callC, argC, lendO, nmBy, nmC, likeL, likeB, plainOb, offs, X, F, trP, trO, stepD, stepW, newA, SV.tr, SV.trL, fz, allP, Ob.tr, loadA, cellsA, SV.cells, binA, binI, eqOut, isSl, isPt, natOf, callee, snap, SV.refsL, SV.refs, thaw, fzAll, loA, hiA, elemOf, partsA, buildA, putCells, ↓reduceIte, reduceCtorEq, okCell, Nat.reduceAdd, Nat.reduceEqDiff, Nat.reduceSub, Nat.reduceMul, Nat.reduceLeDiff, Nat.reduceLT, Nat.reduceBEq, PV.scal, PV.scalL, SV.scal, SV.scalL, Ob.scal, PV.isCell, pure', resO]
    refine hR _ _ _ (by intro h; cases h) ?_
    simp only [↓SP, SQ, Gam.add, stepM, callC, argC, lendO, nmBy, nmC, likeL, likeB, plainOb, offs, X, F, trP, trO, stepD, stepW, newA, SV.tr, SV.trL, fz, allP, Ob.tr, loadA, cellsA, SV.cells, binA, binI, eqOut, isSl, isPt, natOf, callee, snap, SV.refsL, SV.refs, thaw, fzAll, loA, hiA, elemOf, partsA, buildA, putCells, ↓reduceIte, reduceCtorEq, okCell, Nat.reduceAdd, Nat.reduceEqDiff, Nat.reduceSub, Nat.reduceMul, Nat.reduceLeDiff, Nat.reduceLT, Nat.reduceBEq, PV.scal, PV.scalL, SV.scal, SV.scalL, Ob.scal, PV.isCell, pure', resO]
    subst he
    exact finA_val (by simp [retA, rvA, List.mapM_cons, List.mapM_nil, Option.pure_def, Option.bind_eq_bind, Option.bind_some, Option.map_some, mkE_cons, mk_nil, mkO_cons, mkO_nil, loadA, ↓reduceIte, List.take_succ_cons, List.take_zero, List.drop_zero, List.drop_succ_cons, List.length_cons, List.length_nil, Nat.reduceAdd, Nat.reduceEqDiff, Nat.reduceLeDiff, Nat.zero_add, Nat.le_refl, reduceCtorEq, SV.tr, SV.trL, nmF, rn_nil, rn_cons1, rn_cons2, List.map_cons, List.map_nil, List.all_cons, List.all_nil, plainOb, SV.refsL, SV.refs, Ob.refs, X, F, List.range_succ, List.range_zero, List.nil_append, List.cons_append, List.isEmpty_nil, decide_true, Nat.reduceLT, Bool.and_self, Bool.and_true, and_self, and_true, List.getElem?_cons_zero, List.getElem?_cons_succ, List.nodup_cons, List.nodup_nil, List.mem_cons, List.not_mem_nil, not_false_eq_true, or_false, List.append_nil, mkO, setO_mk, List.mem_singleton]) (by simp [SV.tr, SV.trL])
theorem s_l7Power {P : Program} (hm : P.follows .mixedOrders = true) {Γ : Gam} (hΓ : GS P Γ) {n : FuncId} (is : Is P n a_l7Power)  : Says P n c_power := by
  refine Says.pure fun args r fs h => ?_
  split at h
  case h_2 => cases h
  rename_i b e
  split at h
  case isFalse => cases h
  rename_i hc
  simp only [ofI_ints, ofBo_bools, ofAs_asks, Option.some.injEq, Prod.mk.injEq] at h hc
  obtain ⟨rfl, rfl⟩ := h
  obtain ⟨h0, h1, h2, h3⟩ := hc
  obtain ⟨b, rfl⟩ : ∃ j : Nat, b = j := ⟨b.toNat, by omega⟩
  obtain ⟨e, rfl⟩ : ∃ j : Nat, e = j := ⟨e.toNat, by omega⟩
  simp only [Int.toNat_natCast]
  refine is.go hm hΓ k_l7Power o_l7Power (by simp [a_l7Power]) ?_
  simp only [a_l7Power, List.zipIdx_cons, List.zipIdx_nil, ↓SP, SQ, Gam.add, stepM, callC, argC, lendO, nmBy, nmC, likeL, likeB, plainOb, offs, X, F, trP, trO, stepD, stepW, newA, SV.tr, SV.trL, fz, allP, Ob.tr, loadA, cellsA, SV.cells, binA, binI, eqOut, isSl, isPt, natOf, callee, snap, SV.refsL, SV.refs, thaw, fzAll, loA, hiA, elemOf, partsA, buildA, putCells, ↓reduceIte, reduceCtorEq, okCell, Nat.reduceAdd, Nat.reduceEqDiff, Nat.reduceSub, Nat.reduceMul, Nat.reduceLeDiff, Nat.reduceLT, Nat.reduceBEq, PV.scal, PV.scalL, SV.scal, SV.scalL, Ob.scal, PV.isCell, pure', resO]
  refine loop_at (fun s : Nat × SV => mkEnv [(0, si b), (1, si e), (4, si 0), (5, si ((b ^ s.1 : Nat) : Int)), (6, si s.1), (9, s.2)]) (fun s => mkO []) (fun s => s.1 ≤ e) (fun s => e - s.1) (0, .junk) (by simp) rfl rfl ?_
  rintro ⟨i, c1⟩ hi R hR hN
  simp only at hi
  by_cases h : i < e
  · have h1' : (i : Int) < e := by omega
    have hw := wrap_one (i := i) (by omega)
    have hp := pow_step (b := b) (i := i) (by omega) (by omega)
    simp only [h1', hw, hp, ↓SP, SQ, Gam.add, stepM, callC, argC, lendO, nmBy, nmC, likeL, likeB, plainOb, offs, X, F, trP, trO, stepD, stepW, newA, SV.tr, SV.trL, fz, allP, Ob.tr, loadA, cellsA, SV.cells, binA, binI, eqOut, isSl, isPt, natOf, callee, snap, SV.refsL, SV.refs, thaw, fzAll, loA, hiA, elemOf, partsA, buildA, putCells, ↓reduceIte, reduceCtorEq, okCell, Nat.reduceAdd, Nat.reduceEqDiff, Nat.reduceSub, Nat.reduceMul, Nat.reduceLeDiff, Nat.reduceLT, Nat.reduceBEq, PV.scal, PV.scalL, SV.scal, SV.scalL, Ob.scal, PV.isCell, pure', resO]
    exact hN (i + 1, _) _ _ (by simp only; omega) (by simp only; omega) rfl rfl
  · have he : i = e := by omega
    have h1' : ¬ (i : Int) < e := by omega
    simp only [h1', ↓SP, SQ, Gam.add, stepM, callC, argC, lendO, nmBy, nmC, likeL, likeB, plainOb, offs, X, F, trP, trO, stepD, stepW, newA, SV.tr, SV.trL, fz, allP, Ob.tr, loadA, cellsA, SV.cells, binA, binI, eqOut, isSl, isPt, natOf, callee, snap, SV.refsL, SV.refs, thaw, fzAll, loA, hiA, elemOf, partsA, buildA, putCells, ↓reduceIte, reduceCtorEq, okCell, Nat.reduceAdd, Nat.reduceEqDiff, Nat.reduceSub, Nat.reduceMul, Nat.reduceLeDiff, Nat.reduceLT, Nat.reduceBEq, PV.scal, PV.scalL, SV.scal, SV.scalL, Ob.scal, PV.isCell, pure', resO]
    refine hR _ _ _ (by intro h; cases h) ?_
    simp only [↓SP, SQ, Gam.add, stepM, callC, argC, lendO, nmBy, nmC, likeL, likeB, plainOb, offs, X, F, trP, trO, stepD, stepW, newA, SV.tr, SV.trL, fz, allP, Ob.tr, loadA, cellsA, SV.cells, binA, binI, eqOut, isSl, isPt, natOf, callee, snap, SV.refsL, SV.refs, thaw, fzAll, loA, hiA, elemOf, partsA, buildA, putCells, ↓reduceIte, reduceCtorEq, okCell, Nat.reduceAdd, Nat.reduceEqDiff, Nat.reduceSub, Nat.reduceMul, Nat.reduceLeDiff, Nat.reduceLT, Nat.reduceBEq, PV.scal, PV.scalL, SV.scal, SV.scalL, Ob.scal, PV.isCell, pure', resO]
    subst he
    exact finA_val (by simp [retA, rvA, List.mapM_cons, List.mapM_nil, Option.pure_def, Option.bind_eq_bind, Option.bind_some, Option.map_some, mkE_cons, mk_nil, mkO_cons, mkO_nil, loadA, ↓reduceIte, List.take_succ_cons, List.take_zero, List.drop_zero, List.drop_succ_cons, List.length_cons, List.length_nil, Nat.reduceAdd, Nat.reduceEqDiff, Nat.reduceLeDiff, Nat.zero_add, Nat.le_refl, reduceCtorEq, SV.tr, SV.trL, nmF, rn_nil, rn_cons1, rn_cons2, List.map_cons, List.map_nil, List.all_cons, List.all_nil, plainOb, SV.refsL, SV.refs, Ob.refs, X, F, List.range_succ, List.range_zero, List.nil_append, List.cons_append, List.isEmpty_nil, decide_true, Nat.reduceLT, Bool.and_self, Bool.and_true, and_self, and_true, List.getElem?_cons_zero, List.getElem?_cons_succ, List.nodup_cons, List.nodup_nil, List.mem_cons, List.not_mem_nil, not_false_eq_true, or_false, List.append_nil, mkO, setO_mk, List.mem_singleton]) (by simp [SV.tr, SV.trL])
/-- The share of k lies among n answers. -/
def partN (s o n k : Nat) : Nat := s ^ k * (o - s) ^ (n - k)
theorem partN_le {s o n k : Nat} (h1 : s ≤ o) (h2 : o ≤ 10) (h3 : k ≤ n) (h4 : n ≤ 12) : partN s o n k ≤ 10 ^ 12 := by
  have a : s ^ k ≤ 10 ^ k := Nat.pow_le_pow_left (by omega) k
  have b : (o - s) ^ (n - k) ≤ 10 ^ (n - k) := Nat.pow_le_pow_left (by omega) (n - k)
  have c : 10 ^ k * 10 ^ (n - k) = 10 ^ n := by rw [← Nat.pow_add]; congr 1; omega
  have d : 10 ^ n ≤ 10 ^ 12 := Nat.pow_le_pow_right (by omega) h4
  exact Nat.le_trans (Nat.le_trans (Nat.mul_le_mul a b) (Nat.le_of_eq c)) d
theorem isD_out {s o : Int} (h : isD s o = true) : 1 ≤ o ∧ o ≤ 10 ∧ 0 ≤ s ∧ s ≤ o := by
  simp only [isD, Bool.and_eq_true, decide_eq_true_eq] at h; omega
def a_ofThese (f_power : FuncId) : AFn := ⟨3, 
  .seq (.reg [⟨some 3, none, .w (.box 2 (.t 0))⟩,
    ⟨some 6, none, .d (.mv (.c (.int .i64 0)))⟩])
  (.seq (.dreg [] [([], ⟨some 7, none, .d (.fa 0 (.t 3))⟩),
    ([], ⟨some 8, none, .d (.load false 1 (.t 7))⟩),
    ([], ⟨some 9, none, .d (.mv (.t 2))⟩),
    ([], ⟨some 10, none, .d (.call (.f f_power) [(.t 8), (.t 9)])⟩),
    ([], ⟨some 11, none, .d (.fa 1 (.t 3))⟩),
    ([], ⟨some 12, none, .d (.load false 1 (.t 11))⟩),
    ([], ⟨some 13, none, .d (.fa 0 (.t 3))⟩),
    ([], ⟨some 14, none, .d (.load false 1 (.t 13))⟩),
    ([], ⟨some 15, none, .d (.bin .arith .sub (.t 12) (.t 14))⟩),
    ([], ⟨some 16, none, .d (.mv (.t 1))⟩),
    ([], ⟨some 17, none, .d (.mv (.t 2))⟩),
    ([], ⟨some 18, none, .d (.bin .arith .sub (.t 16) (.t 17))⟩)] [⟨some 19, none, .d (.call (.f f_power) [(.t 15), (.t 18)])⟩,
    ⟨some 20, none, .d (.bin .arith .mul (.t 10) (.t 19))⟩,
    ⟨some 6, none, .d (.mv (.t 20))⟩])
  (.ret)), [.tmp 6]⟩
def n_ofThese : Nat → Option Ann := fun _ => none
abbrev k_ofThese : List Nat := [0, 1, 2, 3, 6]
abbrev o_ofThese : List Nat := [3]
def c_ofThese : Con := pure' fun
  | [.p (.agg [.int .i64 s, .int .i64 o]), .p (.int .i64 n), .p (.int .i64 k)] => if (isD s o = true ∧ 0 ≤ k ∧ k ≤ n ∧ n ≤ 12) then some (.p (.int .i64 (partN s.toNat o.toNat n.toNat k.toNat : Int)), []) else none
  | _ => none
theorem s_ofThese {P : Program} (hm : P.follows .mixedOrders = true) {Γ : Gam} (hΓ : GS P Γ) {n : FuncId} {f_power : FuncId} (is : Is P n (a_ofThese f_power)) (h_power : Γ f_power = c_power)  : Says P n c_ofThese := by
  refine Says.pure fun args r fs h => ?_
  split at h
  case h_2 => cases h
  rename_i s o n k
  split at h
  case isFalse => cases h
  rename_i hc
  simp only [ofI_ints, ofBo_bools, ofAs_asks, Option.some.injEq, Prod.mk.injEq] at h hc
  obtain ⟨rfl, rfl⟩ := h
  obtain ⟨hd, h2, h3, h4⟩ := hc
  obtain ⟨d1, d2, d3, d4⟩ := isD_out hd
  obtain ⟨s, rfl⟩ : ∃ j : Nat, s = j := ⟨s.toNat, by omega⟩
  obtain ⟨o, rfl⟩ : ∃ j : Nat, o = j := ⟨o.toNat, by omega⟩
  obtain ⟨n, rfl⟩ : ∃ j : Nat, n = j := ⟨n.toNat, by omega⟩
  obtain ⟨k, rfl⟩ : ∃ j : Nat, k = j := ⟨k.toNat, by omega⟩
  simp only [Int.toNat_natCast]
  have w1 : IntKind.i64.wrap ((o : Int) - s) = ((o - s : Nat) : Int) := by rw [wrap64 (by omega) (by omega)]; omega
  have w2 : IntKind.i64.wrap ((n : Int) - k) = ((n - k : Nat) : Int) := by rw [wrap64 (by omega) (by omega)]; omega
  have g1 : (0 : Int) ≤ s := by omega
  have g2 : (s : Int) ≤ 10 := by omega
  have g3 : (0 : Int) ≤ k := by omega
  have g4 : (k : Int) ≤ 12 := by omega
  have g5 : (0 : Int) ≤ ((o - s : Nat) : Int) := by omega
  have g6 : ((o - s : Nat) : Int) ≤ 10 := by omega
  have g7 : (0 : Int) ≤ ((n - k : Nat) : Int) := by omega
  have g8 : ((n - k : Nat) : Int) ≤ 12 := by omega
  have hp := partN_le (s := s) (o := o) (n := n) (k := k) (by omega) (by omega) (by omega) (by omega)
  have hmul : IntKind.i64.wrap (((s ^ k : Nat) : Int) * (((o - s) ^ (n - k) : Nat) : Int)) = (partN s o n k : Int) := by
    rw [← Int.natCast_mul]
    show IntKind.i64.wrap ((partN s o n k : Nat) : Int) = _
    exact wrap64 (by omega) (by omega)
  refine is.go hm hΓ k_ofThese o_ofThese (by simp [a_ofThese]) ?_
  simp only [a_ofThese, h_power, c_power, w1, w2, g1, g2, g3, g4, g5, g6, g7, g8, hmul, Int.toNat_natCast, List.zipIdx_cons, List.zipIdx_nil, ↓SP, SQ, Gam.add, stepM, callC, argC, lendO, nmBy, nmC, likeL, likeB, plainOb, offs, X, F, trP, trO, stepD, stepW, newA, SV.tr, SV.trL, fz, allP, Ob.tr, loadA, cellsA, SV.cells, binA, binI, eqOut, isSl, isPt, natOf, callee, snap, SV.refsL, SV.refs, thaw, fzAll, loA, hiA, elemOf, partsA, buildA, putCells, ↓reduceIte, reduceCtorEq, okCell, Nat.reduceAdd, Nat.reduceEqDiff, Nat.reduceSub, Nat.reduceMul, Nat.reduceLeDiff, Nat.reduceLT, Nat.reduceBEq, PV.scal, PV.scalL, SV.scal, SV.scalL, Ob.scal, PV.isCell, pure', resO]
  exact finA_val (by simp [retA, rvA, List.mapM_cons, List.mapM_nil, Option.pure_def, Option.bind_eq_bind, Option.bind_some, Option.map_some, mkE_cons, mk_nil, mkO_cons, mkO_nil, loadA, ↓reduceIte, List.take_succ_cons, List.take_zero, List.drop_zero, List.drop_succ_cons, List.length_cons, List.length_nil, Nat.reduceAdd, Nat.reduceEqDiff, Nat.reduceLeDiff, Nat.zero_add, Nat.le_refl, reduceCtorEq, SV.tr, SV.trL, nmF, rn_nil, rn_cons1, rn_cons2, List.map_cons, List.map_nil, List.all_cons, List.all_nil, plainOb, SV.refsL, SV.refs, Ob.refs, X, F, List.range_succ, List.range_zero, List.nil_append, List.cons_append, List.isEmpty_nil, decide_true, Nat.reduceLT, Bool.and_self, Bool.and_true, and_self, and_true, List.getElem?_cons_zero, List.getElem?_cons_succ, List.nodup_cons, List.nodup_nil, List.mem_cons, List.not_mem_nil, not_false_eq_true, or_false, List.append_nil, mkO, setO_mk, List.mem_singleton]) (by simp [SV.tr, SV.trL])
def a_l7Parts (f_l7Power : FuncId) : AFn := ⟨3, 
  .seq (.reg [⟨some 5, none, .w (.box 2 (.t 2))⟩,
    ⟨some 6, none, .d (.mv (.c (.int .i64 0)))⟩])
  (.seq (.dreg [] [([], ⟨some 7, none, .d (.fa 0 (.t 5))⟩),
    ([], ⟨some 8, none, .d (.load false 1 (.t 7))⟩),
    ([], ⟨some 9, none, .d (.mv (.t 1))⟩),
    ([], ⟨some 10, none, .d (.call (.f f_l7Power) [(.t 8), (.t 9)])⟩),
    ([], ⟨some 11, none, .d (.fa 1 (.t 5))⟩),
    ([], ⟨some 12, none, .d (.load false 1 (.t 11))⟩),
    ([], ⟨some 13, none, .d (.fa 0 (.t 5))⟩),
    ([], ⟨some 14, none, .d (.load false 1 (.t 13))⟩),
    ([], ⟨some 15, none, .d (.bin .arith .sub (.t 12) (.t 14))⟩),
    ([], ⟨some 16, none, .d (.mv (.t 0))⟩),
    ([], ⟨some 17, none, .d (.mv (.t 1))⟩),
    ([], ⟨some 18, none, .d (.bin .arith .sub (.t 16) (.t 17))⟩)] [⟨some 19, none, .d (.call (.f f_l7Power) [(.t 15), (.t 18)])⟩,
    ⟨some 20, none, .d (.bin .arith .mul (.t 10) (.t 19))⟩,
    ⟨some 6, none, .d (.mv (.t 20))⟩])
  (.ret)), [.tmp 6]⟩
def n_l7Parts : Nat → Option Ann := fun _ => none
abbrev k_l7Parts : List Nat := [0, 1, 2, 5, 6]
abbrev o_l7Parts : List Nat := [5]
def c_l7Parts : Con := pure' fun
  | [.p (.int .i64 n), .p (.int .i64 k), .p (.agg [.int .i64 s, .int .i64 o])] => if (isD s o = true ∧ 0 ≤ k ∧ k ≤ n ∧ n ≤ 12) then some (.p (.int .i64 (partN s.toNat o.toNat n.toNat k.toNat : Int)), []) else none
  | _ => none
theorem s_l7Parts {P : Program} (hm : P.follows .mixedOrders = true) {Γ : Gam} (hΓ : GS P Γ) {n : FuncId} {f_l7Power : FuncId} (is : Is P n (a_l7Parts f_l7Power)) (h_l7Power : Γ f_l7Power = c_power)  : Says P n c_l7Parts := by
  refine Says.pure fun args r fs h => ?_
  split at h
  case h_2 => cases h
  rename_i n k s o
  split at h
  case isFalse => cases h
  rename_i hc
  simp only [ofI_ints, ofBo_bools, ofAs_asks, Option.some.injEq, Prod.mk.injEq] at h hc
  obtain ⟨rfl, rfl⟩ := h
  obtain ⟨hd, h2, h3, h4⟩ := hc
  obtain ⟨d1, d2, d3, d4⟩ := isD_out hd
  obtain ⟨s, rfl⟩ : ∃ j : Nat, s = j := ⟨s.toNat, by omega⟩
  obtain ⟨o, rfl⟩ : ∃ j : Nat, o = j := ⟨o.toNat, by omega⟩
  obtain ⟨n, rfl⟩ : ∃ j : Nat, n = j := ⟨n.toNat, by omega⟩
  obtain ⟨k, rfl⟩ : ∃ j : Nat, k = j := ⟨k.toNat, by omega⟩
  simp only [Int.toNat_natCast]
  have w1 : IntKind.i64.wrap ((o : Int) - s) = ((o - s : Nat) : Int) := by rw [wrap64 (by omega) (by omega)]; omega
  have w2 : IntKind.i64.wrap ((n : Int) - k) = ((n - k : Nat) : Int) := by rw [wrap64 (by omega) (by omega)]; omega
  have g1 : (0 : Int) ≤ s := by omega
  have g2 : (s : Int) ≤ 10 := by omega
  have g3 : (0 : Int) ≤ k := by omega
  have g4 : (k : Int) ≤ 12 := by omega
  have g5 : (0 : Int) ≤ ((o - s : Nat) : Int) := by omega
  have g6 : ((o - s : Nat) : Int) ≤ 10 := by omega
  have g7 : (0 : Int) ≤ ((n - k : Nat) : Int) := by omega
  have g8 : ((n - k : Nat) : Int) ≤ 12 := by omega
  have hp := partN_le (s := s) (o := o) (n := n) (k := k) (by omega) (by omega) (by omega) (by omega)
  have hmul : IntKind.i64.wrap (((s ^ k : Nat) : Int) * (((o - s) ^ (n - k) : Nat) : Int)) = (partN s o n k : Int) := by
    rw [← Int.natCast_mul]
    show IntKind.i64.wrap ((partN s o n k : Nat) : Int) = _
    exact wrap64 (by omega) (by omega)
  refine is.go hm hΓ k_l7Parts o_l7Parts (by simp [a_l7Parts]) ?_
  simp only [a_l7Parts, h_l7Power, c_power, w1, w2, g1, g2, g3, g4, g5, g6, g7, g8, hmul, Int.toNat_natCast, List.zipIdx_cons, List.zipIdx_nil, ↓SP, SQ, Gam.add, stepM, callC, argC, lendO, nmBy, nmC, likeL, likeB, plainOb, offs, X, F, trP, trO, stepD, stepW, newA, SV.tr, SV.trL, fz, allP, Ob.tr, loadA, cellsA, SV.cells, binA, binI, eqOut, isSl, isPt, natOf, callee, snap, SV.refsL, SV.refs, thaw, fzAll, loA, hiA, elemOf, partsA, buildA, putCells, ↓reduceIte, reduceCtorEq, okCell, Nat.reduceAdd, Nat.reduceEqDiff, Nat.reduceSub, Nat.reduceMul, Nat.reduceLeDiff, Nat.reduceLT, Nat.reduceBEq, PV.scal, PV.scalL, SV.scal, SV.scalL, Ob.scal, PV.isCell, pure', resO]
  exact finA_val (by simp [retA, rvA, List.mapM_cons, List.mapM_nil, Option.pure_def, Option.bind_eq_bind, Option.bind_some, Option.map_some, mkE_cons, mk_nil, mkO_cons, mkO_nil, loadA, ↓reduceIte, List.take_succ_cons, List.take_zero, List.drop_zero, List.drop_succ_cons, List.length_cons, List.length_nil, Nat.reduceAdd, Nat.reduceEqDiff, Nat.reduceLeDiff, Nat.zero_add, Nat.le_refl, reduceCtorEq, SV.tr, SV.trL, nmF, rn_nil, rn_cons1, rn_cons2, List.map_cons, List.map_nil, List.all_cons, List.all_nil, plainOb, SV.refsL, SV.refs, Ob.refs, X, F, List.range_succ, List.range_zero, List.nil_append, List.cons_append, List.isEmpty_nil, decide_true, Nat.reduceLT, Bool.and_self, Bool.and_true, and_self, and_true, List.getElem?_cons_zero, List.getElem?_cons_succ, List.nodup_cons, List.nodup_nil, List.mem_cons, List.not_mem_nil, not_false_eq_true, or_false, List.append_nil, mkO, setO_mk, List.mem_singleton]) (by simp [SV.tr, SV.trL])
end Go.Proofs.Ytmbljmolegalhaa.Pam
