/- A part of the proof that stands in this folder: a small machine whose steps are shown to be the steps of the model, or walks of functions by it. No condition of its own. -/
import Derived.Test.YtihpfhdkjlphhaaGbNF
set_option linter.unusedVariables false
set_option linter.unusedSimpArgs false
namespace Go.Proofs.Ytihpfhdkjlphhaa.Pam
open Go
def okMT (n m : Int) : Bool := decide (1 ≤ n) && decide (n ≤ 5) && (decide (0 ≤ m) && decide (m ≤ 1))
def a_MoreThanSets (f_in : FuncId) (f_newLesser : FuncId) (f_start : FuncId) (f_lneed : FuncId) (f_neederOf : FuncId) (f_bothWays : FuncId) (f_countsOf : FuncId) (f_nOf : FuncId) : AFn := ⟨2, 
  .seq (.reg [⟨some 4, none, .d (.mv (.c (.int .i64 0)))⟩,
    ⟨some 5, none, .d (.mv (.c (.bool false)))⟩])
  (.seq (.seq (.reg [⟨some 6, none, .d (.mv (.t 0))⟩,
    ⟨some 7, none, .d (.call (.f f_in) [(.t 6), (.c (.int .i64 1)), (.c (.int .i64 5))])⟩,
    ⟨some 8, none, .d (.not (.t 7))⟩,
    ⟨some 9, none, .d (.mv (.t 8))⟩,
    ⟨some 10, some (9, false), .d (.mv (.t 1))⟩,
    ⟨some 11, some (9, false), .d (.call (.f f_in) [(.t 10), (.c (.int .i64 0)), (.c (.int .i64 1))])⟩,
    ⟨some 12, some (9, false), .d (.not (.t 11))⟩,
    ⟨some 13, none, .d (.pick (.t 9) (.c (.bool true)) (.t 12))⟩])
  (.cond (.t 13) (.seq (.reg [⟨some 4, none, .d (.mv (.c (.int .i64 0)))⟩,
     ⟨some 5, none, .d (.mv (.c (.bool false)))⟩])
   (.ret)) (.skip)))
  (.seq (.reg [⟨some 14, none, .w (.callL (.f f_newLesser) [] [] 1 false)⟩,
    ⟨some 15, none, .d (.mv (.t 0))⟩,
    ⟨some 16, none, .d (.mv (.t 1))⟩,
    ⟨some 17, none, .d (.call (.f f_start) [(.t 15), (.t 16)])⟩,
    ⟨some 18, none, .w (.callL (.f f_lneed) [(.t 14), (.t 17)] [14] 0 false)⟩,
    ⟨some 19, none, .d (.call (.f f_neederOf) [(.f f_bothWays)])⟩,
    ⟨some 20, none, .d (.mv (.t 0))⟩,
    ⟨some 21, none, .d (.mv (.t 1))⟩,
    ⟨some 22, none, .d (.call (.f f_countsOf) [(.t 20), (.t 21)])⟩,
    ⟨some 23, none, .d (.call (.f f_nOf) [(.t 19), (.t 22)])⟩,
    ⟨some 24, none, .d (.bin .arith .sub (.t 18) (.t 23))⟩,
    ⟨some 4, none, .d (.mv (.t 24))⟩,
    ⟨some 5, none, .d (.mv (.c (.bool true)))⟩])
  (.ret))), [.tmp 4, .tmp 5]⟩
def n_MoreThanSets : Nat → Option Ann := fun d => if d = 14 then some ⟨[], 1, false⟩ else if d = 18 then some ⟨[14], 0, false⟩ else none
abbrev k_MoreThanSets : List Nat := [0, 1, 4, 5, 13]
abbrev o_MoreThanSets : List Nat := [14]
def a_s_MoreThanSets (f_l1In : FuncId) (f_l6Needs : FuncId) (f_start : FuncId) (f_l6Key : FuncId) (f_l4Needs : FuncId) (f_countsOf : FuncId) (f_l4Key : FuncId) : AFn := ⟨2, 
  .seq (.reg [⟨some 4, none, .d (.mv (.c (.int .i64 0)))⟩,
    ⟨some 5, none, .d (.mv (.c (.bool false)))⟩])
  (.seq (.seq (.reg [⟨some 7, none, .d (.mv (.t 0))⟩,
    ⟨some 8, none, .d (.call (.f f_l1In) [(.t 7), (.c (.int .i64 1)), (.c (.int .i64 5))])⟩,
    ⟨some 9, none, .d (.not (.t 8))⟩,
    ⟨some 10, none, .d (.mv (.t 9))⟩,
    ⟨some 11, some (10, false), .d (.mv (.t 1))⟩,
    ⟨some 12, some (10, false), .d (.call (.f f_l1In) [(.t 11), (.c (.int .i64 0)), (.c (.int .i64 1))])⟩,
    ⟨some 13, some (10, false), .d (.not (.t 12))⟩,
    ⟨some 14, none, .d (.pick (.t 10) (.c (.bool true)) (.t 13))⟩])
  (.cond (.t 14) (.seq (.reg [⟨some 4, none, .d (.mv (.c (.int .i64 0)))⟩,
     ⟨some 5, none, .d (.mv (.c (.bool false)))⟩])
   (.ret)) (.skip)))
  (.seq (.reg [⟨some 15, none, .d (.mv (.t 0))⟩,
    ⟨some 16, none, .d (.mv (.t 1))⟩,
    ⟨some 17, none, .d (.call (.f f_l6Needs) [(.t 15), (.t 16)])⟩,
    ⟨some 18, none, .d (.mv (.t 0))⟩,
    ⟨some 19, none, .d (.mv (.t 1))⟩,
    ⟨some 20, none, .d (.call (.f f_start) [(.t 18), (.t 19)])⟩,
    ⟨some 21, none, .d (.call (.f f_l6Key) [(.t 20)])⟩,
    ⟨some 22, none, .d (.ia 1 (.t 17) (.t 21))⟩,
    ⟨some 23, none, .d (.load false 1 (.t 22))⟩,
    ⟨some 6, none, .d (.mv (.t 23))⟩])
  (.seq (.reg [⟨some 24, none, .d (.mv (.t 6))⟩,
    ⟨some 25, none, .d (.mv (.t 1))⟩,
    ⟨some 26, none, .d (.bin .arith .add (.t 25) (.c (.int .i64 1)))⟩,
    ⟨some 27, none, .d (.call (.f f_l4Needs) [(.t 26)])⟩,
    ⟨some 28, none, .d (.mv (.t 0))⟩,
    ⟨some 29, none, .d (.mv (.t 1))⟩,
    ⟨some 30, none, .d (.call (.f f_countsOf) [(.t 28), (.t 29)])⟩,
    ⟨some 31, none, .d (.call (.f f_l4Key) [(.t 30)])⟩,
    ⟨some 32, none, .d (.ia 1 (.t 27) (.t 31))⟩,
    ⟨some 33, none, .d (.load false 1 (.t 32))⟩,
    ⟨some 34, none, .d (.bin .arith .sub (.t 24) (.t 33))⟩,
    ⟨some 4, none, .d (.mv (.t 34))⟩,
    ⟨some 5, none, .d (.mv (.c (.bool true)))⟩])
  (.ret)))), [.tmp 4, .tmp 5]⟩
def n_s_MoreThanSets : Nat → Option Ann := fun _ => none
abbrev k_s_MoreThanSets : List Nat := [0, 1, 4, 5, 6, 14]
abbrev o_s_MoreThanSets : List Nat := []
def c_MoreThanSets : Con := pure' fun
  | [.p (.int .i64 n), .p (.int .i64 m)] => if (True) then some (.tp [.p (.int .i64 (if okMT n m = true then ltF m n.toNat - gF true m n.toNat else 0)), .p (.bool (okMT n m))], []) else none
  | _ => none
theorem gF_bd {m : Int} {n : Nat} (hn : n ≤ 8) (hm : 0 ≤ m ∧ m ≤ 2) : 0 ≤ gF true m n ∧ gF true m n ≤ 1000 := by
  have h := ofE_nES true (fr_okC hn hm)
  have hb := ofE_bd (es := nES true) (c := frL n m) (okE_nES true) (frL_len n hm).2
  rw [h] at hb
  simp only [gF]
  refine ⟨?_, hb.2⟩
  simp only [ndI]; omega
theorem s_MoreThanSets {P : Program} (hm : P.follows .mixedOrders = true) {Γ : Gam} (hΓ : GS P Γ) {n : FuncId} {f_in : FuncId} {f_newLesser : FuncId} {f_start : FuncId} {f_lneed : FuncId} {f_neederOf : FuncId} {f_bothWays : FuncId} {f_countsOf : FuncId} {f_nOf : FuncId} (is : Is P n (a_MoreThanSets f_in f_newLesser f_start f_lneed f_neederOf f_bothWays f_countsOf f_nOf)) (h_in : Γ f_in = c_in) (h_newLesser : Γ f_newLesser = c_newLesser) (h_start : Γ f_start = c_start) (h_lneed : Γ f_lneed = c_lneed) (h_countsOf : Γ f_countsOf = c_countsOf) (h_nOf : Γ f_nOf = c_nOf) {Γ1 : Gam} (h_neederOf : Γ f_neederOf = c_neederOf Γ1) (h_bothWays : Γ1 f_bothWays = c_bothWays) : Says P n c_MoreThanSets := by
  refine Says.pure fun args r fs h => ?_
  split at h
  case h_2 => cases h
  rename_i n m
  split at h
  case isFalse => cases h
  rename_i hc
  simp only [ofI_ints, ofBo_bools, ofAs_asks, Option.some.injEq, Prod.mk.injEq] at h hc
  obtain ⟨rfl, rfl⟩ := h
  cases h1 : (decide (1 ≤ n) && decide (n ≤ 5)) with
  | false =>
    have hp : okMT n m = false := by simp only [okMT, h1, Bool.false_and]
    refine is.go hm hΓ k_MoreThanSets o_MoreThanSets (by simp [a_MoreThanSets]) ?_
    simp only [a_MoreThanSets, h_in, c_in, h_newLesser, c_newLesser, h_start, c_start, h_lneed, c_lneed, h_countsOf, c_countsOf, h_nOf, c_nOf, h1, hp, Bool.false_eq_true, List.zipIdx_cons, List.zipIdx_nil, ↓SP, SQ, Gam.add, stepM, callC, argC, lendO, nmBy, nmC, likeL, likeB, plainOb, offs, exL, X, F, trP, trO, stepD, stepW, newA, SV.tr, SV.trL, fz, allP, Ob.tr, loadA, cellsA, SV.cells, binA, binI, eqOut, isSl, isPt, natOf, callee, snap, SV.refsL, SV.refs, thaw, fzAll, loA, hiA, elemOf, partsA, buildA, putCells, ↓reduceIte, reduceCtorEq, okCell, Nat.reduceAdd, Nat.reduceEqDiff, Nat.reduceSub, Nat.reduceMul, Nat.reduceLeDiff, Nat.reduceLT, Nat.reduceBEq, PV.scal, PV.scalL, SV.scal, SV.scalL, Ob.scal, PV.isCell, pure', resO]
    exact finA_val (by simp [retA, rvA, List.mapM_cons, List.mapM_nil, Option.pure_def, Option.bind_eq_bind, Option.bind_some, Option.map_some, mkE_cons, mk_nil, mkO_cons, mkO_nil, loadA, ↓reduceIte, List.take_succ_cons, List.take_zero, List.drop_zero, List.drop_succ_cons, List.length_cons, List.length_nil, Nat.reduceAdd, Nat.reduceEqDiff, Nat.reduceLeDiff, Nat.zero_add, Nat.le_refl, reduceCtorEq, SV.tr, SV.trL, nmF, rn_nil, rn_cons1, rn_cons2, List.map_cons, List.map_nil, List.all_cons, List.all_nil, plainOb, SV.refsL, SV.refs, Ob.refs, X, F, List.range_succ, List.range_zero, List.nil_append, List.cons_append, List.isEmpty_nil, decide_true, Nat.reduceLT, Bool.and_self, Bool.and_true, and_self, and_true, List.getElem?_cons_zero, List.getElem?_cons_succ, List.nodup_cons, List.nodup_nil, List.mem_cons, List.not_mem_nil, not_false_eq_true, or_false, List.append_nil, mkO, setO_mk, List.mem_singleton]) (by simp [SV.tr, SV.trL])
  | true =>
    cases h2 : (decide (0 ≤ m) && decide (m ≤ 1)) with
    | false =>
      have hp : okMT n m = false := by simp only [okMT, h2, Bool.and_false]
      refine is.go hm hΓ k_MoreThanSets o_MoreThanSets (by simp [a_MoreThanSets]) ?_
      simp only [a_MoreThanSets, h_in, c_in, h_newLesser, c_newLesser, h_start, c_start, h_lneed, c_lneed, h_countsOf, c_countsOf, h_nOf, c_nOf, h1, h2, hp, Bool.false_eq_true, List.zipIdx_cons, List.zipIdx_nil, ↓SP, SQ, Gam.add, stepM, callC, argC, lendO, nmBy, nmC, likeL, likeB, plainOb, offs, exL, X, F, trP, trO, stepD, stepW, newA, SV.tr, SV.trL, fz, allP, Ob.tr, loadA, cellsA, SV.cells, binA, binI, eqOut, isSl, isPt, natOf, callee, snap, SV.refsL, SV.refs, thaw, fzAll, loA, hiA, elemOf, partsA, buildA, putCells, ↓reduceIte, reduceCtorEq, okCell, Nat.reduceAdd, Nat.reduceEqDiff, Nat.reduceSub, Nat.reduceMul, Nat.reduceLeDiff, Nat.reduceLT, Nat.reduceBEq, PV.scal, PV.scalL, SV.scal, SV.scalL, Ob.scal, PV.isCell, pure', resO]
      exact finA_val (by simp [retA, rvA, List.mapM_cons, List.mapM_nil, Option.pure_def, Option.bind_eq_bind, Option.bind_some, Option.map_some, mkE_cons, mk_nil, mkO_cons, mkO_nil, loadA, ↓reduceIte, List.take_succ_cons, List.take_zero, List.drop_zero, List.drop_succ_cons, List.length_cons, List.length_nil, Nat.reduceAdd, Nat.reduceEqDiff, Nat.reduceLeDiff, Nat.zero_add, Nat.le_refl, reduceCtorEq, SV.tr, SV.trL, nmF, rn_nil, rn_cons1, rn_cons2, List.map_cons, List.map_nil, List.all_cons, List.all_nil, plainOb, SV.refsL, SV.refs, Ob.refs, X, F, List.range_succ, List.range_zero, List.nil_append, List.cons_append, List.isEmpty_nil, decide_true, Nat.reduceLT, Bool.and_self, Bool.and_true, and_self, and_true, List.getElem?_cons_zero, List.getElem?_cons_succ, List.nodup_cons, List.nodup_nil, List.mem_cons, List.not_mem_nil, not_false_eq_true, or_false, List.append_nil, mkO, setO_mk, List.mem_singleton]) (by simp [SV.tr, SV.trL])
    | true =>
      have hp : okMT n m = true := by simp only [okMT, h1, h2]; rfl
      have q1 : 1 ≤ n ∧ n ≤ 5 := by simpa using h1
      have q2 : 0 ≤ m ∧ m ≤ 1 := by simpa using h2
      obtain ⟨n, rfl⟩ : ∃ j : Nat, n = j := ⟨n.toNat, by omega⟩
      have q3 : 0 ≤ m ∧ m ≤ 2 := by omega
      have hs := sh_rep q2 (n := n) (by omega) (by omega)
      have hok := okLM_nil m n
      have hi0 : isES [] = true := rfl
      have ho0 : ofES [] = [] := rfl
      have g0 : (0 : Int) ≤ (n : Int) ∧ (n : Int) ≤ 1100000 := by omega
      have hne := neederOf_both h_bothWays
      have hE := okE_nES true
      have hof : ofE (nES true) (frL (n : Int) m) = gF true m n := ofE_nES true (fr_okC (by omega) q3)
      obtain ⟨f1, f3⟩ := frL_len n q3
      have hlt : lnT m (List.replicate n 0) = ltF m n := rfl
      have hb := gF_bd (n := n) (by omega) q3
      have hl := (CS.of hs).lt
      rw [hlt] at hl
      have hw : IntKind.i64.wrap (ltF m n - gF true m n) = ltF m n - gF true m n := wrap64 (by omega) (by omega)
      simp only [Int.toNat_natCast]
      refine is.go hm hΓ k_MoreThanSets o_MoreThanSets (by simp [a_MoreThanSets]) ?_
      simp only [a_MoreThanSets, h_in, c_in, h_newLesser, c_newLesser, h_start, c_start, h_lneed, c_lneed, h_countsOf, c_countsOf, h_nOf, c_nOf, h1, h2, hp, hs, hok, hi0, ho0, g0, q2.2, q3, decide_true, Bool.and_self, Bool.not_true, Bool.false_eq_true, h_neederOf, hne, hE, hof, f1, f3, hlt, hw, Int.toNat_natCast, List.length_replicate, ints_len, isI_ints, ofI_ints, List.zipIdx_cons, List.zipIdx_nil, ↓SP, SQ, Gam.add, stepM, callC, argC, lendO, nmBy, nmC, likeL, likeB, plainOb, offs, exL, X, F, trP, trO, stepD, stepW, newA, SV.tr, SV.trL, fz, allP, Ob.tr, loadA, cellsA, SV.cells, binA, binI, eqOut, isSl, isPt, natOf, callee, snap, SV.refsL, SV.refs, thaw, fzAll, loA, hiA, elemOf, partsA, buildA, putCells, ↓reduceIte, reduceCtorEq, okCell, Nat.reduceAdd, Nat.reduceEqDiff, Nat.reduceSub, Nat.reduceMul, Nat.reduceLeDiff, Nat.reduceLT, Nat.reduceBEq, PV.scal, PV.scalL, SV.scal, SV.scalL, Ob.scal, PV.isCell, pure', resO]
      exact finA_val (by simp [retA, rvA, List.mapM_cons, List.mapM_nil, Option.pure_def, Option.bind_eq_bind, Option.bind_some, Option.map_some, mkE_cons, mk_nil, mkO_cons, mkO_nil, loadA, ↓reduceIte, List.take_succ_cons, List.take_zero, List.drop_zero, List.drop_succ_cons, List.length_cons, List.length_nil, Nat.reduceAdd, Nat.reduceEqDiff, Nat.reduceLeDiff, Nat.zero_add, Nat.le_refl, reduceCtorEq, SV.tr, SV.trL, nmF, rn_nil, rn_cons1, rn_cons2, List.map_cons, List.map_nil, List.all_cons, List.all_nil, plainOb, SV.refsL, SV.refs, Ob.refs, X, F, List.range_succ, List.range_zero, List.nil_append, List.cons_append, List.isEmpty_nil, decide_true, Nat.reduceLT, Bool.and_self, Bool.and_true, and_self, and_true, List.getElem?_cons_zero, List.getElem?_cons_succ, List.nodup_cons, List.nodup_nil, List.mem_cons, List.not_mem_nil, not_false_eq_true, or_false, List.append_nil, mkO, setO_mk, List.mem_singleton]) (by simp [SV.tr, SV.trL])
theorem s_s_MoreThanSets {P : Program} (hm : P.follows .mixedOrders = true) {Γ : Gam} (hΓ : GS P Γ) {n : FuncId} {f_l1In : FuncId} {f_l6Needs : FuncId} {f_start : FuncId} {f_l6Key : FuncId} {f_l4Needs : FuncId} {f_countsOf : FuncId} {f_l4Key : FuncId} (is : Is P n (a_s_MoreThanSets f_l1In f_l6Needs f_start f_l6Key f_l4Needs f_countsOf f_l4Key)) (h_l1In : Γ f_l1In = c_in) (h_l6Needs : Γ f_l6Needs = c_l6Needs) (h_start : Γ f_start = c_start) (h_l6Key : Γ f_l6Key = c_l6Key) (h_l4Needs : Γ f_l4Needs = c_l4Needs) (h_countsOf : Γ f_countsOf = c_countsOf) (h_l4Key : Γ f_l4Key = c_l4Key)  : Says P n c_MoreThanSets := by
  refine Says.pure fun args r fs h => ?_
  split at h
  case h_2 => cases h
  rename_i n m
  split at h
  case isFalse => cases h
  rename_i hc
  simp only [ofI_ints, ofBo_bools, ofAs_asks, Option.some.injEq, Prod.mk.injEq] at h hc
  obtain ⟨rfl, rfl⟩ := h
  cases h1 : (decide (1 ≤ n) && decide (n ≤ 5)) with
  | false =>
    have hp : okMT n m = false := by simp only [okMT, h1, Bool.false_and]
    refine is.go hm hΓ k_s_MoreThanSets o_s_MoreThanSets (by simp [a_s_MoreThanSets]) ?_
    simp only [a_s_MoreThanSets, h_l1In, c_in, h_l6Needs, c_l6Needs, h_start, c_start, h_l6Key, c_l6Key, h_l4Needs, c_l4Needs, h_countsOf, c_countsOf, h_l4Key, c_l4Key, h1, hp, Bool.false_eq_true, List.zipIdx_cons, List.zipIdx_nil, ↓SP, SQ, Gam.add, stepM, callC, argC, lendO, nmBy, nmC, likeL, likeB, plainOb, offs, exL, X, F, trP, trO, stepD, stepW, newA, SV.tr, SV.trL, fz, allP, Ob.tr, loadA, cellsA, SV.cells, binA, binI, eqOut, isSl, isPt, natOf, callee, snap, SV.refsL, SV.refs, thaw, fzAll, loA, hiA, elemOf, partsA, buildA, putCells, ↓reduceIte, reduceCtorEq, okCell, Nat.reduceAdd, Nat.reduceEqDiff, Nat.reduceSub, Nat.reduceMul, Nat.reduceLeDiff, Nat.reduceLT, Nat.reduceBEq, PV.scal, PV.scalL, SV.scal, SV.scalL, Ob.scal, PV.isCell, pure', resO]
    exact finA_val (by simp [retA, rvA, List.mapM_cons, List.mapM_nil, Option.pure_def, Option.bind_eq_bind, Option.bind_some, Option.map_some, mkE_cons, mk_nil, mkO_cons, mkO_nil, loadA, ↓reduceIte, List.take_succ_cons, List.take_zero, List.drop_zero, List.drop_succ_cons, List.length_cons, List.length_nil, Nat.reduceAdd, Nat.reduceEqDiff, Nat.reduceLeDiff, Nat.zero_add, Nat.le_refl, reduceCtorEq, SV.tr, SV.trL, nmF, rn_nil, rn_cons1, rn_cons2, List.map_cons, List.map_nil, List.all_cons, List.all_nil, plainOb, SV.refsL, SV.refs, Ob.refs, X, F, List.range_succ, List.range_zero, List.nil_append, List.cons_append, List.isEmpty_nil, decide_true, Nat.reduceLT, Bool.and_self, Bool.and_true, and_self, and_true, List.getElem?_cons_zero, List.getElem?_cons_succ, List.nodup_cons, List.nodup_nil, List.mem_cons, List.not_mem_nil, not_false_eq_true, or_false, List.append_nil, mkO, setO_mk, List.mem_singleton]) (by simp [SV.tr, SV.trL])
  | true =>
    cases h2 : (decide (0 ≤ m) && decide (m ≤ 1)) with
    | false =>
      have hp : okMT n m = false := by simp only [okMT, h2, Bool.and_false]
      refine is.go hm hΓ k_s_MoreThanSets o_s_MoreThanSets (by simp [a_s_MoreThanSets]) ?_
      simp only [a_s_MoreThanSets, h_l1In, c_in, h_l6Needs, c_l6Needs, h_start, c_start, h_l6Key, c_l6Key, h_l4Needs, c_l4Needs, h_countsOf, c_countsOf, h_l4Key, c_l4Key, h1, h2, hp, Bool.false_eq_true, List.zipIdx_cons, List.zipIdx_nil, ↓SP, SQ, Gam.add, stepM, callC, argC, lendO, nmBy, nmC, likeL, likeB, plainOb, offs, exL, X, F, trP, trO, stepD, stepW, newA, SV.tr, SV.trL, fz, allP, Ob.tr, loadA, cellsA, SV.cells, binA, binI, eqOut, isSl, isPt, natOf, callee, snap, SV.refsL, SV.refs, thaw, fzAll, loA, hiA, elemOf, partsA, buildA, putCells, ↓reduceIte, reduceCtorEq, okCell, Nat.reduceAdd, Nat.reduceEqDiff, Nat.reduceSub, Nat.reduceMul, Nat.reduceLeDiff, Nat.reduceLT, Nat.reduceBEq, PV.scal, PV.scalL, SV.scal, SV.scalL, Ob.scal, PV.isCell, pure', resO]
      exact finA_val (by simp [retA, rvA, List.mapM_cons, List.mapM_nil, Option.pure_def, Option.bind_eq_bind, Option.bind_some, Option.map_some, mkE_cons, mk_nil, mkO_cons, mkO_nil, loadA, ↓reduceIte, List.take_succ_cons, List.take_zero, List.drop_zero, List.drop_succ_cons, List.length_cons, List.length_nil, Nat.reduceAdd, Nat.reduceEqDiff, Nat.reduceLeDiff, Nat.zero_add, Nat.le_refl, reduceCtorEq, SV.tr, SV.trL, nmF, rn_nil, rn_cons1, rn_cons2, List.map_cons, List.map_nil, List.all_cons, List.all_nil, plainOb, SV.refsL, SV.refs, Ob.refs, X, F, List.range_succ, List.range_zero, List.nil_append, List.cons_append, List.isEmpty_nil, decide_true, Nat.reduceLT, Bool.and_self, Bool.and_true, and_self, and_true, List.getElem?_cons_zero, List.getElem?_cons_succ, List.nodup_cons, List.nodup_nil, List.mem_cons, List.not_mem_nil, not_false_eq_true, or_false, List.append_nil, mkO, setO_mk, List.mem_singleton]) (by simp [SV.tr, SV.trL])
    | true =>
      have hp : okMT n m = true := by simp only [okMT, h1, h2]; rfl
      have q1 : 1 ≤ n ∧ n ≤ 5 := by simpa using h1
      have q2 : 0 ≤ m ∧ m ≤ 1 := by simpa using h2
      obtain ⟨n, rfl⟩ : ∃ j : Nat, n = j := ⟨n.toNat, by omega⟩
      have q3 : 0 ≤ m ∧ m ≤ 2 := by omega
      have hs := sh_rep q2 (n := n) (by omega) (by omega)
      have g0 : (0 : Int) ≤ (n : Int) ∧ (n : Int) ≤ 1100000 := by omega
      obtain ⟨p0, p1, p2⟩ := tbl_at hs
      rw [List.length_replicate] at p1 p2
      have hlt : lnT m (List.replicate n 0) = ltF m n := rfl
      have hb := gF_bd (n := n) (by omega) q3
      have hl := (CS.of hs).lt
      rw [hlt] at hl
      obtain ⟨mm, rfl⟩ : ∃ j : Nat, m = j := ⟨m.toNat, by omega⟩
      have hwm := wrap_one (i := mm) (by omega)
      have m1 : (1 : Int) ≤ ((mm + 1 : Nat) : Int) := by omega
      have m3 : ((mm + 1 : Nat) : Int) ≤ 3 := by omega
      have hfo := fr_okC (n := n) (m := mm) (by omega) q3
      obtain ⟨⟨f1, f3⟩, f8, _⟩ := okC_out hfo
      have hfl : (frL (n : Int) mm).length = mm + 1 := by simp [frL]
      obtain ⟨k0, k1⟩ := keyN_bd (p := mm + 1) hfl f8
      have hkk : (keyL (frL (n : Int) mm)).toNat = keyN (frL (n : Int) mm) := rfl
      have hg := ints_get (l := tabK (ntT tabB) (mm + 1) 9) (i := keyN (frL (n : Int) mm)) (by rw [tabK_len]; exact k1)
      have htn := (tab_nd hfo).1
      rw [hfl] at htn
      have htn2 : (tabK (ntT tabB) (mm + 1) 9).getD (keyN (frL (n : Int) mm)) 0 = gF true mm n := htn
      rw [htn2] at hg
      have hw : IntKind.i64.wrap (ltF mm n - gF true mm n) = ltF mm n - gF true mm n := wrap64 (by omega) (by omega)
      simp only [Int.toNat_natCast]
      refine is.go hm hΓ k_s_MoreThanSets o_s_MoreThanSets (by simp [a_s_MoreThanSets]) ?_
      simp only [a_s_MoreThanSets, h_l1In, c_in, h_l6Needs, c_l6Needs, h_start, c_start, h_l6Key, c_l6Key, h_l4Needs, c_l4Needs, h_countsOf, c_countsOf, h_l4Key, c_l4Key, h1, h2, hp, hs, g0, q1, q2, q3, p0, p1, p2, hwm, m1, m3, f3, f8, k0, hkk, hg, hlt, hw, Int.toNat_natCast, ints_len, isI_ints, ofI_ints, List.zipIdx_cons, List.zipIdx_nil, ↓SP, SQ, Gam.add, stepM, callC, argC, lendO, nmBy, nmC, likeL, likeB, plainOb, offs, exL, X, F, trP, trO, stepD, stepW, newA, SV.tr, SV.trL, fz, allP, Ob.tr, loadA, cellsA, SV.cells, binA, binI, eqOut, isSl, isPt, natOf, callee, snap, SV.refsL, SV.refs, thaw, fzAll, loA, hiA, elemOf, partsA, buildA, putCells, ↓reduceIte, reduceCtorEq, okCell, Nat.reduceAdd, Nat.reduceEqDiff, Nat.reduceSub, Nat.reduceMul, Nat.reduceLeDiff, Nat.reduceLT, Nat.reduceBEq, PV.scal, PV.scalL, SV.scal, SV.scalL, Ob.scal, PV.isCell, pure', resO]
      exact finA_val (by simp [retA, rvA, List.mapM_cons, List.mapM_nil, Option.pure_def, Option.bind_eq_bind, Option.bind_some, Option.map_some, mkE_cons, mk_nil, mkO_cons, mkO_nil, loadA, ↓reduceIte, List.take_succ_cons, List.take_zero, List.drop_zero, List.drop_succ_cons, List.length_cons, List.length_nil, Nat.reduceAdd, Nat.reduceEqDiff, Nat.reduceLeDiff, Nat.zero_add, Nat.le_refl, reduceCtorEq, SV.tr, SV.trL, nmF, rn_nil, rn_cons1, rn_cons2, List.map_cons, List.map_nil, List.all_cons, List.all_nil, plainOb, SV.refsL, SV.refs, Ob.refs, X, F, List.range_succ, List.range_zero, List.nil_append, List.cons_append, List.isEmpty_nil, decide_true, Nat.reduceLT, Bool.and_self, Bool.and_true, and_self, and_true, List.getElem?_cons_zero, List.getElem?_cons_succ, List.nodup_cons, List.nodup_nil, List.mem_cons, List.not_mem_nil, not_false_eq_true, or_false, List.append_nil, mkO, setO_mk, List.mem_singleton]) (by simp [SV.tr, SV.trL])
def a_x_MoreThanSets (f_s_MoreThanSets : FuncId) (f_MoreThanSets : FuncId) : AFn := ⟨2, 
  .seq (.reg [⟨some 4, none, .d (.mv (.c (.bool false)))⟩])
  (.seq (.reg [⟨some 10, none, .d (.mv (.t 0))⟩,
    ⟨some 11, none, .d (.mv (.t 1))⟩,
    ⟨some 12, none, .d (.call (.f f_s_MoreThanSets) [(.t 10), (.t 11)])⟩,
    ⟨some 9, none, .d (.mv (.t 12))⟩,
    ⟨some 13, none, .d (.extract (.t 9) 0)⟩,
    ⟨some 14, none, .d (.extract (.t 9) 1)⟩,
    ⟨some 5, none, .d (.mv (.t 13))⟩,
    ⟨some 6, none, .d (.mv (.t 14))⟩])
  (.seq (.reg [⟨some 16, none, .d (.mv (.t 0))⟩,
    ⟨some 17, none, .d (.mv (.t 1))⟩,
    ⟨some 18, none, .d (.call (.f f_MoreThanSets) [(.t 16), (.t 17)])⟩,
    ⟨some 15, none, .d (.mv (.t 18))⟩,
    ⟨some 19, none, .d (.extract (.t 15) 0)⟩,
    ⟨some 20, none, .d (.extract (.t 15) 1)⟩,
    ⟨some 7, none, .d (.mv (.t 19))⟩,
    ⟨some 8, none, .d (.mv (.t 20))⟩])
  (.seq (.seq (.reg [⟨some 21, none, .d (.mv (.t 7))⟩,
    ⟨some 22, none, .d (.mv (.t 5))⟩,
    ⟨some 23, none, .d (.bin .arith .neq (.t 21) (.t 22))⟩,
    ⟨some 24, none, .d (.mv (.t 23))⟩,
    ⟨some 25, some (24, false), .d (.mv (.t 8))⟩,
    ⟨some 26, some (24, false), .d (.mv (.t 6))⟩,
    ⟨some 27, some (24, false), .d (.bin .bool .neq (.t 25) (.t 26))⟩,
    ⟨some 28, none, .d (.pick (.t 24) (.c (.bool true)) (.t 27))⟩])
  (.cond (.t 28) (.seq (.reg [⟨some 4, none, .d (.mv (.c (.bool false)))⟩])
   (.ret)) (.skip)))
  (.seq (.reg [⟨some 4, none, .d (.mv (.c (.bool true)))⟩])
  (.ret))))), [.tmp 4]⟩
def n_x_MoreThanSets : Nat → Option Ann := fun _ => none
abbrev k_x_MoreThanSets : List Nat := [0, 1, 4, 5, 6, 7, 8, 28]
abbrev o_x_MoreThanSets : List Nat := []
def c_x_MoreThanSets : Con := pure' fun
  | [.p (.int .i64 n), .p (.int .i64 m)] => if (True) then some (.p (.bool true), []) else none
  | _ => none
theorem s_x_MoreThanSets {P : Program} (hm : P.follows .mixedOrders = true) {Γ : Gam} (hΓ : GS P Γ) {n : FuncId} {f_s_MoreThanSets : FuncId} {f_MoreThanSets : FuncId} (is : Is P n (a_x_MoreThanSets f_s_MoreThanSets f_MoreThanSets)) (h_s_MoreThanSets : Γ f_s_MoreThanSets = c_MoreThanSets) (h_MoreThanSets : Γ f_MoreThanSets = c_MoreThanSets)  : Says P n c_x_MoreThanSets := by
  refine Says.pure fun args r fs h => ?_
  split at h
  case h_2 => cases h
  rename_i n m
  split at h
  case isFalse => cases h
  rename_i hc
  simp only [ofI_ints, ofBo_bools, ofAs_asks, Option.some.injEq, Prod.mk.injEq] at h hc
  obtain ⟨rfl, rfl⟩ := h
  generalize (if okMT n m = true then ltF m n.toNat - gF true m n.toNat else 0) = y at *
  refine is.go hm hΓ k_x_MoreThanSets o_x_MoreThanSets (by simp [a_x_MoreThanSets]) ?_
  simp only [a_x_MoreThanSets, h_s_MoreThanSets, c_MoreThanSets, h_MoreThanSets, c_MoreThanSets, bne_self_eq_false, beq_self_eq_true, Bool.not_true, List.zipIdx_cons, List.zipIdx_nil, ↓SP, SQ, Gam.add, stepM, callC, argC, lendO, nmBy, nmC, likeL, likeB, plainOb, offs, exL, X, F, trP, trO, stepD, stepW, newA, SV.tr, SV.trL, fz, allP, Ob.tr, loadA, cellsA, SV.cells, binA, binI, eqOut, isSl, isPt, natOf, callee, snap, SV.refsL, SV.refs, thaw, fzAll, loA, hiA, elemOf, partsA, buildA, putCells, ↓reduceIte, reduceCtorEq, okCell, Nat.reduceAdd, Nat.reduceEqDiff, Nat.reduceSub, Nat.reduceMul, Nat.reduceLeDiff, Nat.reduceLT, Nat.reduceBEq, PV.scal, PV.scalL, SV.scal, SV.scalL, Ob.scal, PV.isCell, pure', resO]
  exact finA_val (by simp [retA, rvA, List.mapM_cons, List.mapM_nil, Option.pure_def, Option.bind_eq_bind, Option.bind_some, Option.map_some, mkE_cons, mk_nil, mkO_cons, mkO_nil, loadA, ↓reduceIte, List.take_succ_cons, List.take_zero, List.drop_zero, List.drop_succ_cons, List.length_cons, List.length_nil, Nat.reduceAdd, Nat.reduceEqDiff, Nat.reduceLeDiff, Nat.zero_add, Nat.le_refl, reduceCtorEq, SV.tr, SV.trL, nmF, rn_nil, rn_cons1, rn_cons2, List.map_cons, List.map_nil, List.all_cons, List.all_nil, plainOb, SV.refsL, SV.refs, Ob.refs, X, F, List.range_succ, List.range_zero, List.nil_append, List.cons_append, List.isEmpty_nil, decide_true, Nat.reduceLT, Bool.and_self, Bool.and_true, and_self, and_true, List.getElem?_cons_zero, List.getElem?_cons_succ, List.nodup_cons, List.nodup_nil, List.mem_cons, List.not_mem_nil, not_false_eq_true, or_false, List.append_nil, mkO, setO_mk, List.mem_singleton]) (by simp [SV.tr, SV.trL])
end Go.Proofs.Ytihpfhdkjlphhaa.Pam
