/- A part of the proof that stands in this folder: a small machine whose steps are shown to be the steps of the model, or walks of functions by it. No condition of its own. -/
import Derived.Test.YtnonkjcklgihhaaLG
set_option linter.unusedVariables false
set_option linter.unusedSimpArgs false
namespace Go.Proofs.Ytnonkjcklgihhaa.Pam
open Go
def a_s_OneWayAll (f_l2Answers : FuncId) (f_l1In : FuncId) (f_l10All : FuncId) : AFn := ⟨3, 
  .seq (.reg [⟨some 6, none, .w (.alloc [.nilsl, .int .i64 0])⟩,
    ⟨some 7, none, .d (.mv (.c (.bool false)))⟩])
  (.seq (.seq (.reg [⟨some 8, none, .d (.mv (.t 0))⟩,
    ⟨some 9, none, .d (.mv (.t 2))⟩,
    ⟨some 10, none, .d (.call (.f f_l2Answers) [(.t 8), (.t 9)])⟩,
    ⟨some 11, none, .d (.not (.t 10))⟩,
    ⟨some 12, none, .d (.mv (.t 11))⟩,
    ⟨some 13, some (12, false), .d (.mv (.t 1))⟩,
    ⟨some 14, some (12, false), .d (.call (.f f_l1In) [(.t 13), (.c (.int .i64 0)), (.c (.int .i64 2))])⟩,
    ⟨some 15, some (12, false), .d (.not (.t 14))⟩,
    ⟨some 16, none, .d (.pick (.t 12) (.c (.bool true)) (.t 15))⟩])
  (.cond (.t 16) (.seq (.reg [⟨some 17, none, .d (.build [.nilsl, .int .i64 0] [])⟩,
     ⟨none, none, .w (.store 2 (.t 6) (.t 17))⟩,
     ⟨some 7, none, .d (.mv (.c (.bool false)))⟩])
   (.ret)) (.skip)))
  (.seq (.reg [⟨some 18, none, .d (.mv (.t 0))⟩,
    ⟨some 19, none, .d (.mv (.t 1))⟩,
    ⟨some 20, none, .d (.mv (.t 2))⟩,
    ⟨some 21, none, .d (.call (.f f_l10All) [(.t 18), (.t 19), (.t 20)])⟩,
    ⟨none, none, .w (.store 2 (.t 6) (.t 21))⟩,
    ⟨some 7, none, .d (.mv (.c (.bool true)))⟩])
  (.ret))), [.cell 6 2 true, .tmp 7]⟩
def n_s_OneWayAll : Nat → Option Ann := fun _ => none
abbrev k_s_OneWayAll : List Nat := [0, 1, 2, 6, 7, 16]
abbrev o_s_OneWayAll : List Nat := [6]
def c_s_OneWayAll : Con := pure' fun
  | [.p (.int .i64 n), .p (.int .i64 m), .p (.sl 2 l_)] => if isAs l_ = true ∧ ((ofAs l_).length ≤ 1100000) then some (if okA n m (ofAs l_) = true then .tp [.ag [.p (.sl 1 (ints (allL (st1 m) (List.replicate n.toNat 0) (ofAs l_)))), .p (.int .i64 m)], .p (.bool true)] else .tp [.ag [.p .nilsl, .p (.int .i64 0)], .p (.bool false)], []) else none
  | _ => none
theorem s_s_OneWayAll {P : Program} (hm : P.follows .mixedOrders = true) {Γ : Gam} (hΓ : GS P Γ) {n : FuncId} {f_l2Answers : FuncId} {f_l1In : FuncId} {f_l10All : FuncId} (is : Is P n (a_s_OneWayAll f_l2Answers f_l1In f_l10All)) (h_l2Answers : Γ f_l2Answers = c_l2Answers) (h_l1In : Γ f_l1In = c_in) (h_l10All : Γ f_l10All = c_l10All)  : Says P n c_s_OneWayAll := by
  refine Says.pure fun args r fs h => ?_
  split at h
  case h_2 => cases h
  rename_i n m l_
  split at h
  case isFalse => cases h
  rename_i hc
  obtain ⟨hl_, hc⟩ := hc
  obtain ⟨l, rfl⟩ := isAs_out hl_
  simp only [ofI_ints, ofBo_bools, ofAs_asks, Option.some.injEq, Prod.mk.injEq] at h hc
  obtain ⟨rfl, rfl⟩ := h
  cases hA : areA n l 20 with
  | false =>
    have hok0 : okA n m l = false := by simp only [okA, hA, Bool.false_and]
    refine is.go hm hΓ k_s_OneWayAll o_s_OneWayAll (by simp [a_s_OneWayAll]) ?_
    simp only [a_s_OneWayAll, h_l2Answers, c_l2Answers, h_l1In, c_in, h_l10All, c_l10All, hc, hA, hok0, Bool.false_eq_true, List.zipIdx_cons, List.zipIdx_nil, ↓SP, SQ, Gam.add, stepM, callC, argC, lendO, nmBy, nmC, likeL, likeB, plainOb, offs, X, F, trP, trO, stepD, stepW, newA, SV.tr, SV.trL, fz, allP, Ob.tr, loadA, cellsA, SV.cells, binA, binI, eqOut, isSl, isPt, natOf, callee, snap, SV.refsL, SV.refs, thaw, fzAll, loA, hiA, elemOf, partsA, buildA, putCells, ↓reduceIte, reduceCtorEq, okCell, Nat.reduceAdd, Nat.reduceEqDiff, Nat.reduceSub, Nat.reduceMul, Nat.reduceLeDiff, Nat.reduceLT, Nat.reduceBEq, PV.scal, PV.scalL, SV.scal, SV.scalL, Ob.scal, PV.isCell, pure', resO]
    exact finA_val (by simp [retA, rvA, List.mapM_cons, List.mapM_nil, Option.pure_def, Option.bind_eq_bind, Option.bind_some, Option.map_some, mkE_cons, mk_nil, mkO_cons, mkO_nil, loadA, ↓reduceIte, List.take_succ_cons, List.take_zero, List.drop_zero, List.drop_succ_cons, List.length_cons, List.length_nil, Nat.reduceAdd, Nat.reduceEqDiff, Nat.reduceLeDiff, Nat.zero_add, Nat.le_refl, reduceCtorEq, SV.tr, SV.trL, nmF, rn_nil, rn_cons1, rn_cons2, List.map_cons, List.map_nil, List.all_cons, List.all_nil, plainOb, SV.refsL, SV.refs, Ob.refs, X, F, List.range_succ, List.range_zero, List.nil_append, List.cons_append, List.isEmpty_nil, decide_true, Nat.reduceLT, Bool.and_self, Bool.and_true, and_self, and_true, List.getElem?_cons_zero, List.getElem?_cons_succ, List.nodup_cons, List.nodup_nil, List.mem_cons, List.not_mem_nil, not_false_eq_true, or_false, List.append_nil, mkO, setO_mk, List.mem_singleton]) (by simp [SV.tr, SV.trL])
  | true =>
    cases hM : (decide (0 ≤ m) && decide (m ≤ 2)) with
    | false =>
      have hok0 : okA n m l = false := by simp only [okA, hA, hM, Bool.and_false]
      refine is.go hm hΓ k_s_OneWayAll o_s_OneWayAll (by simp [a_s_OneWayAll]) ?_
      simp only [a_s_OneWayAll, h_l2Answers, c_l2Answers, h_l1In, c_in, h_l10All, c_l10All, hc, hA, hM, hok0, Bool.false_eq_true, List.zipIdx_cons, List.zipIdx_nil, ↓SP, SQ, Gam.add, stepM, callC, argC, lendO, nmBy, nmC, likeL, likeB, plainOb, offs, X, F, trP, trO, stepD, stepW, newA, SV.tr, SV.trL, fz, allP, Ob.tr, loadA, cellsA, SV.cells, binA, binI, eqOut, isSl, isPt, natOf, callee, snap, SV.refsL, SV.refs, thaw, fzAll, loA, hiA, elemOf, partsA, buildA, putCells, ↓reduceIte, reduceCtorEq, okCell, Nat.reduceAdd, Nat.reduceEqDiff, Nat.reduceSub, Nat.reduceMul, Nat.reduceLeDiff, Nat.reduceLT, Nat.reduceBEq, PV.scal, PV.scalL, SV.scal, SV.scalL, Ob.scal, PV.isCell, pure', resO]
      exact finA_val (by simp [retA, rvA, List.mapM_cons, List.mapM_nil, Option.pure_def, Option.bind_eq_bind, Option.bind_some, Option.map_some, mkE_cons, mk_nil, mkO_cons, mkO_nil, loadA, ↓reduceIte, List.take_succ_cons, List.take_zero, List.drop_zero, List.drop_succ_cons, List.length_cons, List.length_nil, Nat.reduceAdd, Nat.reduceEqDiff, Nat.reduceLeDiff, Nat.zero_add, Nat.le_refl, reduceCtorEq, SV.tr, SV.trL, nmF, rn_nil, rn_cons1, rn_cons2, List.map_cons, List.map_nil, List.all_cons, List.all_nil, plainOb, SV.refsL, SV.refs, Ob.refs, X, F, List.range_succ, List.range_zero, List.nil_append, List.cons_append, List.isEmpty_nil, decide_true, Nat.reduceLT, Bool.and_self, Bool.and_true, and_self, and_true, List.getElem?_cons_zero, List.getElem?_cons_succ, List.nodup_cons, List.nodup_nil, List.mem_cons, List.not_mem_nil, not_false_eq_true, or_false, List.append_nil, mkO, setO_mk, List.mem_singleton]) (by simp [SV.tr, SV.trL])
    | true =>
      have hok0 : okA n m l = true := by simp only [okA, hA, hM, Bool.and_self]
      have hMd := hM
      simp only [areA, Bool.and_eq_true, decide_eq_true_eq] at hM
      have hA2 := hA
      simp only [areA, Bool.and_eq_true, decide_eq_true_eq] at hA2
      have hn0 : 0 ≤ n := by omega
      have hn1 : n ≤ 1100000 := by omega
      have hm2 : m ≤ 1000 := by omega
      refine is.go hm hΓ k_s_OneWayAll o_s_OneWayAll (by simp [a_s_OneWayAll]) ?_
      simp only [a_s_OneWayAll, h_l2Answers, c_l2Answers, h_l1In, c_in, h_l10All, c_l10All, hc, hA, hMd, hn0, hn1, hm2, hok0, List.zipIdx_cons, List.zipIdx_nil, ↓SP, SQ, Gam.add, stepM, callC, argC, lendO, nmBy, nmC, likeL, likeB, plainOb, offs, X, F, trP, trO, stepD, stepW, newA, SV.tr, SV.trL, fz, allP, Ob.tr, loadA, cellsA, SV.cells, binA, binI, eqOut, isSl, isPt, natOf, callee, snap, SV.refsL, SV.refs, thaw, fzAll, loA, hiA, elemOf, partsA, buildA, putCells, ↓reduceIte, reduceCtorEq, okCell, Nat.reduceAdd, Nat.reduceEqDiff, Nat.reduceSub, Nat.reduceMul, Nat.reduceLeDiff, Nat.reduceLT, Nat.reduceBEq, PV.scal, PV.scalL, SV.scal, SV.scalL, Ob.scal, PV.isCell, pure', resO]
      exact finA_val (by simp [retA, rvA, List.mapM_cons, List.mapM_nil, Option.pure_def, Option.bind_eq_bind, Option.bind_some, Option.map_some, mkE_cons, mk_nil, mkO_cons, mkO_nil, loadA, ↓reduceIte, List.take_succ_cons, List.take_zero, List.drop_zero, List.drop_succ_cons, List.length_cons, List.length_nil, Nat.reduceAdd, Nat.reduceEqDiff, Nat.reduceLeDiff, Nat.zero_add, Nat.le_refl, reduceCtorEq, SV.tr, SV.trL, nmF, rn_nil, rn_cons1, rn_cons2, List.map_cons, List.map_nil, List.all_cons, List.all_nil, plainOb, SV.refsL, SV.refs, Ob.refs, X, F, List.range_succ, List.range_zero, List.nil_append, List.cons_append, List.isEmpty_nil, decide_true, Nat.reduceLT, Bool.and_self, Bool.and_true, and_self, and_true, List.getElem?_cons_zero, List.getElem?_cons_succ, List.nodup_cons, List.nodup_nil, List.mem_cons, List.not_mem_nil, not_false_eq_true, or_false, List.append_nil, mkO, setO_mk, List.mem_singleton]) (by simp [SV.tr, SV.trL])
/-- Whether one way and the other are the same. -/
def sameA (n m : Int) (l : List (Int × Bool)) : Bool := decide (allL (st1 m) (List.replicate n.toNat 0) l = allL (st2 m) (List.replicate n.toNat 0) l)
def a_s_SameOneWay (f_l2Answers : FuncId) (f_l1In : FuncId) (f_l10All : FuncId) (f_l2All : FuncId) (f_eqIntS : FuncId) : AFn := ⟨3, 
  .seq (.reg [⟨some 6, none, .d (.mv (.c (.bool false)))⟩,
    ⟨some 7, none, .d (.mv (.c (.bool false)))⟩])
  (.seq (.seq (.reg [⟨some 8, none, .d (.mv (.t 0))⟩,
    ⟨some 9, none, .d (.mv (.t 2))⟩,
    ⟨some 10, none, .d (.call (.f f_l2Answers) [(.t 8), (.t 9)])⟩,
    ⟨some 11, none, .d (.not (.t 10))⟩,
    ⟨some 12, none, .d (.mv (.t 11))⟩,
    ⟨some 13, some (12, false), .d (.mv (.t 1))⟩,
    ⟨some 14, some (12, false), .d (.call (.f f_l1In) [(.t 13), (.c (.int .i64 0)), (.c (.int .i64 2))])⟩,
    ⟨some 15, some (12, false), .d (.not (.t 14))⟩,
    ⟨some 16, none, .d (.pick (.t 12) (.c (.bool true)) (.t 15))⟩])
  (.cond (.t 16) (.seq (.reg [⟨some 6, none, .d (.mv (.c (.bool false)))⟩,
     ⟨some 7, none, .d (.mv (.c (.bool false)))⟩])
   (.ret)) (.skip)))
  (.seq (.reg [⟨some 17, none, .d (.mv (.t 0))⟩,
    ⟨some 18, none, .d (.mv (.t 1))⟩,
    ⟨some 19, none, .d (.mv (.t 2))⟩,
    ⟨some 20, none, .d (.call (.f f_l10All) [(.t 17), (.t 18), (.t 19)])⟩,
    ⟨some 21, none, .d (.fld false 0 1 (.t 20))⟩,
    ⟨some 22, none, .d (.mv (.t 0))⟩,
    ⟨some 23, none, .d (.mv (.t 1))⟩,
    ⟨some 24, none, .d (.mv (.t 2))⟩,
    ⟨some 25, none, .d (.call (.f f_l2All) [(.t 22), (.t 23), (.t 24)])⟩,
    ⟨some 26, none, .d (.fld false 0 1 (.t 25))⟩,
    ⟨some 27, none, .d (.call (.f f_eqIntS) [(.t 21), (.t 26)])⟩,
    ⟨some 6, none, .d (.mv (.t 27))⟩,
    ⟨some 7, none, .d (.mv (.c (.bool true)))⟩])
  (.ret))), [.tmp 6, .tmp 7]⟩
def n_s_SameOneWay : Nat → Option Ann := fun _ => none
abbrev k_s_SameOneWay : List Nat := [0, 1, 2, 6, 7, 16]
abbrev o_s_SameOneWay : List Nat := []
def c_s_SameOneWay : Con := pure' fun
  | [.p (.int .i64 n), .p (.int .i64 m), .p (.sl 2 l_)] => if isAs l_ = true ∧ ((ofAs l_).length ≤ 1100000) then some (.tp [.p (.bool (okA n m (ofAs l_) && sameA n m (ofAs l_))), .p (.bool (okA n m (ofAs l_)))], []) else none
  | _ => none
theorem s_s_SameOneWay {P : Program} (hm : P.follows .mixedOrders = true) {Γ : Gam} (hΓ : GS P Γ) {n : FuncId} {f_l2Answers : FuncId} {f_l1In : FuncId} {f_l10All : FuncId} {f_l2All : FuncId} {f_eqIntS : FuncId} (is : Is P n (a_s_SameOneWay f_l2Answers f_l1In f_l10All f_l2All f_eqIntS)) (h_l2Answers : Γ f_l2Answers = c_l2Answers) (h_l1In : Γ f_l1In = c_in) (h_l10All : Γ f_l10All = c_l10All) (h_l2All : Γ f_l2All = c_l2All) (h_eqIntS : Γ f_eqIntS = c_eqIntS)  : Says P n c_s_SameOneWay := by
  refine Says.pure fun args r fs h => ?_
  split at h
  case h_2 => cases h
  rename_i n m l_
  split at h
  case isFalse => cases h
  rename_i hc
  obtain ⟨hl_, hc⟩ := hc
  obtain ⟨l, rfl⟩ := isAs_out hl_
  simp only [ofI_ints, ofBo_bools, ofAs_asks, Option.some.injEq, Prod.mk.injEq] at h hc
  obtain ⟨rfl, rfl⟩ := h
  cases hA : areA n l 20 with
  | false =>
    have hok0 : okA n m l = false := by simp only [okA, hA, Bool.false_and]
    refine is.go hm hΓ k_s_SameOneWay o_s_SameOneWay (by simp [a_s_SameOneWay]) ?_
    simp only [a_s_SameOneWay, h_l2Answers, c_l2Answers, h_l1In, c_in, h_l10All, c_l10All, h_l2All, c_l2All, h_eqIntS, c_eqIntS, hc, hA, hok0, Bool.false_eq_true, List.zipIdx_cons, List.zipIdx_nil, ↓SP, SQ, Gam.add, stepM, callC, argC, lendO, nmBy, nmC, likeL, likeB, plainOb, offs, X, F, trP, trO, stepD, stepW, newA, SV.tr, SV.trL, fz, allP, Ob.tr, loadA, cellsA, SV.cells, binA, binI, eqOut, isSl, isPt, natOf, callee, snap, SV.refsL, SV.refs, thaw, fzAll, loA, hiA, elemOf, partsA, buildA, putCells, ↓reduceIte, reduceCtorEq, okCell, Nat.reduceAdd, Nat.reduceEqDiff, Nat.reduceSub, Nat.reduceMul, Nat.reduceLeDiff, Nat.reduceLT, Nat.reduceBEq, PV.scal, PV.scalL, SV.scal, SV.scalL, Ob.scal, PV.isCell, pure', resO]
    exact finA_val (by simp [retA, rvA, List.mapM_cons, List.mapM_nil, Option.pure_def, Option.bind_eq_bind, Option.bind_some, Option.map_some, mkE_cons, mk_nil, mkO_cons, mkO_nil, loadA, ↓reduceIte, List.take_succ_cons, List.take_zero, List.drop_zero, List.drop_succ_cons, List.length_cons, List.length_nil, Nat.reduceAdd, Nat.reduceEqDiff, Nat.reduceLeDiff, Nat.zero_add, Nat.le_refl, reduceCtorEq, SV.tr, SV.trL, nmF, rn_nil, rn_cons1, rn_cons2, List.map_cons, List.map_nil, List.all_cons, List.all_nil, plainOb, SV.refsL, SV.refs, Ob.refs, X, F, List.range_succ, List.range_zero, List.nil_append, List.cons_append, List.isEmpty_nil, decide_true, Nat.reduceLT, Bool.and_self, Bool.and_true, and_self, and_true, List.getElem?_cons_zero, List.getElem?_cons_succ, List.nodup_cons, List.nodup_nil, List.mem_cons, List.not_mem_nil, not_false_eq_true, or_false, List.append_nil, mkO, setO_mk, List.mem_singleton]) (by simp [SV.tr, SV.trL])
  | true =>
    cases hM : (decide (0 ≤ m) && decide (m ≤ 2)) with
    | false =>
      have hok0 : okA n m l = false := by simp only [okA, hA, hM, Bool.and_false]
      refine is.go hm hΓ k_s_SameOneWay o_s_SameOneWay (by simp [a_s_SameOneWay]) ?_
      simp only [a_s_SameOneWay, h_l2Answers, c_l2Answers, h_l1In, c_in, h_l10All, c_l10All, h_l2All, c_l2All, h_eqIntS, c_eqIntS, hc, hA, hM, hok0, Bool.false_eq_true, List.zipIdx_cons, List.zipIdx_nil, ↓SP, SQ, Gam.add, stepM, callC, argC, lendO, nmBy, nmC, likeL, likeB, plainOb, offs, X, F, trP, trO, stepD, stepW, newA, SV.tr, SV.trL, fz, allP, Ob.tr, loadA, cellsA, SV.cells, binA, binI, eqOut, isSl, isPt, natOf, callee, snap, SV.refsL, SV.refs, thaw, fzAll, loA, hiA, elemOf, partsA, buildA, putCells, ↓reduceIte, reduceCtorEq, okCell, Nat.reduceAdd, Nat.reduceEqDiff, Nat.reduceSub, Nat.reduceMul, Nat.reduceLeDiff, Nat.reduceLT, Nat.reduceBEq, PV.scal, PV.scalL, SV.scal, SV.scalL, Ob.scal, PV.isCell, pure', resO]
      exact finA_val (by simp [retA, rvA, List.mapM_cons, List.mapM_nil, Option.pure_def, Option.bind_eq_bind, Option.bind_some, Option.map_some, mkE_cons, mk_nil, mkO_cons, mkO_nil, loadA, ↓reduceIte, List.take_succ_cons, List.take_zero, List.drop_zero, List.drop_succ_cons, List.length_cons, List.length_nil, Nat.reduceAdd, Nat.reduceEqDiff, Nat.reduceLeDiff, Nat.zero_add, Nat.le_refl, reduceCtorEq, SV.tr, SV.trL, nmF, rn_nil, rn_cons1, rn_cons2, List.map_cons, List.map_nil, List.all_cons, List.all_nil, plainOb, SV.refsL, SV.refs, Ob.refs, X, F, List.range_succ, List.range_zero, List.nil_append, List.cons_append, List.isEmpty_nil, decide_true, Nat.reduceLT, Bool.and_self, Bool.and_true, and_self, and_true, List.getElem?_cons_zero, List.getElem?_cons_succ, List.nodup_cons, List.nodup_nil, List.mem_cons, List.not_mem_nil, not_false_eq_true, or_false, List.append_nil, mkO, setO_mk, List.mem_singleton]) (by simp [SV.tr, SV.trL])
    | true =>
      have hok0 : okA n m l = true := by simp only [okA, hA, hM, Bool.and_self]
      have hMd := hM
      simp only [areA, Bool.and_eq_true, decide_eq_true_eq] at hM
      have hA2 := hA
      simp only [areA, Bool.and_eq_true, decide_eq_true_eq] at hA2
      have hn0 : 0 ≤ n := by omega
      have hn1 : n ≤ 1100000 := by omega
      have hm2 : m ≤ 1000 := by omega
      have hk1 := allL_ok (st := st1 m) (m := m) st1_len st1_small (small_rep m n.toNat) l
      have hk2 := allL_ok (st := st2 m) (m := m) st2_len st2_small (small_rep m n.toNat) l
      simp only [List.length_replicate] at hk1 hk2
      have hl1 : (allL (st1 m) (List.replicate n.toNat 0) l).length ≤ 1100000 := by omega
      have hl2 : (allL (st2 m) (List.replicate n.toNat 0) l).length ≤ 1100000 := by omega
      refine is.go hm hΓ k_s_SameOneWay o_s_SameOneWay (by simp [a_s_SameOneWay]) ?_
      simp only [a_s_SameOneWay, h_l2Answers, c_l2Answers, h_l1In, c_in, h_l10All, c_l10All, h_l2All, c_l2All, h_eqIntS, c_eqIntS, hc, hA, hMd, hn0, hn1, hm2, hok0, hl1, hl2, slI_sl, List.zipIdx_cons, List.zipIdx_nil, ↓SP, SQ, Gam.add, stepM, callC, argC, lendO, nmBy, nmC, likeL, likeB, plainOb, offs, X, F, trP, trO, stepD, stepW, newA, SV.tr, SV.trL, fz, allP, Ob.tr, loadA, cellsA, SV.cells, binA, binI, eqOut, isSl, isPt, natOf, callee, snap, SV.refsL, SV.refs, thaw, fzAll, loA, hiA, elemOf, partsA, buildA, putCells, ↓reduceIte, reduceCtorEq, okCell, Nat.reduceAdd, Nat.reduceEqDiff, Nat.reduceSub, Nat.reduceMul, Nat.reduceLeDiff, Nat.reduceLT, Nat.reduceBEq, PV.scal, PV.scalL, SV.scal, SV.scalL, Ob.scal, PV.isCell, pure', resO]
      exact finA_val (by simp [sameA, retA, rvA, List.mapM_cons, List.mapM_nil, Option.pure_def, Option.bind_eq_bind, Option.bind_some, Option.map_some, mkE_cons, mk_nil, mkO_cons, mkO_nil, loadA, ↓reduceIte, List.take_succ_cons, List.take_zero, List.drop_zero, List.drop_succ_cons, List.length_cons, List.length_nil, Nat.reduceAdd, Nat.reduceEqDiff, Nat.reduceLeDiff, Nat.zero_add, Nat.le_refl, reduceCtorEq, SV.tr, SV.trL, nmF, rn_nil, rn_cons1, rn_cons2, List.map_cons, List.map_nil, List.all_cons, List.all_nil, plainOb, SV.refsL, SV.refs, Ob.refs, X, F, List.range_succ, List.range_zero, List.nil_append, List.cons_append, List.isEmpty_nil, decide_true, Nat.reduceLT, Bool.and_self, Bool.and_true, and_self, and_true, List.getElem?_cons_zero, List.getElem?_cons_succ, List.nodup_cons, List.nodup_nil, List.mem_cons, List.not_mem_nil, not_false_eq_true, or_false, List.append_nil, mkO, setO_mk, List.mem_singleton]) (by simp [SV.tr, SV.trL])
def a_SameOneWay (f_OneWayAll : FuncId) (f_AnswerAll : FuncId) : AFn := ⟨3, 
  .seq (.reg [⟨some 6, none, .d (.mv (.c (.bool false)))⟩,
    ⟨some 7, none, .d (.mv (.c (.bool false)))⟩])
  (.seq (.reg [⟨some 15, none, .d (.mv (.t 0))⟩,
    ⟨some 16, none, .d (.mv (.t 1))⟩,
    ⟨some 17, none, .d (.mv (.t 2))⟩,
    ⟨some 18, none, .d (.call (.f f_OneWayAll) [(.t 15), (.t 16), (.t 17)])⟩,
    ⟨some 14, none, .d (.mv (.t 18))⟩,
    ⟨some 19, none, .d (.extract (.t 14) 0)⟩,
    ⟨some 20, none, .d (.extract (.t 14) 1)⟩,
    ⟨some 8, none, .w (.alloc [.nilsl, .int .i64 0])⟩,
    ⟨none, none, .w (.store 2 (.t 8) (.t 19))⟩,
    ⟨some 9, none, .d (.mv (.t 20))⟩])
  (.seq (.reg [⟨some 22, none, .d (.mv (.t 0))⟩,
    ⟨some 23, none, .d (.mv (.t 1))⟩,
    ⟨some 24, none, .d (.mv (.t 2))⟩,
    ⟨some 25, none, .d (.call (.f f_AnswerAll) [(.t 22), (.t 23), (.t 24)])⟩,
    ⟨some 21, none, .d (.mv (.t 25))⟩,
    ⟨some 26, none, .d (.extract (.t 21) 0)⟩,
    ⟨some 27, none, .d (.extract (.t 21) 1)⟩,
    ⟨some 10, none, .w (.alloc [.nilsl, .int .i64 0])⟩,
    ⟨none, none, .w (.store 2 (.t 10) (.t 26))⟩,
    ⟨some 11, none, .d (.mv (.t 27))⟩])
  (.seq (.seq (.reg [⟨some 28, none, .d (.mv (.t 9))⟩,
    ⟨some 29, none, .d (.not (.t 28))⟩])
  (.cond (.t 29) (.seq (.reg [⟨some 6, none, .d (.mv (.c (.bool false)))⟩,
     ⟨some 7, none, .d (.mv (.c (.bool false)))⟩])
   (.ret)) (.skip)))
  (.seq (.seq (.reg [⟨some 30, none, .d (.fa 0 (.t 8))⟩,
    ⟨some 31, none, .d (.load false 1 (.t 30))⟩,
    ⟨some 32, none, .d (.len (.t 31))⟩,
    ⟨some 33, none, .d (.mv (.c (.int .i64 0)))⟩])
  (.block 0 (.loop (.seq (.reg [⟨some 34, none, .d (.bin .arith .lss (.t 33) (.t 32))⟩])
    (.seq (.cond (.t 34) (.skip) (.exit 0))
    (.seq (.block 1 (.seq (.reg [⟨some 35, none, .d (.mv (.t 33))⟩,
       ⟨some 36, none, .d (.ia 1 (.t 31) (.t 33))⟩,
       ⟨some 37, none, .d (.load false 1 (.t 36))⟩,
       ⟨some 12, none, .d (.mv (.t 35))⟩,
       ⟨some 13, none, .d (.mv (.t 37))⟩])
     (.seq (.reg [⟨some 38, none, .d (.fa 0 (.t 10))⟩,
       ⟨some 39, none, .d (.load false 1 (.t 38))⟩,
       ⟨some 40, none, .d (.mv (.t 12))⟩,
       ⟨some 41, none, .d (.ia 1 (.t 39) (.t 40))⟩,
       ⟨some 42, none, .d (.load false 1 (.t 41))⟩,
       ⟨some 43, none, .d (.mv (.t 13))⟩,
       ⟨some 44, none, .d (.bin .arith .neq (.t 42) (.t 43))⟩])
     (.cond (.t 44) (.seq (.reg [⟨some 6, none, .d (.mv (.c (.bool false)))⟩,
        ⟨some 7, none, .d (.mv (.c (.bool true)))⟩])
      (.ret)) (.skip)))))
    (.reg [⟨some 45, none, .d (.bin .arith .add (.t 33) (.c (.int .i64 1)))⟩,
      ⟨some 33, none, .d (.mv (.t 45))⟩])))))))
  (.seq (.reg [⟨some 6, none, .d (.mv (.c (.bool true)))⟩,
    ⟨some 7, none, .d (.mv (.c (.bool true)))⟩])
  (.ret)))))), [.tmp 6, .tmp 7]⟩
def n_SameOneWay : Nat → Option Ann := fun _ => none
abbrev k_SameOneWay : List Nat := [0, 1, 2, 6, 7, 8, 9, 10, 12, 13, 29, 31, 32, 33, 34, 44]
abbrev o_SameOneWay : List Nat := [8, 10]
def c_SameOneWay : Con := pure' fun
  | [.p (.int .i64 n), .p (.int .i64 m), .p (.sl 2 l_)] => if isAs l_ = true ∧ ((ofAs l_).length ≤ 1100000) then some (.tp [.p (.bool (okA n m (ofAs l_) && sameA n m (ofAs l_))), .p (.bool (okA n m (ofAs l_)))], []) else none
  | _ => none
theorem s_SameOneWay {P : Program} (hm : P.follows .mixedOrders = true) {Γ : Gam} (hΓ : GS P Γ) {n : FuncId} {f_OneWayAll : FuncId} {f_AnswerAll : FuncId} (is : Is P n (a_SameOneWay f_OneWayAll f_AnswerAll)) (h_OneWayAll : Γ f_OneWayAll = c_OneWayAll) (h_AnswerAll : Γ f_AnswerAll = c_AnswerAll)  : Says P n c_SameOneWay := by
  refine Says.pure fun args r fs h => ?_
  split at h
  case h_2 => cases h
  rename_i n m l_
  split at h
  case isFalse => cases h
  rename_i hc
  obtain ⟨hl_, hc⟩ := hc
  obtain ⟨l, rfl⟩ := isAs_out hl_
  simp only [ofI_ints, ofBo_bools, ofAs_asks, Option.some.injEq, Prod.mk.injEq] at h hc
  obtain ⟨rfl, rfl⟩ := h
  cases hok0 : okA n m l with
  | false =>
    refine is.go hm hΓ k_SameOneWay o_SameOneWay (by simp [a_SameOneWay]) ?_
    simp only [a_SameOneWay, h_OneWayAll, c_OneWayAll, h_AnswerAll, c_AnswerAll, hc, hok0, Bool.false_eq_true, List.zipIdx_cons, List.zipIdx_nil, ↓SP, SQ, Gam.add, stepM, callC, argC, lendO, nmBy, nmC, likeL, likeB, plainOb, offs, X, F, trP, trO, stepD, stepW, newA, SV.tr, SV.trL, fz, allP, Ob.tr, loadA, cellsA, SV.cells, binA, binI, eqOut, isSl, isPt, natOf, callee, snap, SV.refsL, SV.refs, thaw, fzAll, loA, hiA, elemOf, partsA, buildA, putCells, ↓reduceIte, reduceCtorEq, okCell, Nat.reduceAdd, Nat.reduceEqDiff, Nat.reduceSub, Nat.reduceMul, Nat.reduceLeDiff, Nat.reduceLT, Nat.reduceBEq, PV.scal, PV.scalL, SV.scal, SV.scalL, Ob.scal, PV.isCell, pure', resO]
    exact finA_val (by simp [retA, rvA, List.mapM_cons, List.mapM_nil, Option.pure_def, Option.bind_eq_bind, Option.bind_some, Option.map_some, mkE_cons, mk_nil, mkO_cons, mkO_nil, loadA, ↓reduceIte, List.take_succ_cons, List.take_zero, List.drop_zero, List.drop_succ_cons, List.length_cons, List.length_nil, Nat.reduceAdd, Nat.reduceEqDiff, Nat.reduceLeDiff, Nat.zero_add, Nat.le_refl, reduceCtorEq, SV.tr, SV.trL, nmF, rn_nil, rn_cons1, rn_cons2, List.map_cons, List.map_nil, List.all_cons, List.all_nil, plainOb, SV.refsL, SV.refs, Ob.refs, X, F, List.range_succ, List.range_zero, List.nil_append, List.cons_append, List.isEmpty_nil, decide_true, Nat.reduceLT, Bool.and_self, Bool.and_true, and_self, and_true, List.getElem?_cons_zero, List.getElem?_cons_succ, List.nodup_cons, List.nodup_nil, List.mem_cons, List.not_mem_nil, not_false_eq_true, or_false, List.append_nil, mkO, setO_mk, List.mem_singleton]) (by simp [SV.tr, SV.trL])
  | true =>
    have hA2 := hok0
    simp only [okA, areA, Bool.and_eq_true, decide_eq_true_eq] at hA2
    have hk1 := allL_ok (st := st1 m) (m := m) st1_len st1_small (small_rep m n.toNat) l
    have hk2 := allL_ok (st := st2 m) (m := m) st2_len st2_small (small_rep m n.toNat) l
    simp only [List.length_replicate] at hk1 hk2
    refine is.go hm hΓ k_SameOneWay o_SameOneWay (by simp [a_SameOneWay]) ?_
    simp only [a_SameOneWay, h_OneWayAll, c_OneWayAll, h_AnswerAll, c_AnswerAll, hc, hok0, ints_len, List.zipIdx_cons, List.zipIdx_nil, ↓SP, SQ, Gam.add, stepM, callC, argC, lendO, nmBy, nmC, likeL, likeB, plainOb, offs, X, F, trP, trO, stepD, stepW, newA, SV.tr, SV.trL, fz, allP, Ob.tr, loadA, cellsA, SV.cells, binA, binI, eqOut, isSl, isPt, natOf, callee, snap, SV.refsL, SV.refs, thaw, fzAll, loA, hiA, elemOf, partsA, buildA, putCells, ↓reduceIte, reduceCtorEq, okCell, Nat.reduceAdd, Nat.reduceEqDiff, Nat.reduceSub, Nat.reduceMul, Nat.reduceLeDiff, Nat.reduceLT, Nat.reduceBEq, PV.scal, PV.scalL, SV.scal, SV.scalL, Ob.scal, PV.isCell, pure', resO]
    generalize ha : allL (st1 m) (List.replicate n.toNat 0) l = a at *
    generalize hb : allL (st2 m) (List.replicate n.toNat 0) l = b at *
    obtain ⟨hk1, -⟩ := hk1
    obtain ⟨hk2, -⟩ := hk2
    refine loop_at (fun s : Nat × SV × SV × SV × SV => mkEnv [(0, si n), (1, si m), (2, .p (.sl 2 (asks l))), (6, sb false), (7, sb false), (8, .bx 8 0), (9, sb true), (10, .bx 10 0), (12, s.2.1), (13, s.2.2.1), (29, sb false), (31, .p (.sl 1 (ints a))), (32, si a.length), (33, si s.1), (34, s.2.2.2.1), (44, s.2.2.2.2)]) (fun s => mkO [(8, some (.box [.p (.sl 1 (ints a)), si m])), (10, some (.box [.p (.sl 1 (ints b)), si m]))]) (fun s => s.1 ≤ a.length ∧ ∀ j, j < s.1 → a.getD j 0 = b.getD j 0) (fun s => a.length - s.1) (0, .junk, .junk, .junk, .junk) (by simp) rfl rfl ?_
    rintro ⟨i, c1, c2, c3, c4⟩ ⟨hi, hp⟩ R hR hN
    simp only at hi hp
    by_cases h : i < a.length
    · have h1 : (i : Int) < a.length := by omega
      have hw := wrap_one (i := i) (by omega)
      have hg := ints_get h
      have hg2 := ints_get (l := b) (i := i) (by omega)
      by_cases he : a.getD i 0 = b.getD i 0
      · have he' : (b.getD i 0 != a.getD i 0) = false := by rw [he]; exact bne_self_eq_false _
        simp only [h1, hw, hg, hg2, he', ↓SP, SQ, Gam.add, stepM, callC, argC, lendO, nmBy, nmC, likeL, likeB, plainOb, offs, X, F, trP, trO, stepD, stepW, newA, SV.tr, SV.trL, fz, allP, Ob.tr, loadA, cellsA, SV.cells, binA, binI, eqOut, isSl, isPt, natOf, callee, snap, SV.refsL, SV.refs, thaw, fzAll, loA, hiA, elemOf, partsA, buildA, putCells, ↓reduceIte, reduceCtorEq, okCell, Nat.reduceAdd, Nat.reduceEqDiff, Nat.reduceSub, Nat.reduceMul, Nat.reduceLeDiff, Nat.reduceLT, Nat.reduceBEq, PV.scal, PV.scalL, SV.scal, SV.scalL, Ob.scal, PV.isCell, pure', resO]
        refine hN (i + 1, _, _, _, _) _ _ ⟨by simp only; omega, fun j hj => ?_⟩ (by simp only; omega) rfl rfl
        simp only at hj
        by_cases hji : j = i
        · rw [hji]; exact he
        · exact hp j (by omega)
      · have he' : (b.getD i 0 != a.getD i 0) = true := bne_iff_ne.2 (fun e => he e.symm)
        have hs : sameA n m l = false := by
          simp only [sameA, ha, hb, decide_eq_false_iff_not]
          exact fun e => he (by rw [e])
        simp only [h1, hw, hg, hg2, he', hs, ↓SP, SQ, Gam.add, stepM, callC, argC, lendO, nmBy, nmC, likeL, likeB, plainOb, offs, X, F, trP, trO, stepD, stepW, newA, SV.tr, SV.trL, fz, allP, Ob.tr, loadA, cellsA, SV.cells, binA, binI, eqOut, isSl, isPt, natOf, callee, snap, SV.refsL, SV.refs, thaw, fzAll, loA, hiA, elemOf, partsA, buildA, putCells, ↓reduceIte, reduceCtorEq, okCell, Nat.reduceAdd, Nat.reduceEqDiff, Nat.reduceSub, Nat.reduceMul, Nat.reduceLeDiff, Nat.reduceLT, Nat.reduceBEq, PV.scal, PV.scalL, SV.scal, SV.scalL, Ob.scal, PV.isCell, pure', resO]
        refine hR _ _ _ (by intro h; cases h) ?_
        simp only [hs, ↓SP, SQ, Gam.add, stepM, callC, argC, lendO, nmBy, nmC, likeL, likeB, plainOb, offs, X, F, trP, trO, stepD, stepW, newA, SV.tr, SV.trL, fz, allP, Ob.tr, loadA, cellsA, SV.cells, binA, binI, eqOut, isSl, isPt, natOf, callee, snap, SV.refsL, SV.refs, thaw, fzAll, loA, hiA, elemOf, partsA, buildA, putCells, ↓reduceIte, reduceCtorEq, okCell, Nat.reduceAdd, Nat.reduceEqDiff, Nat.reduceSub, Nat.reduceMul, Nat.reduceLeDiff, Nat.reduceLT, Nat.reduceBEq, PV.scal, PV.scalL, SV.scal, SV.scalL, Ob.scal, PV.isCell, pure', resO]
        exact finA_val (by simp [retA, rvA, List.mapM_cons, List.mapM_nil, Option.pure_def, Option.bind_eq_bind, Option.bind_some, Option.map_some, mkE_cons, mk_nil, mkO_cons, mkO_nil, loadA, ↓reduceIte, List.take_succ_cons, List.take_zero, List.drop_zero, List.drop_succ_cons, List.length_cons, List.length_nil, Nat.reduceAdd, Nat.reduceEqDiff, Nat.reduceLeDiff, Nat.zero_add, Nat.le_refl, reduceCtorEq, SV.tr, SV.trL, nmF, rn_nil, rn_cons1, rn_cons2, List.map_cons, List.map_nil, List.all_cons, List.all_nil, plainOb, SV.refsL, SV.refs, Ob.refs, X, F, List.range_succ, List.range_zero, List.nil_append, List.cons_append, List.isEmpty_nil, decide_true, Nat.reduceLT, Bool.and_self, Bool.and_true, and_self, and_true, List.getElem?_cons_zero, List.getElem?_cons_succ, List.nodup_cons, List.nodup_nil, List.mem_cons, List.not_mem_nil, not_false_eq_true, or_false, List.append_nil, mkO, setO_mk, List.mem_singleton]) (by simp [SV.tr, SV.trL])
    · have he : i = a.length := by omega
      have h1 : ¬ (i : Int) < a.length := by omega
      have hab : a = b := eq_upto 0 (by omega) hi hp he
      have hs : sameA n m l = true := by simp only [sameA, ha, hb, hab, decide_true]
      simp only [h1, ↓SP, SQ, Gam.add, stepM, callC, argC, lendO, nmBy, nmC, likeL, likeB, plainOb, offs, X, F, trP, trO, stepD, stepW, newA, SV.tr, SV.trL, fz, allP, Ob.tr, loadA, cellsA, SV.cells, binA, binI, eqOut, isSl, isPt, natOf, callee, snap, SV.refsL, SV.refs, thaw, fzAll, loA, hiA, elemOf, partsA, buildA, putCells, ↓reduceIte, reduceCtorEq, okCell, Nat.reduceAdd, Nat.reduceEqDiff, Nat.reduceSub, Nat.reduceMul, Nat.reduceLeDiff, Nat.reduceLT, Nat.reduceBEq, PV.scal, PV.scalL, SV.scal, SV.scalL, Ob.scal, PV.isCell, pure', resO]
      refine hR _ _ _ (by intro h; cases h) ?_
      simp only [hs, ↓SP, SQ, Gam.add, stepM, callC, argC, lendO, nmBy, nmC, likeL, likeB, plainOb, offs, X, F, trP, trO, stepD, stepW, newA, SV.tr, SV.trL, fz, allP, Ob.tr, loadA, cellsA, SV.cells, binA, binI, eqOut, isSl, isPt, natOf, callee, snap, SV.refsL, SV.refs, thaw, fzAll, loA, hiA, elemOf, partsA, buildA, putCells, ↓reduceIte, reduceCtorEq, okCell, Nat.reduceAdd, Nat.reduceEqDiff, Nat.reduceSub, Nat.reduceMul, Nat.reduceLeDiff, Nat.reduceLT, Nat.reduceBEq, PV.scal, PV.scalL, SV.scal, SV.scalL, Ob.scal, PV.isCell, pure', resO]
      exact finA_val (by simp [retA, rvA, List.mapM_cons, List.mapM_nil, Option.pure_def, Option.bind_eq_bind, Option.bind_some, Option.map_some, mkE_cons, mk_nil, mkO_cons, mkO_nil, loadA, ↓reduceIte, List.take_succ_cons, List.take_zero, List.drop_zero, List.drop_succ_cons, List.length_cons, List.length_nil, Nat.reduceAdd, Nat.reduceEqDiff, Nat.reduceLeDiff, Nat.zero_add, Nat.le_refl, reduceCtorEq, SV.tr, SV.trL, nmF, rn_nil, rn_cons1, rn_cons2, List.map_cons, List.map_nil, List.all_cons, List.all_nil, plainOb, SV.refsL, SV.refs, Ob.refs, X, F, List.range_succ, List.range_zero, List.nil_append, List.cons_append, List.isEmpty_nil, decide_true, Nat.reduceLT, Bool.and_self, Bool.and_true, and_self, and_true, List.getElem?_cons_zero, List.getElem?_cons_succ, List.nodup_cons, List.nodup_nil, List.mem_cons, List.not_mem_nil, not_false_eq_true, or_false, List.append_nil, mkO, setO_mk, List.mem_singleton]) (by simp [SV.tr, SV.trL])
def a_x_OneWayAll (f_szAskedS : FuncId) (f_toAskedS : FuncId) (f_s_OneWayAll : FuncId) (f_OneWayAll : FuncId) (f_eqState : FuncId) (f_eqAskedS : FuncId) (f_markAskedS : FuncId) (f_markState : FuncId) (f_heldState : FuncId) : AFn := ⟨3, 
  .seq (.reg [⟨some 6, none, .d (.mv (.c (.bool false)))⟩])
  (.seq (.reg [⟨some 7, none, .d (.mv (.c (.int .i64 1048576)))⟩])
  (.seq (.reg [⟨some 18, none, .d (.mv (.t 2))⟩,
    ⟨some 19, none, .d (.mv (.t 7))⟩,
    ⟨some 20, none, .d (.call (.f f_szAskedS) [(.t 18), (.t 19)])⟩,
    ⟨some 7, none, .d (.mv (.t 20))⟩])
  (.seq (.seq (.reg [⟨some 21, none, .d (.mv (.t 7))⟩,
    ⟨some 22, none, .d (.bin .arith .lss (.t 21) (.c (.int .i64 0)))⟩])
  (.cond (.t 22) (.seq (.reg [⟨some 6, none, .d (.mv (.c (.bool true)))⟩])
   (.ret)) (.skip)))
  (.seq (.reg [⟨some 24, none, .d (.mv (.t 0))⟩,
    ⟨some 25, none, .d (.mv (.t 1))⟩,
    ⟨some 26, none, .d (.mv (.t 2))⟩,
    ⟨some 27, none, .d (.call (.f f_toAskedS) [(.t 26)])⟩,
    ⟨some 28, none, .d (.call (.f f_s_OneWayAll) [(.t 24), (.t 25), (.t 27)])⟩,
    ⟨some 23, none, .d (.mv (.t 28))⟩,
    ⟨some 29, none, .d (.extract (.t 23) 0)⟩,
    ⟨some 30, none, .d (.extract (.t 23) 1)⟩,
    ⟨some 8, none, .w (.alloc [.nilsl, .int .i64 0])⟩,
    ⟨none, none, .w (.store 2 (.t 8) (.t 29))⟩,
    ⟨some 9, none, .d (.mv (.t 30))⟩])
  (.seq (.reg [⟨some 31, none, .d (.mv (.t 2))⟩,
    ⟨some 32, none, .w (.callL (.f f_toAskedS) [(.t 31)] [] 1 false)⟩,
    ⟨some 10, none, .d (.mv (.t 32))⟩])
  (.seq (.reg [⟨some 34, none, .d (.mv (.t 0))⟩,
    ⟨some 35, none, .d (.mv (.t 1))⟩,
    ⟨some 36, none, .d (.mv (.t 10))⟩,
    ⟨some 37, none, .w (.callL (.f f_OneWayAll) [(.t 34), (.t 35), (.t 36)] [] 1 false)⟩,
    ⟨some 33, none, .d (.mv (.t 37))⟩,
    ⟨some 38, none, .d (.extract (.t 33) 0)⟩,
    ⟨some 39, none, .d (.extract (.t 33) 1)⟩,
    ⟨some 11, none, .w (.alloc [.nilsl, .int .i64 0])⟩,
    ⟨none, none, .w (.store 2 (.t 11) (.t 38))⟩,
    ⟨some 12, none, .d (.mv (.t 39))⟩])
  (.seq (.seq (.reg [⟨some 40, none, .d (.load true 2 (.t 11))⟩,
    ⟨some 41, none, .d (.load true 2 (.t 8))⟩,
    ⟨some 42, none, .d (.call (.f f_eqState) [(.t 40), (.t 41)])⟩,
    ⟨some 43, none, .d (.not (.t 42))⟩,
    ⟨some 44, none, .d (.mv (.t 43))⟩,
    ⟨some 45, some (44, false), .d (.mv (.t 12))⟩,
    ⟨some 46, some (44, false), .d (.mv (.t 9))⟩,
    ⟨some 47, some (44, false), .d (.bin .bool .neq (.t 45) (.t 46))⟩,
    ⟨some 48, none, .d (.pick (.t 44) (.c (.bool true)) (.t 47))⟩])
  (.cond (.t 48) (.seq (.reg [⟨some 6, none, .d (.mv (.c (.bool false)))⟩])
   (.ret)) (.skip)))
  (.seq (.seq (.reg [⟨some 49, none, .d (.mv (.t 10))⟩,
    ⟨some 50, none, .d (.mv (.t 2))⟩,
    ⟨some 51, none, .d (.call (.f f_toAskedS) [(.t 50)])⟩,
    ⟨some 52, none, .d (.call (.f f_eqAskedS) [(.t 49), (.t 51)])⟩,
    ⟨some 53, none, .d (.not (.t 52))⟩])
  (.cond (.t 53) (.seq (.reg [⟨some 6, none, .d (.mv (.c (.bool false)))⟩])
   (.ret)) (.skip)))
  (.seq (.reg [⟨some 13, none, .d (.mv (.c (.int .i64 1)))⟩])
  (.seq (.reg [⟨some 54, none, .d (.mv (.t 10))⟩,
    ⟨some 55, none, .d (.mv (.t 13))⟩,
    ⟨some 56, none, .w (.callL (.f f_markAskedS) [(.t 54), (.t 55)] [32] 0 false)⟩,
    ⟨some 13, none, .d (.mv (.t 56))⟩])
  (.seq (.seq (.reg [⟨some 57, none, .d (.mv (.t 13))⟩,
    ⟨some 58, none, .d (.bin .arith .lss (.t 57) (.c (.int .i64 0)))⟩,
    ⟨some 59, none, .d (.mv (.t 58))⟩,
    ⟨some 60, some (59, false), .d (.load true 2 (.t 11))⟩,
    ⟨some 61, some (59, false), .d (.load true 2 (.t 8))⟩,
    ⟨some 62, some (59, false), .d (.call (.f f_eqState) [(.t 60), (.t 61)])⟩,
    ⟨some 63, some (59, false), .d (.not (.t 62))⟩,
    ⟨some 64, none, .d (.pick (.t 59) (.c (.bool true)) (.t 63))⟩,
    ⟨some 65, none, .d (.mv (.t 64))⟩,
    ⟨some 66, some (65, false), .d (.mv (.t 12))⟩,
    ⟨some 67, some (65, false), .d (.mv (.t 9))⟩,
    ⟨some 68, some (65, false), .d (.bin .bool .neq (.t 66) (.t 67))⟩,
    ⟨some 69, none, .d (.pick (.t 65) (.c (.bool true)) (.t 68))⟩])
  (.cond (.t 69) (.seq (.reg [⟨some 6, none, .d (.mv (.c (.bool false)))⟩])
   (.ret)) (.skip)))
  (.seq (.reg [⟨some 14, none, .d (.mv (.c (.int .i64 1)))⟩])
  (.seq (.reg [⟨some 70, none, .d (.load true 2 (.t 11))⟩,
    ⟨some 71, none, .d (.mv (.t 14))⟩,
    ⟨some 72, none, .w (.callL (.f f_markState) [(.t 70), (.t 71)] [37] 0 false)⟩,
    ⟨some 14, none, .d (.mv (.t 72))⟩])
  (.seq (.reg [⟨some 15, none, .d (.mv (.c (.int .i64 1)))⟩])
  (.seq (.reg [⟨some 73, none, .d (.load true 2 (.t 11))⟩,
    ⟨some 74, none, .d (.mv (.t 15))⟩,
    ⟨some 75, none, .d (.call (.f f_heldState) [(.t 73), (.t 74)])⟩,
    ⟨some 15, none, .d (.mv (.t 75))⟩])
  (.seq (.seq (.reg [⟨some 76, none, .d (.mv (.t 15))⟩,
    ⟨some 77, none, .d (.bin .arith .lss (.t 76) (.c (.int .i64 0)))⟩])
  (.cond (.t 77) (.seq (.reg [⟨some 6, none, .d (.mv (.c (.bool false)))⟩])
   (.ret)) (.skip)))
  (.seq (.seq (.reg [⟨some 78, none, .d (.mv (.t 15))⟩,
    ⟨some 79, none, .d (.mv (.t 14))⟩,
    ⟨some 80, none, .d (.bin .arith .neq (.t 78) (.t 79))⟩])
  (.cond (.t 80) (.seq (.reg [⟨some 6, none, .d (.mv (.c (.bool false)))⟩])
   (.ret)) (.skip)))
  (.seq (.reg [⟨some 82, none, .d (.mv (.t 0))⟩,
    ⟨some 83, none, .d (.mv (.t 1))⟩,
    ⟨some 84, none, .d (.mv (.t 2))⟩,
    ⟨some 85, none, .d (.call (.f f_toAskedS) [(.t 84)])⟩,
    ⟨some 86, none, .d (.call (.f f_OneWayAll) [(.t 82), (.t 83), (.t 85)])⟩,
    ⟨some 81, none, .d (.mv (.t 86))⟩,
    ⟨some 87, none, .d (.extract (.t 81) 0)⟩,
    ⟨some 88, none, .d (.extract (.t 81) 1)⟩,
    ⟨some 16, none, .w (.alloc [.nilsl, .int .i64 0])⟩,
    ⟨none, none, .w (.store 2 (.t 16) (.t 87))⟩,
    ⟨some 17, none, .d (.mv (.t 88))⟩])
  (.seq (.seq (.reg [⟨some 89, none, .d (.load true 2 (.t 16))⟩,
    ⟨some 90, none, .d (.load true 2 (.t 8))⟩,
    ⟨some 91, none, .d (.call (.f f_eqState) [(.t 89), (.t 90)])⟩,
    ⟨some 92, none, .d (.not (.t 91))⟩,
    ⟨some 93, none, .d (.mv (.t 92))⟩,
    ⟨some 94, some (93, false), .d (.mv (.t 17))⟩,
    ⟨some 95, some (93, false), .d (.mv (.t 9))⟩,
    ⟨some 96, some (93, false), .d (.bin .bool .neq (.t 94) (.t 95))⟩,
    ⟨some 97, none, .d (.pick (.t 93) (.c (.bool true)) (.t 96))⟩])
  (.cond (.t 97) (.seq (.reg [⟨some 6, none, .d (.mv (.c (.bool false)))⟩])
   (.ret)) (.skip)))
  (.seq (.reg [⟨some 15, none, .d (.mv (.c (.int .i64 1)))⟩])
  (.seq (.reg [⟨some 98, none, .d (.load true 2 (.t 11))⟩,
    ⟨some 99, none, .d (.mv (.t 15))⟩,
    ⟨some 100, none, .d (.call (.f f_heldState) [(.t 98), (.t 99)])⟩,
    ⟨some 15, none, .d (.mv (.t 100))⟩])
  (.seq (.seq (.reg [⟨some 101, none, .d (.mv (.t 15))⟩,
    ⟨some 102, none, .d (.bin .arith .lss (.t 101) (.c (.int .i64 0)))⟩])
  (.cond (.t 102) (.seq (.reg [⟨some 6, none, .d (.mv (.c (.bool false)))⟩])
   (.ret)) (.skip)))
  (.seq (.seq (.reg [⟨some 103, none, .d (.mv (.t 15))⟩,
    ⟨some 104, none, .d (.mv (.t 14))⟩,
    ⟨some 105, none, .d (.bin .arith .neq (.t 103) (.t 104))⟩])
  (.cond (.t 105) (.seq (.reg [⟨some 6, none, .d (.mv (.c (.bool false)))⟩])
   (.ret)) (.skip)))
  (.seq (.reg [⟨some 6, none, .d (.mv (.c (.bool true)))⟩])
  (.ret))))))))))))))))))))))))), [.tmp 6]⟩
def n_x_OneWayAll : Nat → Option Ann := fun d => if d = 32 then some ⟨[], 1, false⟩ else if d = 37 then some ⟨[], 1, false⟩ else if d = 56 then some ⟨[32], 0, false⟩ else if d = 72 then some ⟨[37], 0, false⟩ else none
abbrev k_x_OneWayAll : List Nat := [0, 1, 2, 6, 7, 8, 9, 10, 11, 12, 13, 14, 15, 16, 17, 22, 48, 53, 69, 77, 80, 97, 102, 105]
abbrev o_x_OneWayAll : List Nat := [8, 11, 16, 32, 37]
def c_x_OneWayAll : Con := pure' fun
  | [.p (.int .i64 n), .p (.int .i64 m), .p v] => match slA v with
    | some l => if l.length ≤ 9223372036854775807 then some (.p (.bool true), []) else none
    | none => none
  | _ => none
theorem slA_lenP {v : PV} {l : List (Int × Bool)} (h : slA v = some l) : lenP v = some l.length := by
  rcases slA_out h with rfl | ⟨rfl, rfl⟩ <;> simp [lenP, asks_len]
theorem marksA_len (k : Int) (n : Nat) : (marksA k n).length = n := by simp [marksA]
set_option maxRecDepth 100000 in
theorem s_x_OneWayAll {P : Program} (hm : P.follows .mixedOrders = true) {Γ : Gam} (hΓ : GS P Γ) {n : FuncId} {f_szAskedS : FuncId} {f_toAskedS : FuncId} {f_s_OneWayAll : FuncId} {f_OneWayAll : FuncId} {f_eqState : FuncId} {f_eqAskedS : FuncId} {f_markAskedS : FuncId} {f_markState : FuncId} {f_heldState : FuncId} (is : Is P n (a_x_OneWayAll f_szAskedS f_toAskedS f_s_OneWayAll f_OneWayAll f_eqState f_eqAskedS f_markAskedS f_markState f_heldState)) (h_szAskedS : Γ f_szAskedS = c_szAskedS) (h_toAskedS : Γ f_toAskedS = c_toAskedS) (h_s_OneWayAll : Γ f_s_OneWayAll = c_s_OneWayAll) (h_OneWayAll : Γ f_OneWayAll = c_OneWayAll) (h_eqState : Γ f_eqState = c_eqState) (h_eqAskedS : Γ f_eqAskedS = c_eqAskedS) (h_markAskedS : Γ f_markAskedS = c_markAskedS) (h_markState : Γ f_markState = c_markState) (h_heldState : Γ f_heldState = c_heldState)  : Says P n c_x_OneWayAll := by
  refine Says.pure fun args r fs h => ?_
  split at h
  case h_2 => cases h
  rename_i n m v
  split at h
  case h_2 => cases h
  rename_i l hl
  split at h
  case isFalse => cases h
  rename_i hc
  simp only [Option.some.injEq, Prod.mk.injEq] at h
  obtain ⟨rfl, rfl⟩ := h
  have hlp := slA_lenP hl
  by_cases hk : (1048576 : Int) - (l.length : Int) < 0
  · refine is.go hm hΓ k_x_OneWayAll o_x_OneWayAll (by simp [a_x_OneWayAll]) ?_
    simp only [a_x_OneWayAll, h_szAskedS, c_szAskedS, h_toAskedS, c_toAskedS, h_s_OneWayAll, c_s_OneWayAll, h_OneWayAll, c_OneWayAll, h_eqState, c_eqState, h_eqAskedS, c_eqAskedS, h_markAskedS, c_markAskedS, h_markState, c_markState, h_heldState, c_heldState, hlp, hc, hk, Int.reduceLE, Int.reduceNeg, Int.reduceLT, List.zipIdx_cons, List.zipIdx_nil, ↓SP, SQ, Gam.add, stepM, callC, argC, lendO, nmBy, nmC, likeL, likeB, plainOb, offs, X, F, trP, trO, stepD, stepW, newA, SV.tr, SV.trL, fz, allP, Ob.tr, loadA, cellsA, SV.cells, binA, binI, eqOut, isSl, isPt, natOf, callee, snap, SV.refsL, SV.refs, thaw, fzAll, loA, hiA, elemOf, partsA, buildA, putCells, ↓reduceIte, reduceCtorEq, okCell, Nat.reduceAdd, Nat.reduceEqDiff, Nat.reduceSub, Nat.reduceMul, Nat.reduceLeDiff, Nat.reduceLT, Nat.reduceBEq, PV.scal, PV.scalL, SV.scal, SV.scalL, Ob.scal, PV.isCell, pure', resO]
    exact finA_val (by simp [retA, rvA, List.mapM_cons, List.mapM_nil, Option.pure_def, Option.bind_eq_bind, Option.bind_some, Option.map_some, mkE_cons, mk_nil, mkO_cons, mkO_nil, loadA, ↓reduceIte, List.take_succ_cons, List.take_zero, List.drop_zero, List.drop_succ_cons, List.length_cons, List.length_nil, Nat.reduceAdd, Nat.reduceEqDiff, Nat.reduceLeDiff, Nat.zero_add, Nat.le_refl, reduceCtorEq, SV.tr, SV.trL, nmF, rn_nil, rn_cons1, rn_cons2, List.map_cons, List.map_nil, List.all_cons, List.all_nil, plainOb, SV.refsL, SV.refs, Ob.refs, X, F, List.range_succ, List.range_zero, List.nil_append, List.cons_append, List.isEmpty_nil, decide_true, Nat.reduceLT, Bool.and_self, Bool.and_true, and_self, and_true, List.getElem?_cons_zero, List.getElem?_cons_succ, List.nodup_cons, List.nodup_nil, List.mem_cons, List.not_mem_nil, not_false_eq_true, or_false, List.append_nil, mkO, setO_mk, List.mem_singleton]) (by simp [SV.tr, SV.trL])
  · have hlen : l.length ≤ 1048576 := by omega
    have hlen2 : l.length ≤ 1100000 := by omega
    have h0 : ¬ (1 : Int) + 2 * (l.length : Int) < 0 := by omega
    cases hok : okA n m l with
    | true =>
      have hA2 := hok
      simp only [okA, areA, Bool.and_eq_true, decide_eq_true_eq] at hA2
      have hk1 := (allL_ok (st := st1 m) (m := m) st1_len st1_small (small_rep m n.toNat) l).1
      simp only [List.length_replicate] at hk1
      generalize hga : allL (st1 m) (List.replicate n.toNat 0) l = a at *
      have hal : a.length ≤ 1100000 := by omega
      have hal0 : (a.length : Int) ≤ 1100000 := by omega
      have hml := marks_len 1 a.length
      have hhm := held_marks 1 a.length
      have h0' : ¬ (1 : Int) + (a.length : Int) < 0 := by omega
      have hne : ((1 : Int) + (a.length : Int) != 1 + (a.length : Int)) = false := bne_self_eq_false _
      refine is.go hm hΓ k_x_OneWayAll o_x_OneWayAll (by simp [a_x_OneWayAll]) ?_
      simp only [a_x_OneWayAll, h_szAskedS, c_szAskedS, h_toAskedS, c_toAskedS, h_s_OneWayAll, c_s_OneWayAll, h_OneWayAll, c_OneWayAll, h_eqState, c_eqState, h_eqAskedS, c_eqAskedS, h_markAskedS, c_markAskedS, h_markState, c_markState, h_heldState, c_heldState, hl, hlp, hc, hk, hlen, hlen2, hok, hga, hal, marksA_len, beq_self_eq_true, hml, hhm, h0, h0', hne, Int.reduceLE, Int.reduceNeg, Int.reduceLT, bne_self_eq_false, List.zipIdx_cons, List.zipIdx_nil, ↓SP, SQ, Gam.add, stepM, callC, argC, lendO, nmBy, nmC, likeL, likeB, plainOb, offs, X, F, trP, trO, stepD, stepW, newA, SV.tr, SV.trL, fz, allP, Ob.tr, loadA, cellsA, SV.cells, binA, binI, eqOut, isSl, isPt, natOf, callee, snap, SV.refsL, SV.refs, thaw, fzAll, loA, hiA, elemOf, partsA, buildA, putCells, ↓reduceIte, reduceCtorEq, okCell, Nat.reduceAdd, Nat.reduceEqDiff, Nat.reduceSub, Nat.reduceMul, Nat.reduceLeDiff, Nat.reduceLT, Nat.reduceBEq, PV.scal, PV.scalL, SV.scal, SV.scalL, Ob.scal, PV.isCell, pure', resO]
      exact finA_val (by simp [retA, rvA, List.mapM_cons, List.mapM_nil, Option.pure_def, Option.bind_eq_bind, Option.bind_some, Option.map_some, mkE_cons, mk_nil, mkO_cons, mkO_nil, loadA, ↓reduceIte, List.take_succ_cons, List.take_zero, List.drop_zero, List.drop_succ_cons, List.length_cons, List.length_nil, Nat.reduceAdd, Nat.reduceEqDiff, Nat.reduceLeDiff, Nat.zero_add, Nat.le_refl, reduceCtorEq, SV.tr, SV.trL, nmF, rn_nil, rn_cons1, rn_cons2, List.map_cons, List.map_nil, List.all_cons, List.all_nil, plainOb, SV.refsL, SV.refs, Ob.refs, X, F, List.range_succ, List.range_zero, List.nil_append, List.cons_append, List.isEmpty_nil, decide_true, Nat.reduceLT, Bool.and_self, Bool.and_true, and_self, and_true, List.getElem?_cons_zero, List.getElem?_cons_succ, List.nodup_cons, List.nodup_nil, List.mem_cons, List.not_mem_nil, not_false_eq_true, or_false, List.append_nil, mkO, setO_mk, List.mem_singleton]) (by simp [SV.tr, SV.trL])
    | false =>
      have hml := marks_len 1 l.length
      have hh0 : held [] 1 := fun j hj => by simp at hj
      refine is.go hm hΓ k_x_OneWayAll o_x_OneWayAll (by simp [a_x_OneWayAll]) ?_
      simp only [a_x_OneWayAll, h_szAskedS, c_szAskedS, h_toAskedS, c_toAskedS, h_s_OneWayAll, c_s_OneWayAll, h_OneWayAll, c_OneWayAll, h_eqState, c_eqState, h_eqAskedS, c_eqAskedS, h_markAskedS, c_markAskedS, h_markState, c_markState, h_heldState, c_heldState, hl, hlp, hc, hk, hlen, hlen2, hok, marksA_len, beq_self_eq_true, hml, h0, hh0, Int.reduceLE, Int.reduceNeg, Int.reduceLT, bne_self_eq_false, List.zipIdx_cons, List.zipIdx_nil, ↓SP, SQ, Gam.add, stepM, callC, argC, lendO, nmBy, nmC, likeL, likeB, plainOb, offs, X, F, trP, trO, stepD, stepW, newA, SV.tr, SV.trL, fz, allP, Ob.tr, loadA, cellsA, SV.cells, binA, binI, eqOut, isSl, isPt, natOf, callee, snap, SV.refsL, SV.refs, thaw, fzAll, loA, hiA, elemOf, partsA, buildA, putCells, ↓reduceIte, reduceCtorEq, okCell, Nat.reduceAdd, Nat.reduceEqDiff, Nat.reduceSub, Nat.reduceMul, Nat.reduceLeDiff, Nat.reduceLT, Nat.reduceBEq, PV.scal, PV.scalL, SV.scal, SV.scalL, Ob.scal, PV.isCell, pure', resO]
      exact finA_val (by simp [retA, rvA, List.mapM_cons, List.mapM_nil, Option.pure_def, Option.bind_eq_bind, Option.bind_some, Option.map_some, mkE_cons, mk_nil, mkO_cons, mkO_nil, loadA, ↓reduceIte, List.take_succ_cons, List.take_zero, List.drop_zero, List.drop_succ_cons, List.length_cons, List.length_nil, Nat.reduceAdd, Nat.reduceEqDiff, Nat.reduceLeDiff, Nat.zero_add, Nat.le_refl, reduceCtorEq, SV.tr, SV.trL, nmF, rn_nil, rn_cons1, rn_cons2, List.map_cons, List.map_nil, List.all_cons, List.all_nil, plainOb, SV.refsL, SV.refs, Ob.refs, X, F, List.range_succ, List.range_zero, List.nil_append, List.cons_append, List.isEmpty_nil, decide_true, Nat.reduceLT, Bool.and_self, Bool.and_true, and_self, and_true, List.getElem?_cons_zero, List.getElem?_cons_succ, List.nodup_cons, List.nodup_nil, List.mem_cons, List.not_mem_nil, not_false_eq_true, or_false, List.append_nil, mkO, setO_mk, List.mem_singleton]) (by simp [SV.tr, SV.trL])
def a_x_SameOneWay (f_szAskedS : FuncId) (f_toAskedS : FuncId) (f_s_SameOneWay : FuncId) (f_SameOneWay : FuncId) (f_eqAskedS : FuncId) : AFn := ⟨3, 
  .seq (.reg [⟨some 6, none, .d (.mv (.c (.bool false)))⟩])
  (.seq (.reg [⟨some 7, none, .d (.mv (.c (.int .i64 1048576)))⟩])
  (.seq (.reg [⟨some 13, none, .d (.mv (.t 2))⟩,
    ⟨some 14, none, .d (.mv (.t 7))⟩,
    ⟨some 15, none, .d (.call (.f f_szAskedS) [(.t 13), (.t 14)])⟩,
    ⟨some 7, none, .d (.mv (.t 15))⟩])
  (.seq (.seq (.reg [⟨some 16, none, .d (.mv (.t 7))⟩,
    ⟨some 17, none, .d (.bin .arith .lss (.t 16) (.c (.int .i64 0)))⟩])
  (.cond (.t 17) (.seq (.reg [⟨some 6, none, .d (.mv (.c (.bool true)))⟩])
   (.ret)) (.skip)))
  (.seq (.reg [⟨some 19, none, .d (.mv (.t 0))⟩,
    ⟨some 20, none, .d (.mv (.t 1))⟩,
    ⟨some 21, none, .d (.mv (.t 2))⟩,
    ⟨some 22, none, .d (.call (.f f_toAskedS) [(.t 21)])⟩,
    ⟨some 23, none, .d (.call (.f f_s_SameOneWay) [(.t 19), (.t 20), (.t 22)])⟩,
    ⟨some 18, none, .d (.mv (.t 23))⟩,
    ⟨some 24, none, .d (.extract (.t 18) 0)⟩,
    ⟨some 25, none, .d (.extract (.t 18) 1)⟩,
    ⟨some 8, none, .d (.mv (.t 24))⟩,
    ⟨some 9, none, .d (.mv (.t 25))⟩])
  (.seq (.reg [⟨some 26, none, .d (.mv (.t 2))⟩,
    ⟨some 27, none, .d (.call (.f f_toAskedS) [(.t 26)])⟩,
    ⟨some 10, none, .d (.mv (.t 27))⟩])
  (.seq (.reg [⟨some 29, none, .d (.mv (.t 0))⟩,
    ⟨some 30, none, .d (.mv (.t 1))⟩,
    ⟨some 31, none, .d (.mv (.t 10))⟩,
    ⟨some 32, none, .d (.call (.f f_SameOneWay) [(.t 29), (.t 30), (.t 31)])⟩,
    ⟨some 28, none, .d (.mv (.t 32))⟩,
    ⟨some 33, none, .d (.extract (.t 28) 0)⟩,
    ⟨some 34, none, .d (.extract (.t 28) 1)⟩,
    ⟨some 11, none, .d (.mv (.t 33))⟩,
    ⟨some 12, none, .d (.mv (.t 34))⟩])
  (.seq (.seq (.reg [⟨some 35, none, .d (.mv (.t 11))⟩,
    ⟨some 36, none, .d (.mv (.t 8))⟩,
    ⟨some 37, none, .d (.bin .bool .neq (.t 35) (.t 36))⟩,
    ⟨some 38, none, .d (.mv (.t 37))⟩,
    ⟨some 39, some (38, false), .d (.mv (.t 12))⟩,
    ⟨some 40, some (38, false), .d (.mv (.t 9))⟩,
    ⟨some 41, some (38, false), .d (.bin .bool .neq (.t 39) (.t 40))⟩,
    ⟨some 42, none, .d (.pick (.t 38) (.c (.bool true)) (.t 41))⟩])
  (.cond (.t 42) (.seq (.reg [⟨some 6, none, .d (.mv (.c (.bool false)))⟩])
   (.ret)) (.skip)))
  (.seq (.seq (.reg [⟨some 43, none, .d (.mv (.t 10))⟩,
    ⟨some 44, none, .d (.mv (.t 2))⟩,
    ⟨some 45, none, .d (.call (.f f_toAskedS) [(.t 44)])⟩,
    ⟨some 46, none, .d (.call (.f f_eqAskedS) [(.t 43), (.t 45)])⟩,
    ⟨some 47, none, .d (.not (.t 46))⟩])
  (.cond (.t 47) (.seq (.reg [⟨some 6, none, .d (.mv (.c (.bool false)))⟩])
   (.ret)) (.skip)))
  (.seq (.reg [⟨some 6, none, .d (.mv (.c (.bool true)))⟩])
  (.ret)))))))))), [.tmp 6]⟩
def n_x_SameOneWay : Nat → Option Ann := fun _ => none
abbrev k_x_SameOneWay : List Nat := [0, 1, 2, 6, 7, 8, 9, 10, 11, 12, 17, 42, 47]
abbrev o_x_SameOneWay : List Nat := []
def c_x_SameOneWay : Con := pure' fun
  | [.p (.int .i64 n), .p (.int .i64 m), .p v] => match slA v with
    | some l => if l.length ≤ 9223372036854775807 then some (.p (.bool true), []) else none
    | none => none
  | _ => none
set_option maxRecDepth 100000 in
theorem s_x_SameOneWay {P : Program} (hm : P.follows .mixedOrders = true) {Γ : Gam} (hΓ : GS P Γ) {n : FuncId} {f_szAskedS : FuncId} {f_toAskedS : FuncId} {f_s_SameOneWay : FuncId} {f_SameOneWay : FuncId} {f_eqAskedS : FuncId} (is : Is P n (a_x_SameOneWay f_szAskedS f_toAskedS f_s_SameOneWay f_SameOneWay f_eqAskedS)) (h_szAskedS : Γ f_szAskedS = c_szAskedS) (h_toAskedS : Γ f_toAskedS = c_toAskedS) (h_s_SameOneWay : Γ f_s_SameOneWay = c_s_SameOneWay) (h_SameOneWay : Γ f_SameOneWay = c_SameOneWay) (h_eqAskedS : Γ f_eqAskedS = c_eqAskedS)  : Says P n c_x_SameOneWay := by
  refine Says.pure fun args r fs h => ?_
  split at h
  case h_2 => cases h
  rename_i n m v
  split at h
  case h_2 => cases h
  rename_i l hl
  split at h
  case isFalse => cases h
  rename_i hc
  simp only [Option.some.injEq, Prod.mk.injEq] at h
  obtain ⟨rfl, rfl⟩ := h
  have hlp := slA_lenP hl
  by_cases hk : (1048576 : Int) - (l.length : Int) < 0
  · refine is.go hm hΓ k_x_SameOneWay o_x_SameOneWay (by simp [a_x_SameOneWay]) ?_
    simp only [a_x_SameOneWay, h_szAskedS, c_szAskedS, h_toAskedS, c_toAskedS, h_s_SameOneWay, c_s_SameOneWay, h_SameOneWay, c_SameOneWay, h_eqAskedS, c_eqAskedS, hlp, hc, hk, Int.reduceLE, Int.reduceNeg, Int.reduceLT, List.zipIdx_cons, List.zipIdx_nil, ↓SP, SQ, Gam.add, stepM, callC, argC, lendO, nmBy, nmC, likeL, likeB, plainOb, offs, X, F, trP, trO, stepD, stepW, newA, SV.tr, SV.trL, fz, allP, Ob.tr, loadA, cellsA, SV.cells, binA, binI, eqOut, isSl, isPt, natOf, callee, snap, SV.refsL, SV.refs, thaw, fzAll, loA, hiA, elemOf, partsA, buildA, putCells, ↓reduceIte, reduceCtorEq, okCell, Nat.reduceAdd, Nat.reduceEqDiff, Nat.reduceSub, Nat.reduceMul, Nat.reduceLeDiff, Nat.reduceLT, Nat.reduceBEq, PV.scal, PV.scalL, SV.scal, SV.scalL, Ob.scal, PV.isCell, pure', resO]
    exact finA_val (by simp [retA, rvA, List.mapM_cons, List.mapM_nil, Option.pure_def, Option.bind_eq_bind, Option.bind_some, Option.map_some, mkE_cons, mk_nil, mkO_cons, mkO_nil, loadA, ↓reduceIte, List.take_succ_cons, List.take_zero, List.drop_zero, List.drop_succ_cons, List.length_cons, List.length_nil, Nat.reduceAdd, Nat.reduceEqDiff, Nat.reduceLeDiff, Nat.zero_add, Nat.le_refl, reduceCtorEq, SV.tr, SV.trL, nmF, rn_nil, rn_cons1, rn_cons2, List.map_cons, List.map_nil, List.all_cons, List.all_nil, plainOb, SV.refsL, SV.refs, Ob.refs, X, F, List.range_succ, List.range_zero, List.nil_append, List.cons_append, List.isEmpty_nil, decide_true, Nat.reduceLT, Bool.and_self, Bool.and_true, and_self, and_true, List.getElem?_cons_zero, List.getElem?_cons_succ, List.nodup_cons, List.nodup_nil, List.mem_cons, List.not_mem_nil, not_false_eq_true, or_false, List.append_nil, mkO, setO_mk, List.mem_singleton]) (by simp [SV.tr, SV.trL])
  · have hlen : l.length ≤ 1048576 := by omega
    have hlen2 : l.length ≤ 1100000 := by omega
    generalize hg1 : (okA n m l && sameA n m l) = b1 at *
    generalize hg2 : okA n m l = b2 at *
    refine is.go hm hΓ k_x_SameOneWay o_x_SameOneWay (by simp [a_x_SameOneWay]) ?_
    simp only [a_x_SameOneWay, h_szAskedS, c_szAskedS, h_toAskedS, c_toAskedS, h_s_SameOneWay, c_s_SameOneWay, h_SameOneWay, c_SameOneWay, h_eqAskedS, c_eqAskedS, hl, hlp, hc, hk, hlen, hlen2, hg1, hg2, slA_sl, beq_self_eq_true, Bool.not_true, Int.reduceLE, Int.reduceNeg, Int.reduceLT, bne_self_eq_false, List.zipIdx_cons, List.zipIdx_nil, ↓SP, SQ, Gam.add, stepM, callC, argC, lendO, nmBy, nmC, likeL, likeB, plainOb, offs, X, F, trP, trO, stepD, stepW, newA, SV.tr, SV.trL, fz, allP, Ob.tr, loadA, cellsA, SV.cells, binA, binI, eqOut, isSl, isPt, natOf, callee, snap, SV.refsL, SV.refs, thaw, fzAll, loA, hiA, elemOf, partsA, buildA, putCells, ↓reduceIte, reduceCtorEq, okCell, Nat.reduceAdd, Nat.reduceEqDiff, Nat.reduceSub, Nat.reduceMul, Nat.reduceLeDiff, Nat.reduceLT, Nat.reduceBEq, PV.scal, PV.scalL, SV.scal, SV.scalL, Ob.scal, PV.isCell, pure', resO]
    exact finA_val (by simp [retA, rvA, List.mapM_cons, List.mapM_nil, Option.pure_def, Option.bind_eq_bind, Option.bind_some, Option.map_some, mkE_cons, mk_nil, mkO_cons, mkO_nil, loadA, ↓reduceIte, List.take_succ_cons, List.take_zero, List.drop_zero, List.drop_succ_cons, List.length_cons, List.length_nil, Nat.reduceAdd, Nat.reduceEqDiff, Nat.reduceLeDiff, Nat.zero_add, Nat.le_refl, reduceCtorEq, SV.tr, SV.trL, nmF, rn_nil, rn_cons1, rn_cons2, List.map_cons, List.map_nil, List.all_cons, List.all_nil, plainOb, SV.refsL, SV.refs, Ob.refs, X, F, List.range_succ, List.range_zero, List.nil_append, List.cons_append, List.isEmpty_nil, decide_true, Nat.reduceLT, Bool.and_self, Bool.and_true, and_self, and_true, List.getElem?_cons_zero, List.getElem?_cons_succ, List.nodup_cons, List.nodup_nil, List.mem_cons, List.not_mem_nil, not_false_eq_true, or_false, List.append_nil, mkO, setO_mk, List.mem_singleton]) (by simp [SV.tr, SV.trL])
end Go.Proofs.Ytnonkjcklgihhaa.Pam
