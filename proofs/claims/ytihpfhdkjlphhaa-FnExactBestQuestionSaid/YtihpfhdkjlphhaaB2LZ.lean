/- A part of the proof that stands in this folder: a small machine whose steps are shown to be the steps of the model, or walks of functions by it. No condition of its own. -/
import Derived.Test.YtihpfhdkjlphhaaB2LE
set_option linter.unusedVariables false
set_option linter.unusedSimpArgs false
namespace Go.Proofs.Ytihpfhdkjlphhaa.Pam
open Go
/-- The numbers that stand open, of the first i. -/
def opensI (y : List Int) (i : Nat) : List Int := ((List.range i).filter fun j => decide (0 ≤ y.getD j 0)).map fun j : Nat => (j : Int)
def opens (y : List Int) : List Int := opensI y y.length
theorem opensI_yes (y : List Int) (i : Nat) (h : 0 ≤ y.getD i 0) : opensI y i ++ [(i : Int)] = opensI y (i + 1) := by
  have h' : decide (0 ≤ y.getD i 0) = true := dec_t h
  simp only [opensI, List.range_succ, List.filter_append, List.filter_cons, h', List.filter_nil, if_true, List.map_append, List.map_cons, List.map_nil]
theorem opensI_no (y : List Int) (i : Nat) (h : ¬ 0 ≤ y.getD i 0) : opensI y (i + 1) = opensI y i := by
  have h' : decide (0 ≤ y.getD i 0) = false := dec_f h
  simp only [opensI, List.range_succ, List.filter_append, List.filter_cons, h', List.filter_nil, Bool.false_eq_true, if_false, List.append_nil]
theorem opensI_len (y : List Int) (i : Nat) : (opensI y i).length ≤ i := by
  simp only [opensI, List.length_map]
  exact Nat.le_trans (List.length_filter_le _ _) (by simp)
def a_l2Open : AFn := ⟨1, 
  .seq (.reg [⟨some 1, none, .w (.box 2 (.t 0))⟩,
    ⟨some 2, none, .d (.mv (.c (.nilsl)))⟩])
  (.seq (.reg [⟨some 5, none, .w (.bslice 1 [] [])⟩,
    ⟨some 3, none, .d (.mv (.t 5))⟩])
  (.seq (.seq (.reg [⟨some 4, none, .d (.mv (.c (.int .i64 0)))⟩])
  (.block 0 (.loop (.seq (.seq (.reg [⟨some 6, none, .d (.mv (.t 4))⟩,
      ⟨some 7, none, .d (.fa 0 (.t 1))⟩,
      ⟨some 8, none, .d (.load false 1 (.t 7))⟩,
      ⟨some 9, none, .d (.len (.t 8))⟩,
      ⟨some 10, none, .d (.bin .arith .lss (.t 6) (.t 9))⟩])
    (.cond (.t 10) (.skip) (.exit 0)))
    (.seq (.block 1 (.seq (.reg [⟨some 13, none, .d (.fa 0 (.t 1))⟩,
       ⟨some 14, none, .d (.load false 1 (.t 13))⟩,
       ⟨some 15, none, .d (.mv (.t 4))⟩,
       ⟨some 16, none, .d (.ia 1 (.t 14) (.t 15))⟩,
       ⟨some 17, none, .d (.load false 1 (.t 16))⟩,
       ⟨some 18, none, .d (.bin .arith .geq (.t 17) (.c (.int .i64 0)))⟩])
     (.cond (.t 18) (.reg [⟨some 19, none, .d (.mv (.t 3))⟩,
        ⟨some 20, none, .d (.mv (.t 4))⟩,
        ⟨some 21, none, .w (.bslice 1 [.int .i64 0] [(0, (.t 20))])⟩,
        ⟨some 22, none, .w (.append 1 (.t 19) (.t 21))⟩,
        ⟨some 3, none, .d (.mv (.t 22))⟩]) (.skip))))
    (.reg [⟨some 11, none, .d (.mv (.t 4))⟩,
      ⟨some 12, none, .d (.bin .arith .add (.t 11) (.c (.int .i64 1)))⟩,
      ⟨some 4, none, .d (.mv (.t 12))⟩]))))))
  (.seq (.reg [⟨some 23, none, .d (.mv (.t 3))⟩,
    ⟨some 2, none, .d (.mv (.t 23))⟩])
  (.ret)))), [.tmp 2]⟩
def n_l2Open : Nat → Option Ann := fun _ => none
abbrev k_l2Open : List Nat := [0, 1, 2, 3, 4, 10, 18]
abbrev o_l2Open : List Nat := [1, 5, 21, 22]
def a_opened : AFn := ⟨1, 
  .seq (.reg [⟨some 1, none, .w (.box 2 (.t 0))⟩,
    ⟨some 2, none, .d (.mv (.c (.nilsl)))⟩])
  (.seq (.reg [⟨some 6, none, .w (.bslice 1 [] [])⟩,
    ⟨some 3, none, .d (.mv (.t 6))⟩])
  (.seq (.seq (.reg [⟨some 7, none, .d (.fa 0 (.t 1))⟩,
    ⟨some 8, none, .d (.load false 1 (.t 7))⟩,
    ⟨some 9, none, .d (.len (.t 8))⟩,
    ⟨some 10, none, .d (.mv (.c (.int .i64 0)))⟩])
  (.block 0 (.loop (.seq (.reg [⟨some 11, none, .d (.bin .arith .lss (.t 10) (.t 9))⟩])
    (.seq (.cond (.t 11) (.skip) (.exit 0))
    (.seq (.block 1 (.seq (.reg [⟨some 12, none, .d (.mv (.t 10))⟩,
       ⟨some 13, none, .d (.ia 1 (.t 8) (.t 10))⟩,
       ⟨some 14, none, .d (.load false 1 (.t 13))⟩,
       ⟨some 4, none, .d (.mv (.t 12))⟩,
       ⟨some 5, none, .d (.mv (.t 14))⟩])
     (.seq (.reg [⟨some 15, none, .d (.mv (.t 5))⟩,
       ⟨some 16, none, .d (.bin .arith .geq (.t 15) (.c (.int .i64 0)))⟩])
     (.cond (.t 16) (.reg [⟨some 17, none, .d (.mv (.t 3))⟩,
        ⟨some 18, none, .d (.mv (.t 4))⟩,
        ⟨some 19, none, .w (.bslice 1 [.int .i64 0] [(0, (.t 18))])⟩,
        ⟨some 20, none, .w (.append 1 (.t 17) (.t 19))⟩,
        ⟨some 3, none, .d (.mv (.t 20))⟩]) (.skip)))))
    (.reg [⟨some 21, none, .d (.bin .arith .add (.t 10) (.c (.int .i64 1)))⟩,
      ⟨some 10, none, .d (.mv (.t 21))⟩])))))))
  (.seq (.reg [⟨some 22, none, .d (.mv (.t 3))⟩,
    ⟨some 2, none, .d (.mv (.t 22))⟩])
  (.ret)))), [.tmp 2]⟩
def n_opened : Nat → Option Ann := fun _ => none
abbrev k_opened : List Nat := [0, 1, 2, 3, 4, 5, 8, 9, 10, 11, 16]
abbrev o_opened : List Nat := [1, 6, 19, 20]
def c_l2Open : Con := pure' fun
  | [.p (.agg [.sl 1 x_, .int .i64 m])] => if isI x_ = true ∧ ((ofI x_).length ≤ 1100000) then some (.ar 2000000, [.arr 1 (ints (opens (ofI x_)))]) else none
  | _ => none
theorem s_l2Open {P : Program} (hm : P.follows .mixedOrders = true) {Γ : Gam} (hΓ : GS P Γ) {n : FuncId} (is : Is P n a_l2Open)  : Says P n c_l2Open := by
  refine Says.pure fun args r fs h => ?_
  split at h
  case h_2 => cases h
  rename_i x_ m
  split at h
  case isFalse => cases h
  rename_i hc
  obtain ⟨hx_, hc⟩ := hc
  obtain ⟨x, rfl⟩ := isI_out hx_
  simp only [ofI_ints, ofBo_bools, ofAs_asks, Option.some.injEq, Prod.mk.injEq] at h hc
  obtain ⟨rfl, rfl⟩ := h
  refine is.go hm hΓ k_l2Open o_l2Open (by simp [a_l2Open]) ?_
  simp only [a_l2Open, List.zipIdx_cons, List.zipIdx_nil, ↓SP, SQ, Gam.add, stepM, callC, argC, lendO, nmBy, nmC, likeL, likeB, plainOb, offs, exL, X, F, trP, trO, stepD, stepW, newA, SV.tr, SV.trL, fz, allP, Ob.tr, loadA, cellsA, SV.cells, binA, binI, eqOut, isSl, isPt, natOf, callee, snap, SV.refsL, SV.refs, thaw, fzAll, loA, hiA, elemOf, partsA, buildA, putCells, ↓reduceIte, reduceCtorEq, okCell, Nat.reduceAdd, Nat.reduceEqDiff, Nat.reduceSub, Nat.reduceMul, Nat.reduceLeDiff, Nat.reduceLT, Nat.reduceBEq, PV.scal, PV.scalL, SV.scal, SV.scalL, Ob.scal, PV.isCell, pure', resO]
  refine loop_at (fun s : Nat × Option Ob × SV × SV => mkEnv [(0, .p (.agg [.sl 1 (ints x), .int .i64 m])), (1, .bx 1 0), (2, .p .nilsl), (3, .ar 5), (4, si s.1), (10, s.2.2.1), (18, s.2.2.2)]) (fun s => mkO [(1, some (.box [.p (.sl 1 (ints x)), si m])), (5, some (.arr 1 (ints (opensI x s.1)))), (21, s.2.1), (22, none)]) (fun s => s.1 ≤ x.length) (fun s => x.length - s.1) (0, none, .junk, .junk) (by simp) rfl rfl ?_
  rintro ⟨i, ob, c1, c2⟩ hi R hR hN
  simp only at hi
  by_cases h : i < x.length
  · have h1 : (i : Int) < x.length := by omega
    have hw := wrap_one (i := i) (by omega)
    have hg := ints_get h
    have hl := opensI_len x i
    have hr : (opensI x i).length + 1 ≤ roomA := by unfold roomA; omega
    by_cases hx : 0 ≤ x.getD i 0
    · have hx' : x.getD i 0 ≥ 0 := hx
      have ho := opensI_yes x i hx
      simp only [h1, hw, hg, hr, hx, hx', ints_len, ints_app1, ho, ints_cell, ↓SP, SQ, Gam.add, stepM, callC, argC, lendO, nmBy, nmC, likeL, likeB, plainOb, offs, exL, X, F, trP, trO, stepD, stepW, newA, SV.tr, SV.trL, fz, allP, Ob.tr, loadA, cellsA, SV.cells, binA, binI, eqOut, isSl, isPt, natOf, callee, snap, SV.refsL, SV.refs, thaw, fzAll, loA, hiA, elemOf, partsA, buildA, putCells, ↓reduceIte, reduceCtorEq, okCell, Nat.reduceAdd, Nat.reduceEqDiff, Nat.reduceSub, Nat.reduceMul, Nat.reduceLeDiff, Nat.reduceLT, Nat.reduceBEq, PV.scal, PV.scalL, SV.scal, SV.scalL, Ob.scal, PV.isCell, pure', resO]
      exact hN (i + 1, _, _, _) _ _ (by simp only; omega) (by simp only; omega) rfl rfl
    · have hx' : ¬ x.getD i 0 ≥ 0 := hx
      have ho := opensI_no x i hx
      simp only [h1, hw, hg, hx, hx', ↓SP, SQ, Gam.add, stepM, callC, argC, lendO, nmBy, nmC, likeL, likeB, plainOb, offs, exL, X, F, trP, trO, stepD, stepW, newA, SV.tr, SV.trL, fz, allP, Ob.tr, loadA, cellsA, SV.cells, binA, binI, eqOut, isSl, isPt, natOf, callee, snap, SV.refsL, SV.refs, thaw, fzAll, loA, hiA, elemOf, partsA, buildA, putCells, ↓reduceIte, reduceCtorEq, okCell, Nat.reduceAdd, Nat.reduceEqDiff, Nat.reduceSub, Nat.reduceMul, Nat.reduceLeDiff, Nat.reduceLT, Nat.reduceBEq, PV.scal, PV.scalL, SV.scal, SV.scalL, Ob.scal, PV.isCell, pure', resO]
      exact hN (i + 1, _, _, _) _ _ (by simp only; omega) (by simp only; omega) rfl (by rw [ho])
  · have he : i = x.length := by omega
    have h1 : ¬ (i : Int) < x.length := by omega
    simp only [h1, ↓SP, SQ, Gam.add, stepM, callC, argC, lendO, nmBy, nmC, likeL, likeB, plainOb, offs, exL, X, F, trP, trO, stepD, stepW, newA, SV.tr, SV.trL, fz, allP, Ob.tr, loadA, cellsA, SV.cells, binA, binI, eqOut, isSl, isPt, natOf, callee, snap, SV.refsL, SV.refs, thaw, fzAll, loA, hiA, elemOf, partsA, buildA, putCells, ↓reduceIte, reduceCtorEq, okCell, Nat.reduceAdd, Nat.reduceEqDiff, Nat.reduceSub, Nat.reduceMul, Nat.reduceLeDiff, Nat.reduceLT, Nat.reduceBEq, PV.scal, PV.scalL, SV.scal, SV.scalL, Ob.scal, PV.isCell, pure', resO]
    refine hR _ _ _ (by intro h; cases h) ?_
    simp only [↓SP, SQ, Gam.add, stepM, callC, argC, lendO, nmBy, nmC, likeL, likeB, plainOb, offs, exL, X, F, trP, trO, stepD, stepW, newA, SV.tr, SV.trL, fz, allP, Ob.tr, loadA, cellsA, SV.cells, binA, binI, eqOut, isSl, isPt, natOf, callee, snap, SV.refsL, SV.refs, thaw, fzAll, loA, hiA, elemOf, partsA, buildA, putCells, ↓reduceIte, reduceCtorEq, okCell, Nat.reduceAdd, Nat.reduceEqDiff, Nat.reduceSub, Nat.reduceMul, Nat.reduceLeDiff, Nat.reduceLT, Nat.reduceBEq, PV.scal, PV.scalL, SV.scal, SV.scalL, Ob.scal, PV.isCell, pure', resO]
    subst he
    refine finA_gen [5] trivial (by simp [retA, rvA, mkE_cons, mk_nil, mkO_cons, mkO_nil, loadA, SV.tr, SV.trL, nmF, rn_nil, rn_cons1, rn_cons2, plainOb, SV.refsL, SV.refs, Ob.refs, X, F, List.range_succ, mkO, setO_mk]; rfl) ?_ ?_ ?_ ?_ ?_ ?_ ?_ <;> simp [opens, retA, rvA, mkE_cons, mk_nil, mkO_cons, mkO_nil, loadA, SV.tr, SV.trL, nmF, rn_nil, rn_cons1, rn_cons2, plainOb, SV.refsL, SV.refs, Ob.refs, X, F, List.range_succ, mkO, setO_mk]
theorem s_opened {P : Program} (hm : P.follows .mixedOrders = true) {Γ : Gam} (hΓ : GS P Γ) {n : FuncId} (is : Is P n a_opened)  : Says P n c_l2Open := by
  refine Says.pure fun args r fs h => ?_
  split at h
  case h_2 => cases h
  rename_i x_ m
  split at h
  case isFalse => cases h
  rename_i hc
  obtain ⟨hx_, hc⟩ := hc
  obtain ⟨x, rfl⟩ := isI_out hx_
  simp only [ofI_ints, ofBo_bools, ofAs_asks, Option.some.injEq, Prod.mk.injEq] at h hc
  obtain ⟨rfl, rfl⟩ := h
  refine is.go hm hΓ k_opened o_opened (by simp [a_opened]) ?_
  simp only [a_opened, List.zipIdx_cons, List.zipIdx_nil, ↓SP, SQ, Gam.add, stepM, callC, argC, lendO, nmBy, nmC, likeL, likeB, plainOb, offs, exL, X, F, trP, trO, stepD, stepW, newA, SV.tr, SV.trL, fz, allP, Ob.tr, loadA, cellsA, SV.cells, binA, binI, eqOut, isSl, isPt, natOf, callee, snap, SV.refsL, SV.refs, thaw, fzAll, loA, hiA, elemOf, partsA, buildA, putCells, ↓reduceIte, reduceCtorEq, okCell, Nat.reduceAdd, Nat.reduceEqDiff, Nat.reduceSub, Nat.reduceMul, Nat.reduceLeDiff, Nat.reduceLT, Nat.reduceBEq, PV.scal, PV.scalL, SV.scal, SV.scalL, Ob.scal, PV.isCell, pure', resO]
  refine loop_at (fun s : Nat × Option Ob × SV × SV × SV × SV => mkEnv [(0, .p (.agg [.sl 1 (ints x), .int .i64 m])), (1, .bx 1 0), (2, .p .nilsl), (3, .ar 6), (4, s.2.2.1), (5, s.2.2.2.1), (8, .p (.sl 1 (ints x))), (9, si x.length), (10, si s.1), (11, s.2.2.2.2.1), (16, s.2.2.2.2.2)]) (fun s => mkO [(1, some (.box [.p (.sl 1 (ints x)), si m])), (6, some (.arr 1 (ints (opensI x s.1)))), (19, s.2.1), (20, none)]) (fun s => s.1 ≤ x.length) (fun s => x.length - s.1) (0, none, .junk, .junk, .junk, .junk) (by simp) rfl rfl ?_
  rintro ⟨i, ob, c1, c2, c3, c4⟩ hi R hR hN
  simp only at hi
  by_cases h : i < x.length
  · have h1 : (i : Int) < x.length := by omega
    have hw := wrap_one (i := i) (by omega)
    have hg := ints_get h
    have hl := opensI_len x i
    have hr : (opensI x i).length + 1 ≤ roomA := by unfold roomA; omega
    by_cases hx : 0 ≤ x.getD i 0
    · have hx' : x.getD i 0 ≥ 0 := hx
      have ho := opensI_yes x i hx
      simp only [h1, hw, hg, hr, hx, hx', ints_len, ints_app1, ho, ints_cell, ↓SP, SQ, Gam.add, stepM, callC, argC, lendO, nmBy, nmC, likeL, likeB, plainOb, offs, exL, X, F, trP, trO, stepD, stepW, newA, SV.tr, SV.trL, fz, allP, Ob.tr, loadA, cellsA, SV.cells, binA, binI, eqOut, isSl, isPt, natOf, callee, snap, SV.refsL, SV.refs, thaw, fzAll, loA, hiA, elemOf, partsA, buildA, putCells, ↓reduceIte, reduceCtorEq, okCell, Nat.reduceAdd, Nat.reduceEqDiff, Nat.reduceSub, Nat.reduceMul, Nat.reduceLeDiff, Nat.reduceLT, Nat.reduceBEq, PV.scal, PV.scalL, SV.scal, SV.scalL, Ob.scal, PV.isCell, pure', resO]
      exact hN (i + 1, _, _, _, _, _) _ _ (by simp only; omega) (by simp only; omega) rfl rfl
    · have hx' : ¬ x.getD i 0 ≥ 0 := hx
      have ho := opensI_no x i hx
      simp only [h1, hw, hg, hx, hx', ↓SP, SQ, Gam.add, stepM, callC, argC, lendO, nmBy, nmC, likeL, likeB, plainOb, offs, exL, X, F, trP, trO, stepD, stepW, newA, SV.tr, SV.trL, fz, allP, Ob.tr, loadA, cellsA, SV.cells, binA, binI, eqOut, isSl, isPt, natOf, callee, snap, SV.refsL, SV.refs, thaw, fzAll, loA, hiA, elemOf, partsA, buildA, putCells, ↓reduceIte, reduceCtorEq, okCell, Nat.reduceAdd, Nat.reduceEqDiff, Nat.reduceSub, Nat.reduceMul, Nat.reduceLeDiff, Nat.reduceLT, Nat.reduceBEq, PV.scal, PV.scalL, SV.scal, SV.scalL, Ob.scal, PV.isCell, pure', resO]
      exact hN (i + 1, _, _, _, _, _) _ _ (by simp only; omega) (by simp only; omega) rfl (by rw [ho])
  · have he : i = x.length := by omega
    have h1 : ¬ (i : Int) < x.length := by omega
    simp only [h1, ↓SP, SQ, Gam.add, stepM, callC, argC, lendO, nmBy, nmC, likeL, likeB, plainOb, offs, exL, X, F, trP, trO, stepD, stepW, newA, SV.tr, SV.trL, fz, allP, Ob.tr, loadA, cellsA, SV.cells, binA, binI, eqOut, isSl, isPt, natOf, callee, snap, SV.refsL, SV.refs, thaw, fzAll, loA, hiA, elemOf, partsA, buildA, putCells, ↓reduceIte, reduceCtorEq, okCell, Nat.reduceAdd, Nat.reduceEqDiff, Nat.reduceSub, Nat.reduceMul, Nat.reduceLeDiff, Nat.reduceLT, Nat.reduceBEq, PV.scal, PV.scalL, SV.scal, SV.scalL, Ob.scal, PV.isCell, pure', resO]
    refine hR _ _ _ (by intro h; cases h) ?_
    simp only [↓SP, SQ, Gam.add, stepM, callC, argC, lendO, nmBy, nmC, likeL, likeB, plainOb, offs, exL, X, F, trP, trO, stepD, stepW, newA, SV.tr, SV.trL, fz, allP, Ob.tr, loadA, cellsA, SV.cells, binA, binI, eqOut, isSl, isPt, natOf, callee, snap, SV.refsL, SV.refs, thaw, fzAll, loA, hiA, elemOf, partsA, buildA, putCells, ↓reduceIte, reduceCtorEq, okCell, Nat.reduceAdd, Nat.reduceEqDiff, Nat.reduceSub, Nat.reduceMul, Nat.reduceLeDiff, Nat.reduceLT, Nat.reduceBEq, PV.scal, PV.scalL, SV.scal, SV.scalL, Ob.scal, PV.isCell, pure', resO]
    subst he
    refine finA_gen [6] trivial (by simp [retA, rvA, mkE_cons, mk_nil, mkO_cons, mkO_nil, loadA, SV.tr, SV.trL, nmF, rn_nil, rn_cons1, rn_cons2, plainOb, SV.refsL, SV.refs, Ob.refs, X, F, List.range_succ, mkO, setO_mk]; rfl) ?_ ?_ ?_ ?_ ?_ ?_ ?_ <;> simp [opens, retA, rvA, mkE_cons, mk_nil, mkO_cons, mkO_nil, loadA, SV.tr, SV.trL, nmF, rn_nil, rn_cons1, rn_cons2, plainOb, SV.refsL, SV.refs, Ob.refs, X, F, List.range_succ, mkO, setO_mk]
def a_l1Most : AFn := ⟨2, 
  .seq (.reg [⟨some 4, none, .d (.mv (.c (.int .i64 0)))⟩])
  (.seq (.seq (.reg [⟨some 5, none, .d (.mv (.t 0))⟩,
    ⟨some 6, none, .d (.mv (.t 1))⟩,
    ⟨some 7, none, .d (.bin .arith .gtr (.t 5) (.t 6))⟩])
  (.cond (.t 7) (.seq (.reg [⟨some 8, none, .d (.mv (.t 0))⟩,
     ⟨some 4, none, .d (.mv (.t 8))⟩])
   (.ret)) (.skip)))
  (.seq (.reg [⟨some 9, none, .d (.mv (.t 1))⟩,
    ⟨some 4, none, .d (.mv (.t 9))⟩])
  (.ret))), [.tmp 4]⟩
def n_l1Most : Nat → Option Ann := fun _ => none
abbrev k_l1Most : List Nat := [0, 1, 4, 7]
abbrev o_l1Most : List Nat := []
def c_l1Most : Con := pure' fun
  | [.p (.int .i64 a), .p (.int .i64 b)] => if (True) then some (.p (.int .i64 (if a > b then a else b)), []) else none
  | _ => none
theorem s_l1Most {P : Program} (hm : P.follows .mixedOrders = true) {Γ : Gam} (hΓ : GS P Γ) {n : FuncId} (is : Is P n a_l1Most)  : Says P n c_l1Most := by
  refine Says.pure fun args r fs h => ?_
  split at h
  case h_2 => cases h
  rename_i a b
  split at h
  case isFalse => cases h
  rename_i hc
  simp only [ofI_ints, ofBo_bools, ofAs_asks, Option.some.injEq, Prod.mk.injEq] at h hc
  obtain ⟨rfl, rfl⟩ := h
  by_cases h : a > b
  · refine is.go hm hΓ k_l1Most o_l1Most (by simp [a_l1Most]) ?_
    simp only [a_l1Most, h, List.zipIdx_cons, List.zipIdx_nil, ↓SP, SQ, Gam.add, stepM, callC, argC, lendO, nmBy, nmC, likeL, likeB, plainOb, offs, exL, X, F, trP, trO, stepD, stepW, newA, SV.tr, SV.trL, fz, allP, Ob.tr, loadA, cellsA, SV.cells, binA, binI, eqOut, isSl, isPt, natOf, callee, snap, SV.refsL, SV.refs, thaw, fzAll, loA, hiA, elemOf, partsA, buildA, putCells, ↓reduceIte, reduceCtorEq, okCell, Nat.reduceAdd, Nat.reduceEqDiff, Nat.reduceSub, Nat.reduceMul, Nat.reduceLeDiff, Nat.reduceLT, Nat.reduceBEq, PV.scal, PV.scalL, SV.scal, SV.scalL, Ob.scal, PV.isCell, pure', resO]
    exact finA_val (by simp [retA, rvA, mkE_cons, mk_nil, mkO_cons, mkO_nil, loadA, SV.tr, SV.trL, nmF, rn_nil, rn_cons1, rn_cons2, plainOb, SV.refsL, SV.refs, Ob.refs, X, F, List.range_succ, mkO, setO_mk]) (by simp [SV.tr, SV.trL])
  · refine is.go hm hΓ k_l1Most o_l1Most (by simp [a_l1Most]) ?_
    simp only [a_l1Most, h, List.zipIdx_cons, List.zipIdx_nil, ↓SP, SQ, Gam.add, stepM, callC, argC, lendO, nmBy, nmC, likeL, likeB, plainOb, offs, exL, X, F, trP, trO, stepD, stepW, newA, SV.tr, SV.trL, fz, allP, Ob.tr, loadA, cellsA, SV.cells, binA, binI, eqOut, isSl, isPt, natOf, callee, snap, SV.refsL, SV.refs, thaw, fzAll, loA, hiA, elemOf, partsA, buildA, putCells, ↓reduceIte, reduceCtorEq, okCell, Nat.reduceAdd, Nat.reduceEqDiff, Nat.reduceSub, Nat.reduceMul, Nat.reduceLeDiff, Nat.reduceLT, Nat.reduceBEq, PV.scal, PV.scalL, SV.scal, SV.scalL, Ob.scal, PV.isCell, pure', resO]
    exact finA_val (by simp [retA, rvA, mkE_cons, mk_nil, mkO_cons, mkO_nil, loadA, SV.tr, SV.trL, nmF, rn_nil, rn_cons1, rn_cons2, plainOb, SV.refsL, SV.refs, Ob.refs, X, F, List.range_succ, mkO, setO_mk]) (by simp [SV.tr, SV.trL])
theorem shlM {k : Nat} (h : k ≤ 12) : IntKind.i64.wrap (1 * 2 ^ min k IntKind.i64.bits) = ((2 ^ k : Nat) : Int) := by
  have : k = 0 ∨ k = 1 ∨ k = 2 ∨ k = 3 ∨ k = 4 ∨ k = 5 ∨ k = 6 ∨ k = 7 ∨ k = 8 ∨ k = 9 ∨ k = 10 ∨ k = 11 ∨ k = 12 := by omega
  rcases this with h | h | h | h | h | h | h | h | h | h | h | h | h <;> subst h <;> decide
theorem sum_step (l : List Int) {i : Nat} (h : i < l.length) : (l.take (i + 1)).sum = (l.take i).sum + l.getD i 0 := by
  rw [take_one l i 0 h, List.sum_append]; simp
/-- All numbers are in 0 .. 8. -/
def in8 (l : List Int) : Bool := l.all fun x => decide (0 ≤ x) && decide (x ≤ 8)
theorem in8_get {l : List Int} (h : in8 l = true) (j : Nat) : 0 ≤ l.getD j 0 ∧ l.getD j 0 ≤ 8 := by
  by_cases hj : j < l.length
  · have := List.all_eq_true.1 h (l.getD j 0) (by rw [getD_lt hj]; exact List.getElem_mem hj)
    simpa using this
  · rw [List.getD_eq_getElem?_getD, List.getElem?_eq_none (by omega)]; simp
theorem sum_bd {l : List Int} (h : in8 l = true) : ∀ i, i ≤ l.length → 0 ≤ (l.take i).sum ∧ (l.take i).sum ≤ 8 * i
  | 0, _ => by simp
  | i + 1, hi => by
    have ⟨h1, h2⟩ := sum_bd h i (by omega)
    have ⟨h3, h4⟩ := in8_get h i
    rw [sum_step l (by omega)]
    omega
/-- Whether a list is one of counts. -/
def okC (l : List Int) : Bool := decide (1 ≤ (l.length : Int)) && decide ((l.length : Int) ≤ 3) && in8 l && decide (l.sum ≤ 8)
theorem okC_out {l : List Int} (h : okC l = true) : (1 ≤ l.length ∧ l.length ≤ 3) ∧ in8 l = true ∧ l.sum ≤ 8 := by
  simp only [okC, Bool.and_eq_true, decide_eq_true_eq] at h
  exact ⟨⟨by omega, by omega⟩, h.1.2, h.2⟩
def c_AreCounts : Con := pure' fun
  | [.p (.sl 1 l_)] => if isI l_ = true ∧ ((ofI l_).length ≤ 1100000) then some (.p (.bool (okC (ofI l_))), []) else none
  | _ => none
def a_l4Counts (f_l1In : FuncId) : AFn := ⟨1, 
  .seq (.reg [⟨some 2, none, .d (.mv (.c (.bool false)))⟩])
  (.seq (.seq (.reg [⟨some 5, none, .d (.mv (.t 0))⟩,
    ⟨some 6, none, .d (.len (.t 5))⟩,
    ⟨some 7, none, .d (.call (.f f_l1In) [(.t 6), (.c (.int .i64 1)), (.c (.int .i64 3))])⟩,
    ⟨some 8, none, .d (.not (.t 7))⟩])
  (.cond (.t 8) (.seq (.reg [⟨some 2, none, .d (.mv (.c (.bool false)))⟩])
   (.ret)) (.skip)))
  (.seq (.reg [⟨some 3, none, .d (.mv (.c (.int .i64 0)))⟩])
  (.seq (.seq (.reg [⟨some 4, none, .d (.mv (.c (.int .i64 0)))⟩])
  (.block 0 (.loop (.seq (.seq (.reg [⟨some 9, none, .d (.mv (.t 4))⟩,
      ⟨some 10, none, .d (.mv (.t 0))⟩,
      ⟨some 11, none, .d (.len (.t 10))⟩,
      ⟨some 12, none, .d (.bin .arith .lss (.t 9) (.t 11))⟩])
    (.cond (.t 12) (.skip) (.exit 0)))
    (.seq (.block 1 (.seq (.seq (.reg [⟨some 15, none, .d (.mv (.t 0))⟩,
       ⟨some 16, none, .d (.mv (.t 4))⟩,
       ⟨some 17, none, .d (.ia 1 (.t 15) (.t 16))⟩,
       ⟨some 18, none, .d (.load false 1 (.t 17))⟩,
       ⟨some 19, none, .d (.call (.f f_l1In) [(.t 18), (.c (.int .i64 0)), (.c (.int .i64 8))])⟩,
       ⟨some 20, none, .d (.not (.t 19))⟩])
     (.cond (.t 20) (.seq (.reg [⟨some 2, none, .d (.mv (.c (.bool false)))⟩])
      (.ret)) (.skip)))
     (.reg [⟨some 21, none, .d (.mv (.t 3))⟩,
       ⟨some 22, none, .d (.mv (.t 0))⟩,
       ⟨some 23, none, .d (.mv (.t 4))⟩,
       ⟨some 24, none, .d (.ia 1 (.t 22) (.t 23))⟩,
       ⟨some 25, none, .d (.load false 1 (.t 24))⟩,
       ⟨some 26, none, .d (.bin .arith .add (.t 21) (.t 25))⟩,
       ⟨some 3, none, .d (.mv (.t 26))⟩])))
    (.reg [⟨some 13, none, .d (.mv (.t 4))⟩,
      ⟨some 14, none, .d (.bin .arith .add (.t 13) (.c (.int .i64 1)))⟩,
      ⟨some 4, none, .d (.mv (.t 14))⟩]))))))
  (.seq (.reg [⟨some 27, none, .d (.mv (.t 3))⟩,
    ⟨some 28, none, .d (.bin .arith .leq (.t 27) (.c (.int .i64 8)))⟩,
    ⟨some 2, none, .d (.mv (.t 28))⟩])
  (.ret))))), [.tmp 2]⟩
def n_l4Counts : Nat → Option Ann := fun _ => none
abbrev k_l4Counts : List Nat := [0, 2, 3, 4, 8, 12, 20]
abbrev o_l4Counts : List Nat := []
theorem s_l4Counts {P : Program} (hm : P.follows .mixedOrders = true) {Γ : Gam} (hΓ : GS P Γ) {n : FuncId} {f_l1In : FuncId} (is : Is P n (a_l4Counts f_l1In)) (h_l1In : Γ f_l1In = c_in)  : Says P n c_AreCounts := by
  refine Says.pure fun args r fs h => ?_
  split at h
  case h_2 => cases h
  rename_i l_
  split at h
  case isFalse => cases h
  rename_i hc
  obtain ⟨hl_, hc⟩ := hc
  obtain ⟨l, rfl⟩ := isI_out hl_
  simp only [ofI_ints, ofBo_bools, ofAs_asks, Option.some.injEq, Prod.mk.injEq] at h hc
  obtain ⟨rfl, rfl⟩ := h
  cases h1 : (decide (1 ≤ (l.length : Int)) && decide ((l.length : Int) ≤ 3)) with
  | false =>
    refine is.go hm hΓ k_l4Counts o_l4Counts (by simp [a_l4Counts]) ?_
    simp only [a_l4Counts, h_l1In, c_in, h1, List.zipIdx_cons, List.zipIdx_nil, ↓SP, SQ, Gam.add, stepM, callC, argC, lendO, nmBy, nmC, likeL, likeB, plainOb, offs, exL, X, F, trP, trO, stepD, stepW, newA, SV.tr, SV.trL, fz, allP, Ob.tr, loadA, cellsA, SV.cells, binA, binI, eqOut, isSl, isPt, natOf, callee, snap, SV.refsL, SV.refs, thaw, fzAll, loA, hiA, elemOf, partsA, buildA, putCells, ↓reduceIte, reduceCtorEq, okCell, Nat.reduceAdd, Nat.reduceEqDiff, Nat.reduceSub, Nat.reduceMul, Nat.reduceLeDiff, Nat.reduceLT, Nat.reduceBEq, PV.scal, PV.scalL, SV.scal, SV.scalL, Ob.scal, PV.isCell, pure', resO]
    exact finA_val (by simp only [okC, h1, Bool.false_and]; simp [retA, rvA, mkE_cons, mk_nil, mkO_cons, mkO_nil, loadA, SV.tr, SV.trL, nmF, rn_nil, rn_cons1, rn_cons2, plainOb, SV.refsL, SV.refs, Ob.refs, X, F, List.range_succ, mkO, setO_mk]) (by simp [SV.tr])
  | true =>
    have hl3 : l.length ≤ 3 := by simp only [Bool.and_eq_true, decide_eq_true_eq] at h1; omega
    refine is.go hm hΓ k_l4Counts o_l4Counts (by simp [a_l4Counts]) ?_
    simp only [a_l4Counts, h_l1In, c_in, h1, List.zipIdx_cons, List.zipIdx_nil, ↓SP, SQ, Gam.add, stepM, callC, argC, lendO, nmBy, nmC, likeL, likeB, plainOb, offs, exL, X, F, trP, trO, stepD, stepW, newA, SV.tr, SV.trL, fz, allP, Ob.tr, loadA, cellsA, SV.cells, binA, binI, eqOut, isSl, isPt, natOf, callee, snap, SV.refsL, SV.refs, thaw, fzAll, loA, hiA, elemOf, partsA, buildA, putCells, ↓reduceIte, reduceCtorEq, okCell, Nat.reduceAdd, Nat.reduceEqDiff, Nat.reduceSub, Nat.reduceMul, Nat.reduceLeDiff, Nat.reduceLT, Nat.reduceBEq, PV.scal, PV.scalL, SV.scal, SV.scalL, Ob.scal, PV.isCell, pure', resO]
    refine loop_at (fun s : Nat × SV × SV => mkEnv [(0, .p (.sl 1 (ints l))), (2, sb false), (3, si (l.take s.1).sum), (4, si s.1), (8, sb false), (12, s.2.1), (20, s.2.2)]) (fun s => mkO []) (fun s => s.1 ≤ l.length ∧ ∀ j, j < s.1 → (decide (0 ≤ l.getD j 0) && decide (l.getD j 0 ≤ 8)) = true) (fun s => l.length - s.1) (0, .junk, .junk) (by simp) rfl rfl ?_
    rintro ⟨i, c1, c2⟩ ⟨hi, hp⟩ R hR hN
    simp only at hi hp
    have hb0 : ∀ k, k ≤ i → 0 ≤ (l.take k).sum ∧ (l.take k).sum ≤ 8 * k := by
      intro k
      induction k with
      | zero => intro _; simp
      | succ k ih =>
        intro hk
        have h5 := ih (by omega)
        have h6 := hp k (by omega)
        simp only [Bool.and_eq_true, decide_eq_true_eq] at h6
        rw [sum_step l (by omega)]
        omega
    by_cases h : i < l.length
    · have h1' : (i : Int) < l.length := by omega
      have hw := wrap_one (i := i) (by omega)
      have hg := ints_get h
      cases hq : (decide (0 ≤ l.getD i 0) && decide (l.getD i 0 ≤ 8)) with
      | true =>
        have hb := hb0 i (Nat.le_refl _)
        have h6 := hq
        simp only [Bool.and_eq_true, decide_eq_true_eq] at h6
        have hws : IntKind.i64.wrap ((l.take i).sum + l.getD i 0) = (l.take (i + 1)).sum := by rw [sum_step l h]; exact wrap64 (by omega) (by omega)
        simp only [h1', hw, hg, hq, hws, h_l1In, c_in, ↓SP, SQ, Gam.add, stepM, callC, argC, lendO, nmBy, nmC, likeL, likeB, plainOb, offs, exL, X, F, trP, trO, stepD, stepW, newA, SV.tr, SV.trL, fz, allP, Ob.tr, loadA, cellsA, SV.cells, binA, binI, eqOut, isSl, isPt, natOf, callee, snap, SV.refsL, SV.refs, thaw, fzAll, loA, hiA, elemOf, partsA, buildA, putCells, ↓reduceIte, reduceCtorEq, okCell, Nat.reduceAdd, Nat.reduceEqDiff, Nat.reduceSub, Nat.reduceMul, Nat.reduceLeDiff, Nat.reduceLT, Nat.reduceBEq, PV.scal, PV.scalL, SV.scal, SV.scalL, Ob.scal, PV.isCell, pure', resO]
        refine hN (i + 1, _, _) _ _ ⟨by simp only; omega, fun j hj => ?_⟩ (by simp only; omega) rfl rfl
        simp only at hj
        by_cases hji : j = i
        · rw [hji]; exact hq
        · exact hp j (by omega)
      | false =>
        simp only [h1', hw, hg, hq, h_l1In, c_in, ↓SP, SQ, Gam.add, stepM, callC, argC, lendO, nmBy, nmC, likeL, likeB, plainOb, offs, exL, X, F, trP, trO, stepD, stepW, newA, SV.tr, SV.trL, fz, allP, Ob.tr, loadA, cellsA, SV.cells, binA, binI, eqOut, isSl, isPt, natOf, callee, snap, SV.refsL, SV.refs, thaw, fzAll, loA, hiA, elemOf, partsA, buildA, putCells, ↓reduceIte, reduceCtorEq, okCell, Nat.reduceAdd, Nat.reduceEqDiff, Nat.reduceSub, Nat.reduceMul, Nat.reduceLeDiff, Nat.reduceLT, Nat.reduceBEq, PV.scal, PV.scalL, SV.scal, SV.scalL, Ob.scal, PV.isCell, pure', resO]
        refine hR _ _ _ (by intro h; cases h) ?_
        simp only [↓SP, SQ, Gam.add, stepM, callC, argC, lendO, nmBy, nmC, likeL, likeB, plainOb, offs, exL, X, F, trP, trO, stepD, stepW, newA, SV.tr, SV.trL, fz, allP, Ob.tr, loadA, cellsA, SV.cells, binA, binI, eqOut, isSl, isPt, natOf, callee, snap, SV.refsL, SV.refs, thaw, fzAll, loA, hiA, elemOf, partsA, buildA, putCells, ↓reduceIte, reduceCtorEq, okCell, Nat.reduceAdd, Nat.reduceEqDiff, Nat.reduceSub, Nat.reduceMul, Nat.reduceLeDiff, Nat.reduceLT, Nat.reduceBEq, PV.scal, PV.scalL, SV.scal, SV.scalL, Ob.scal, PV.isCell, pure', resO]
        have h8 : in8 l = false := by
          rw [Bool.eq_false_iff]; intro e
          have := in8_get e i
          rw [dec_t this.1, dec_t this.2] at hq; cases hq
        exact finA_val (by simp only [okC, h8, Bool.and_false, Bool.false_and]; simp [retA, rvA, mkE_cons, mk_nil, mkO_cons, mkO_nil, loadA, SV.tr, SV.trL, nmF, rn_nil, rn_cons1, rn_cons2, plainOb, SV.refsL, SV.refs, Ob.refs, X, F, List.range_succ, mkO, setO_mk]) (by simp [SV.tr])
    · have he : i = l.length := by omega
      have h1' : ¬ (i : Int) < l.length := by omega
      have h8 : in8 l = true := by
        rw [in8, List.all_eq_true]; intro x hx
        obtain ⟨j, hj, e⟩ := List.getElem_of_mem hx
        have := hp j (by omega)
        rwa [getD_lt hj, e] at this
      simp only [h1', ↓SP, SQ, Gam.add, stepM, callC, argC, lendO, nmBy, nmC, likeL, likeB, plainOb, offs, exL, X, F, trP, trO, stepD, stepW, newA, SV.tr, SV.trL, fz, allP, Ob.tr, loadA, cellsA, SV.cells, binA, binI, eqOut, isSl, isPt, natOf, callee, snap, SV.refsL, SV.refs, thaw, fzAll, loA, hiA, elemOf, partsA, buildA, putCells, ↓reduceIte, reduceCtorEq, okCell, Nat.reduceAdd, Nat.reduceEqDiff, Nat.reduceSub, Nat.reduceMul, Nat.reduceLeDiff, Nat.reduceLT, Nat.reduceBEq, PV.scal, PV.scalL, SV.scal, SV.scalL, Ob.scal, PV.isCell, pure', resO]
      refine hR _ _ _ (by intro h; cases h) ?_
      simp only [↓SP, SQ, Gam.add, stepM, callC, argC, lendO, nmBy, nmC, likeL, likeB, plainOb, offs, exL, X, F, trP, trO, stepD, stepW, newA, SV.tr, SV.trL, fz, allP, Ob.tr, loadA, cellsA, SV.cells, binA, binI, eqOut, isSl, isPt, natOf, callee, snap, SV.refsL, SV.refs, thaw, fzAll, loA, hiA, elemOf, partsA, buildA, putCells, ↓reduceIte, reduceCtorEq, okCell, Nat.reduceAdd, Nat.reduceEqDiff, Nat.reduceSub, Nat.reduceMul, Nat.reduceLeDiff, Nat.reduceLT, Nat.reduceBEq, PV.scal, PV.scalL, SV.scal, SV.scalL, Ob.scal, PV.isCell, pure', resO]
      subst he
      exact finA_val (by simp only [okC, h1, h8, Bool.true_and, List.take_length]; simp [retA, rvA, mkE_cons, mk_nil, mkO_cons, mkO_nil, loadA, SV.tr, SV.trL, nmF, rn_nil, rn_cons1, rn_cons2, plainOb, SV.refsL, SV.refs, Ob.refs, X, F, List.range_succ, mkO, setO_mk]) (by simp [SV.tr])
/-- Whether a list is a split of counts. -/
def okSp (c s : List Int) : Bool := decide (s.length = c.length) && (List.range s.length).all fun j => decide (0 ≤ s.getD j 0) && decide (s.getD j 0 ≤ c.getD j 0)
theorem okSp_out {c s : List Int} (h : okSp c s = true) : s.length = c.length ∧ ∀ j, 0 ≤ s.getD j 0 ∧ s.getD j 0 ≤ c.getD j 0 := by
  simp only [okSp, Bool.and_eq_true, decide_eq_true_eq, List.all_eq_true, List.mem_range] at h
  refine ⟨h.1, fun j => ?_⟩
  by_cases hj : j < s.length
  · exact h.2 j hj
  · rw [List.getD_eq_getElem?_getD, List.getD_eq_getElem?_getD, List.getElem?_eq_none (by omega), List.getElem?_eq_none (by omega)]; simp
theorem okSp_all {c s : List Int} (hl : s.length = c.length) (hp : ∀ j, j < s.length → (decide (0 ≤ s.getD j 0) && decide (s.getD j 0 ≤ c.getD j 0)) = true) : okSp c s = true := by
  simp only [okSp, hl, decide_true, Bool.true_and, List.all_eq_true, List.mem_range]
  exact fun j hj => by simpa using hp j (by omega)
/-- All numbers are within so much of nothing. -/
def bd (k : Int) (l : List Int) : Bool := l.all fun x => decide (-k ≤ x) && decide (x ≤ k)
theorem bd_get {k : Int} {l : List Int} (h : bd k l = true) (hk : 0 ≤ k) (j : Nat) : -k ≤ l.getD j 0 ∧ l.getD j 0 ≤ k := by
  by_cases hj : j < l.length
  · have := List.all_eq_true.1 h (l.getD j 0) (by rw [getD_lt hj]; exact List.getElem_mem hj)
    simpa using this
  · rw [List.getD_eq_getElem?_getD, List.getElem?_eq_none (by omega)]; simp; omega
theorem bd_of {k : Int} {l : List Int} (h : ∀ j, j < l.length → -k ≤ l.getD j 0 ∧ l.getD j 0 ≤ k) : bd k l = true := by
  rw [bd, List.all_eq_true]; intro x hx
  obtain ⟨j, hj, e⟩ := List.getElem_of_mem hx
  have := h j hj
  rw [getD_lt hj, e] at this
  simp [this]
theorem bd_in8 {l : List Int} (h : in8 l = true) {k : Int} (hk : 8 ≤ k) : bd k l = true := bd_of fun j _ => by have := in8_get h j; omega
/-- What a split leaves. -/
def restL (c s : List Int) : List Int := (List.range s.length).map fun j => c.getD j 0 - s.getD j 0
theorem restL_len (c s : List Int) : (restL c s).length = s.length := by simp [restL]
theorem restL_get {c s : List Int} {j : Nat} (h : j < s.length) : (restL c s).getD j 0 = c.getD j 0 - s.getD j 0 := by simp [restL, h]
theorem restL_one {c s : List Int} {i : Nat} (h : i < s.length) : (restL c s).take i ++ [c.getD i 0 - s.getD i 0] = (restL c s).take (i + 1) := by
  rw [take_one (restL c s) i 0 (by rw [restL_len]; exact h), restL_get h]
theorem restL_bd {c s : List Int} {k k' : Int} (hc : bd k c = true) (hs : bd k s = true) (hk : 0 ≤ k) (h2 : 2 * k ≤ k') : bd k' (restL c s) = true := bd_of fun j hj => by
  rw [restL_len] at hj
  rw [restL_get hj]
  have := bd_get hc hk j
  have := bd_get hs hk j
  omega
def a_left : AFn := ⟨2, 
  .seq (.reg [⟨some 4, none, .d (.mv (.c (.nilsl)))⟩])
  (.seq (.reg [⟨some 8, none, .w (.bslice 1 [] [])⟩,
    ⟨some 5, none, .d (.mv (.t 8))⟩])
  (.seq (.seq (.reg [⟨some 9, none, .d (.mv (.t 1))⟩,
    ⟨some 10, none, .d (.len (.t 9))⟩,
    ⟨some 11, none, .d (.mv (.c (.int .i64 0)))⟩])
  (.block 0 (.loop (.seq (.reg [⟨some 12, none, .d (.bin .arith .lss (.t 11) (.t 10))⟩])
    (.seq (.cond (.t 12) (.skip) (.exit 0))
    (.seq (.block 1 (.seq (.reg [⟨some 13, none, .d (.mv (.t 11))⟩,
       ⟨some 14, none, .d (.ia 1 (.t 9) (.t 11))⟩,
       ⟨some 15, none, .d (.load false 1 (.t 14))⟩,
       ⟨some 6, none, .d (.mv (.t 13))⟩,
       ⟨some 7, none, .d (.mv (.t 15))⟩])
     (.reg [⟨some 16, none, .d (.mv (.t 5))⟩,
       ⟨some 17, none, .d (.mv (.t 0))⟩,
       ⟨some 18, none, .d (.mv (.t 6))⟩,
       ⟨some 19, none, .d (.ia 1 (.t 17) (.t 18))⟩,
       ⟨some 20, none, .d (.load false 1 (.t 19))⟩,
       ⟨some 21, none, .d (.mv (.t 7))⟩,
       ⟨some 22, none, .d (.bin .arith .sub (.t 20) (.t 21))⟩,
       ⟨some 23, none, .w (.bslice 1 [.int .i64 0] [(0, (.t 22))])⟩,
       ⟨some 24, none, .w (.append 1 (.t 16) (.t 23))⟩,
       ⟨some 5, none, .d (.mv (.t 24))⟩])))
    (.reg [⟨some 25, none, .d (.bin .arith .add (.t 11) (.c (.int .i64 1)))⟩,
      ⟨some 11, none, .d (.mv (.t 25))⟩])))))))
  (.seq (.reg [⟨some 26, none, .d (.mv (.t 5))⟩,
    ⟨some 4, none, .d (.mv (.t 26))⟩])
  (.ret)))), [.tmp 4]⟩
def n_left : Nat → Option Ann := fun _ => none
abbrev k_left : List Nat := [0, 1, 4, 5, 6, 7, 9, 10, 11, 12]
abbrev o_left : List Nat := [8, 23, 24]
def a_l4Rest : AFn := ⟨2, 
  .seq (.reg [⟨some 4, none, .d (.mv (.c (.nilsl)))⟩])
  (.seq (.reg [⟨some 7, none, .w (.bslice 1 [] [])⟩,
    ⟨some 5, none, .d (.mv (.t 7))⟩])
  (.seq (.seq (.reg [⟨some 6, none, .d (.mv (.c (.int .i64 0)))⟩])
  (.block 0 (.loop (.seq (.seq (.reg [⟨some 8, none, .d (.mv (.t 6))⟩,
      ⟨some 9, none, .d (.mv (.t 0))⟩,
      ⟨some 10, none, .d (.len (.t 9))⟩,
      ⟨some 11, none, .d (.bin .arith .lss (.t 8) (.t 10))⟩])
    (.cond (.t 11) (.skip) (.exit 0)))
    (.seq (.block 1 (.dreg [24] [([24], ⟨some 14, none, .d (.mv (.t 5))⟩),
       ([24], ⟨some 15, none, .d (.mv (.t 0))⟩),
       ([24], ⟨some 16, none, .d (.mv (.t 6))⟩),
       ([24], ⟨some 17, none, .d (.ia 1 (.t 15) (.t 16))⟩),
       ([24], ⟨some 18, none, .d (.load false 1 (.t 17))⟩),
       ([24], ⟨some 19, none, .d (.mv (.t 1))⟩),
       ([24], ⟨some 20, none, .d (.mv (.t 6))⟩),
       ([24], ⟨some 21, none, .d (.ia 1 (.t 19) (.t 20))⟩),
       ([24], ⟨some 22, none, .d (.load false 1 (.t 21))⟩),
       ([24], ⟨some 23, none, .d (.bin .arith .sub (.t 18) (.t 22))⟩),
       ([], ⟨some 24, none, .w (.bslice 1 [.int .i64 0] [(0, (.t 23))])⟩)] [⟨some 25, none, .w (.append 1 (.t 14) (.t 24))⟩,
       ⟨some 5, none, .d (.mv (.t 25))⟩]))
    (.reg [⟨some 12, none, .d (.mv (.t 6))⟩,
      ⟨some 13, none, .d (.bin .arith .add (.t 12) (.c (.int .i64 1)))⟩,
      ⟨some 6, none, .d (.mv (.t 13))⟩]))))))
  (.seq (.reg [⟨some 26, none, .d (.mv (.t 5))⟩,
    ⟨some 4, none, .d (.mv (.t 26))⟩])
  (.ret)))), [.tmp 4]⟩
def n_l4Rest : Nat → Option Ann := fun _ => none
abbrev k_l4Rest : List Nat := [0, 1, 4, 5, 6, 11]
abbrev o_l4Rest : List Nat := [7, 24, 25]
def c_left : Con := pure' fun
  | [.p (.sl 1 c_), .p (.sl 1 s_)] => if isI c_ = true ∧ isI s_ = true ∧ ((ofI c_).length ≤ 1100000 ∧ (ofI s_).length = (ofI c_).length ∧ bd 10000 (ofI c_) = true ∧ bd 10000 (ofI s_) = true) then some (.ar 2000000, [.arr 1 (ints (restL (ofI c_) (ofI s_)))]) else none
  | _ => none
theorem s_left {P : Program} (hm : P.follows .mixedOrders = true) {Γ : Gam} (hΓ : GS P Γ) {n : FuncId} (is : Is P n a_left)  : Says P n c_left := by
  refine Says.pure fun args r fs h => ?_
  split at h
  case h_2 => cases h
  rename_i c_ s_
  split at h
  case isFalse => cases h
  rename_i hc
  obtain ⟨hc_, hc⟩ := hc
  obtain ⟨c, rfl⟩ := isI_out hc_
  obtain ⟨hs_, hc⟩ := hc
  obtain ⟨s, rfl⟩ := isI_out hs_
  simp only [ofI_ints, ofBo_bools, ofAs_asks, Option.some.injEq, Prod.mk.injEq] at h hc
  obtain ⟨rfl, rfl⟩ := h
  obtain ⟨h0, hl, hbc, hbs⟩ := hc
  refine is.go hm hΓ k_left o_left (by simp [a_left]) ?_
  simp only [a_left, List.zipIdx_cons, List.zipIdx_nil, ↓SP, SQ, Gam.add, stepM, callC, argC, lendO, nmBy, nmC, likeL, likeB, plainOb, offs, exL, X, F, trP, trO, stepD, stepW, newA, SV.tr, SV.trL, fz, allP, Ob.tr, loadA, cellsA, SV.cells, binA, binI, eqOut, isSl, isPt, natOf, callee, snap, SV.refsL, SV.refs, thaw, fzAll, loA, hiA, elemOf, partsA, buildA, putCells, ↓reduceIte, reduceCtorEq, okCell, Nat.reduceAdd, Nat.reduceEqDiff, Nat.reduceSub, Nat.reduceMul, Nat.reduceLeDiff, Nat.reduceLT, Nat.reduceBEq, PV.scal, PV.scalL, SV.scal, SV.scalL, Ob.scal, PV.isCell, pure', resO]
  refine loop_at (fun st : Nat × SV × SV × SV × Option Ob => mkEnv [(0, .p (.sl 1 (ints c))), (1, .p (.sl 1 (ints s))), (4, .p .nilsl), (5, .ar 8), (6, st.2.1), (7, st.2.2.1), (9, .p (.sl 1 (ints s))), (10, si s.length), (11, si st.1), (12, st.2.2.2.1)]) (fun st => mkO [(8, some (.arr 1 (ints ((restL c s).take st.1)))), (23, st.2.2.2.2), (24, none)]) (fun st => st.1 ≤ s.length) (fun st => s.length - st.1) (0, .junk, .junk, .junk, none) (by simp) rfl rfl ?_
  rintro ⟨i, k1, k2, k3, ob⟩ hi R hR hN
  simp only at hi
  by_cases h : i < s.length
  · have h1 : (i : Int) < s.length := by omega
    have hw := wrap_one (i := i) (by omega)
    have hg := ints_get h
    have hg2 := ints_get (l := c) (i := i) (by omega)
    have hb1 := bd_get hbc (by omega) i
    have hb2 := bd_get hbs (by omega) i
    have hws : IntKind.i64.wrap (c.getD i 0 - s.getD i 0) = c.getD i 0 - s.getD i 0 := wrap64 (by omega) (by omega)
    have hr : ((restL c s).take i).length + 1 ≤ roomA := by rw [List.length_take, restL_len]; unfold roomA; omega
    have hro := restL_one (c := c) h
    simp only [h1, hw, hg, hg2, hws, hr, hro, ints_len, ints_app1, ints_cell, ↓SP, SQ, Gam.add, stepM, callC, argC, lendO, nmBy, nmC, likeL, likeB, plainOb, offs, exL, X, F, trP, trO, stepD, stepW, newA, SV.tr, SV.trL, fz, allP, Ob.tr, loadA, cellsA, SV.cells, binA, binI, eqOut, isSl, isPt, natOf, callee, snap, SV.refsL, SV.refs, thaw, fzAll, loA, hiA, elemOf, partsA, buildA, putCells, ↓reduceIte, reduceCtorEq, okCell, Nat.reduceAdd, Nat.reduceEqDiff, Nat.reduceSub, Nat.reduceMul, Nat.reduceLeDiff, Nat.reduceLT, Nat.reduceBEq, PV.scal, PV.scalL, SV.scal, SV.scalL, Ob.scal, PV.isCell, pure', resO]
    exact hN (i + 1, _, _, _, _) _ _ (by simp only; omega) (by simp only; omega) rfl rfl
  · have he : i = s.length := by omega
    have h1 : ¬ (i : Int) < s.length := by omega
    simp only [h1, ↓SP, SQ, Gam.add, stepM, callC, argC, lendO, nmBy, nmC, likeL, likeB, plainOb, offs, exL, X, F, trP, trO, stepD, stepW, newA, SV.tr, SV.trL, fz, allP, Ob.tr, loadA, cellsA, SV.cells, binA, binI, eqOut, isSl, isPt, natOf, callee, snap, SV.refsL, SV.refs, thaw, fzAll, loA, hiA, elemOf, partsA, buildA, putCells, ↓reduceIte, reduceCtorEq, okCell, Nat.reduceAdd, Nat.reduceEqDiff, Nat.reduceSub, Nat.reduceMul, Nat.reduceLeDiff, Nat.reduceLT, Nat.reduceBEq, PV.scal, PV.scalL, SV.scal, SV.scalL, Ob.scal, PV.isCell, pure', resO]
    refine hR _ _ _ (by intro h; cases h) ?_
    simp only [↓SP, SQ, Gam.add, stepM, callC, argC, lendO, nmBy, nmC, likeL, likeB, plainOb, offs, exL, X, F, trP, trO, stepD, stepW, newA, SV.tr, SV.trL, fz, allP, Ob.tr, loadA, cellsA, SV.cells, binA, binI, eqOut, isSl, isPt, natOf, callee, snap, SV.refsL, SV.refs, thaw, fzAll, loA, hiA, elemOf, partsA, buildA, putCells, ↓reduceIte, reduceCtorEq, okCell, Nat.reduceAdd, Nat.reduceEqDiff, Nat.reduceSub, Nat.reduceMul, Nat.reduceLeDiff, Nat.reduceLT, Nat.reduceBEq, PV.scal, PV.scalL, SV.scal, SV.scalL, Ob.scal, PV.isCell, pure', resO]
    have ht : (restL c s).take i = restL c s := by rw [he, ← restL_len c s]; exact List.take_length
    refine finA_gen [8] trivial (by simp [retA, rvA, mkE_cons, mk_nil, mkO_cons, mkO_nil, loadA, SV.tr, SV.trL, nmF, rn_nil, rn_cons1, rn_cons2, plainOb, SV.refsL, SV.refs, Ob.refs, X, F, List.range_succ, mkO, setO_mk]; rfl) ?_ ?_ ?_ ?_ ?_ ?_ ?_ <;> simp [ht, retA, rvA, mkE_cons, mk_nil, mkO_cons, mkO_nil, loadA, SV.tr, SV.trL, nmF, rn_nil, rn_cons1, rn_cons2, plainOb, SV.refsL, SV.refs, Ob.refs, X, F, List.range_succ, mkO, setO_mk]
theorem s_l4Rest {P : Program} (hm : P.follows .mixedOrders = true) {Γ : Gam} (hΓ : GS P Γ) {n : FuncId} (is : Is P n a_l4Rest)  : Says P n c_left := by
  refine Says.pure fun args r fs h => ?_
  split at h
  case h_2 => cases h
  rename_i c_ s_
  split at h
  case isFalse => cases h
  rename_i hc
  obtain ⟨hc_, hc⟩ := hc
  obtain ⟨c, rfl⟩ := isI_out hc_
  obtain ⟨hs_, hc⟩ := hc
  obtain ⟨s, rfl⟩ := isI_out hs_
  simp only [ofI_ints, ofBo_bools, ofAs_asks, Option.some.injEq, Prod.mk.injEq] at h hc
  obtain ⟨rfl, rfl⟩ := h
  obtain ⟨h0, hl, hbc, hbs⟩ := hc
  refine is.go hm hΓ k_l4Rest o_l4Rest (by simp [a_l4Rest]) ?_
  simp only [a_l4Rest, List.zipIdx_cons, List.zipIdx_nil, ↓SP, SQ, Gam.add, stepM, callC, argC, lendO, nmBy, nmC, likeL, likeB, plainOb, offs, exL, X, F, trP, trO, stepD, stepW, newA, SV.tr, SV.trL, fz, allP, Ob.tr, loadA, cellsA, SV.cells, binA, binI, eqOut, isSl, isPt, natOf, callee, snap, SV.refsL, SV.refs, thaw, fzAll, loA, hiA, elemOf, partsA, buildA, putCells, ↓reduceIte, reduceCtorEq, okCell, Nat.reduceAdd, Nat.reduceEqDiff, Nat.reduceSub, Nat.reduceMul, Nat.reduceLeDiff, Nat.reduceLT, Nat.reduceBEq, PV.scal, PV.scalL, SV.scal, SV.scalL, Ob.scal, PV.isCell, pure', resO]
  refine loop_at (fun st : Nat × SV × Option Ob => mkEnv [(0, .p (.sl 1 (ints c))), (1, .p (.sl 1 (ints s))), (4, .p .nilsl), (5, .ar 7), (6, si st.1), (11, st.2.1)]) (fun st => mkO [(7, some (.arr 1 (ints ((restL c s).take st.1)))), (24, st.2.2), (25, none)]) (fun st => st.1 ≤ s.length) (fun st => s.length - st.1) (0, .junk, none) (by simp) rfl rfl ?_
  rintro ⟨i, k1, ob⟩ hi R hR hN
  simp only at hi
  by_cases h : i < s.length
  · have h1 : (i : Int) < c.length := by omega
    have hw := wrap_one (i := i) (by omega)
    have hg := ints_get h
    have hg2 := ints_get (l := c) (i := i) (by omega)
    have hb1 := bd_get hbc (by omega) i
    have hb2 := bd_get hbs (by omega) i
    have hws : IntKind.i64.wrap (c.getD i 0 - s.getD i 0) = c.getD i 0 - s.getD i 0 := wrap64 (by omega) (by omega)
    have hr : ((restL c s).take i).length + 1 ≤ roomA := by rw [List.length_take, restL_len]; unfold roomA; omega
    have hro := restL_one (c := c) h
    simp only [h1, hw, hg, hg2, hws, hr, hro, ints_len, ints_app1, ints_cell, ↓SP, SQ, Gam.add, stepM, callC, argC, lendO, nmBy, nmC, likeL, likeB, plainOb, offs, exL, X, F, trP, trO, stepD, stepW, newA, SV.tr, SV.trL, fz, allP, Ob.tr, loadA, cellsA, SV.cells, binA, binI, eqOut, isSl, isPt, natOf, callee, snap, SV.refsL, SV.refs, thaw, fzAll, loA, hiA, elemOf, partsA, buildA, putCells, ↓reduceIte, reduceCtorEq, okCell, Nat.reduceAdd, Nat.reduceEqDiff, Nat.reduceSub, Nat.reduceMul, Nat.reduceLeDiff, Nat.reduceLT, Nat.reduceBEq, PV.scal, PV.scalL, SV.scal, SV.scalL, Ob.scal, PV.isCell, pure', resO]
    exact hN (i + 1, _, _) _ _ (by simp only; omega) (by simp only; omega) rfl rfl
  · have he : i = s.length := by omega
    have h1 : ¬ (i : Int) < c.length := by omega
    simp only [h1, ↓SP, SQ, Gam.add, stepM, callC, argC, lendO, nmBy, nmC, likeL, likeB, plainOb, offs, exL, X, F, trP, trO, stepD, stepW, newA, SV.tr, SV.trL, fz, allP, Ob.tr, loadA, cellsA, SV.cells, binA, binI, eqOut, isSl, isPt, natOf, callee, snap, SV.refsL, SV.refs, thaw, fzAll, loA, hiA, elemOf, partsA, buildA, putCells, ↓reduceIte, reduceCtorEq, okCell, Nat.reduceAdd, Nat.reduceEqDiff, Nat.reduceSub, Nat.reduceMul, Nat.reduceLeDiff, Nat.reduceLT, Nat.reduceBEq, PV.scal, PV.scalL, SV.scal, SV.scalL, Ob.scal, PV.isCell, pure', resO]
    refine hR _ _ _ (by intro h; cases h) ?_
    simp only [↓SP, SQ, Gam.add, stepM, callC, argC, lendO, nmBy, nmC, likeL, likeB, plainOb, offs, exL, X, F, trP, trO, stepD, stepW, newA, SV.tr, SV.trL, fz, allP, Ob.tr, loadA, cellsA, SV.cells, binA, binI, eqOut, isSl, isPt, natOf, callee, snap, SV.refsL, SV.refs, thaw, fzAll, loA, hiA, elemOf, partsA, buildA, putCells, ↓reduceIte, reduceCtorEq, okCell, Nat.reduceAdd, Nat.reduceEqDiff, Nat.reduceSub, Nat.reduceMul, Nat.reduceLeDiff, Nat.reduceLT, Nat.reduceBEq, PV.scal, PV.scalL, SV.scal, SV.scalL, Ob.scal, PV.isCell, pure', resO]
    have ht : (restL c s).take i = restL c s := by rw [he, ← restL_len c s]; exact List.take_length
    refine finA_gen [7] trivial (by simp [retA, rvA, mkE_cons, mk_nil, mkO_cons, mkO_nil, loadA, SV.tr, SV.trL, nmF, rn_nil, rn_cons1, rn_cons2, plainOb, SV.refsL, SV.refs, Ob.refs, X, F, List.range_succ, mkO, setO_mk]; rfl) ?_ ?_ ?_ ?_ ?_ ?_ ?_ <;> simp [ht, retA, rvA, mkE_cons, mk_nil, mkO_cons, mkO_nil, loadA, SV.tr, SV.trL, nmF, rn_nil, rn_cons1, rn_cons2, plainOb, SV.refsL, SV.refs, Ob.refs, X, F, List.range_succ, mkO, setO_mk]
/-- Numbers, and behind them others, each one place further. -/
def movF (a b : List Int) (j : Nat) : Int := if j = 0 then a.getD 0 0 else a.getD j 0 + b.getD (j - 1) 0
def movL (a b : List Int) : List Int := (List.range a.length).map (movF a b)
theorem movL_len (a b : List Int) : (movL a b).length = a.length := by simp [movL]
theorem fill_1 (a b : List Int) (h : 1 ≤ a.length) : fillL (movF a b) a 1 = a := by
  cases a with
  | nil => simp at h
  | cons x r => simp [fillL, movF]
def a_moved (f_Clone : FuncId) : AFn := ⟨2, 
  .seq (.reg [⟨some 4, none, .d (.mv (.c (.nilsl)))⟩])
  (.seq (.reg [⟨some 7, none, .d (.mv (.t 0))⟩,
    ⟨some 8, none, .w (.callL (.f f_Clone) [(.t 7)] [] 1 false)⟩,
    ⟨some 5, none, .d (.mv (.t 8))⟩])
  (.seq (.seq (.reg [⟨some 6, none, .d (.mv (.c (.int .i64 1)))⟩])
  (.block 0 (.loop (.seq (.seq (.reg [⟨some 9, none, .d (.mv (.t 6))⟩,
      ⟨some 10, none, .d (.mv (.t 5))⟩,
      ⟨some 11, none, .d (.len (.t 10))⟩,
      ⟨some 12, none, .d (.bin .arith .lss (.t 9) (.t 11))⟩])
    (.cond (.t 12) (.skip) (.exit 0)))
    (.seq (.block 1 (.dreg [] [([], ⟨some 15, none, .d (.mv (.t 5))⟩),
       ([], ⟨some 16, none, .d (.mv (.t 6))⟩),
       ([], ⟨some 17, none, .d (.ia 1 (.t 15) (.t 16))⟩),
       ([], ⟨some 18, none, .d (.load false 1 (.t 17))⟩),
       ([], ⟨some 19, none, .d (.mv (.t 1))⟩),
       ([], ⟨some 20, none, .d (.mv (.t 6))⟩),
       ([], ⟨some 21, none, .d (.bin .arith .sub (.t 20) (.c (.int .i64 1)))⟩),
       ([], ⟨some 22, none, .d (.ia 1 (.t 19) (.t 21))⟩),
       ([], ⟨some 23, none, .d (.load false 1 (.t 22))⟩)] [⟨some 24, none, .d (.bin .arith .add (.t 18) (.t 23))⟩,
       ⟨some 25, none, .d (.ia 1 (.t 15) (.t 16))⟩,
       ⟨none, none, .w (.store 1 (.t 25) (.t 24))⟩]))
    (.reg [⟨some 13, none, .d (.mv (.t 6))⟩,
      ⟨some 14, none, .d (.bin .arith .add (.t 13) (.c (.int .i64 1)))⟩,
      ⟨some 6, none, .d (.mv (.t 14))⟩]))))))
  (.seq (.reg [⟨some 26, none, .d (.mv (.t 5))⟩,
    ⟨some 4, none, .d (.mv (.t 26))⟩])
  (.ret)))), [.tmp 4]⟩
def n_moved : Nat → Option Ann := fun d => if d = 8 then some ⟨[], 1, false⟩ else none
abbrev k_moved : List Nat := [0, 1, 4, 5, 6, 12]
abbrev o_moved : List Nat := [8]
def c_moved : Con := pure' fun
  | [.p (.sl 1 a_), .p (.sl 1 b_)] => if isI a_ = true ∧ isI b_ = true ∧ ((ofI a_).length ≤ 1100000 ∧ 1 ≤ (ofI a_).length ∧ (ofI b_).length = (ofI a_).length ∧ bd 100000 (ofI a_) = true ∧ bd 100000 (ofI b_) = true) then some (.ar 2000000, [.arr 1 (ints (movL (ofI a_) (ofI b_)))]) else none
  | _ => none
theorem s_moved {P : Program} (hm : P.follows .mixedOrders = true) {Γ : Gam} (hΓ : GS P Γ) {n : FuncId} {f_Clone : FuncId} (is : Is P n (a_moved f_Clone)) (h_Clone : Γ f_Clone = c_Clone)  : Says P n c_moved := by
  refine Says.pure fun args r fs h => ?_
  split at h
  case h_2 => cases h
  rename_i a_ b_
  split at h
  case isFalse => cases h
  rename_i hc
  obtain ⟨ha_, hc⟩ := hc
  obtain ⟨a, rfl⟩ := isI_out ha_
  obtain ⟨hb_, hc⟩ := hc
  obtain ⟨b, rfl⟩ := isI_out hb_
  simp only [ofI_ints, ofBo_bools, ofAs_asks, Option.some.injEq, Prod.mk.injEq] at h hc
  obtain ⟨rfl, rfl⟩ := h
  obtain ⟨h0, h1l, hl, hba, hbb⟩ := hc
  refine is.go hm hΓ k_moved o_moved (by simp [a_moved]) ?_
  simp only [a_moved, h_Clone, c_Clone, h0, List.zipIdx_cons, List.zipIdx_nil, ↓SP, SQ, Gam.add, stepM, callC, argC, lendO, nmBy, nmC, likeL, likeB, plainOb, offs, exL, X, F, trP, trO, stepD, stepW, newA, SV.tr, SV.trL, fz, allP, Ob.tr, loadA, cellsA, SV.cells, binA, binI, eqOut, isSl, isPt, natOf, callee, snap, SV.refsL, SV.refs, thaw, fzAll, loA, hiA, elemOf, partsA, buildA, putCells, ↓reduceIte, reduceCtorEq, okCell, Nat.reduceAdd, Nat.reduceEqDiff, Nat.reduceSub, Nat.reduceMul, Nat.reduceLeDiff, Nat.reduceLT, Nat.reduceBEq, PV.scal, PV.scalL, SV.scal, SV.scalL, Ob.scal, PV.isCell, pure', resO]
  refine loop_at (fun st : Nat × SV => mkEnv [(0, .p (.sl 1 (ints a))), (1, .p (.sl 1 (ints b))), (4, .p .nilsl), (5, .ar 8), (6, si st.1), (12, st.2)]) (fun st => mkO [(8, some (.arr 1 (ints (fillL (movF a b) a st.1))))]) (fun st => 1 ≤ st.1 ∧ st.1 ≤ a.length) (fun st => a.length - st.1) (1, .junk) (by simp only; omega) rfl (by simp only [fill_1 a b h1l]) ?_
  rintro ⟨i, k1⟩ ⟨hi1, hi⟩ R hR hN
  simp only at hi1 hi
  have hfl := fill_len (movF a b) a hi
  by_cases h : i < a.length
  · have h1 : (i : Int) < a.length := by omega
    have hw := wrap_one (i := i) (by omega)
    have hw2 : IntKind.i64.wrap ((i : Int) - 1) = ((i - 1 : Nat) : Int) := by rw [wrap64 (by omega) (by omega)]; omega
    have hg : (ints (fillL (movF a b) a i))[i]? = some (.int .i64 (a.getD i 0)) := by rw [ints_get (by omega), fill_get _ _ _ h]
    have hg2 := ints_get (l := b) (i := i - 1) (by omega)
    have hb1 := bd_get hba (by omega) i
    have hb2 := bd_get hbb (by omega) (i - 1)
    have hws : IntKind.i64.wrap (a.getD i 0 + b.getD (i - 1) 0) = a.getD i 0 + b.getD (i - 1) 0 := wrap64 (by omega) (by omega)
    have hs : (fillL (movF a b) a i).set i (a.getD i 0 + b.getD (i - 1) 0) = fillL (movF a b) a (i + 1) := fill_set _ _ h (by simp only [movF]; rw [if_neg (by omega)])
    simp only [h, h1, hw, hw2, hg, hg2, hws, hfl, ints_set, hs, ↓SP, SQ, Gam.add, stepM, callC, argC, lendO, nmBy, nmC, likeL, likeB, plainOb, offs, exL, X, F, trP, trO, stepD, stepW, newA, SV.tr, SV.trL, fz, allP, Ob.tr, loadA, cellsA, SV.cells, binA, binI, eqOut, isSl, isPt, natOf, callee, snap, SV.refsL, SV.refs, thaw, fzAll, loA, hiA, elemOf, partsA, buildA, putCells, ↓reduceIte, reduceCtorEq, okCell, Nat.reduceAdd, Nat.reduceEqDiff, Nat.reduceSub, Nat.reduceMul, Nat.reduceLeDiff, Nat.reduceLT, Nat.reduceBEq, PV.scal, PV.scalL, SV.scal, SV.scalL, Ob.scal, PV.isCell, pure', resO]
    exact hN (i + 1, _) _ _ (by simp only; omega) (by simp only; omega) rfl rfl
  · have he : i = a.length := by omega
    have h1 : ¬ (i : Int) < a.length := by omega
    simp only [h1, hfl, ↓SP, SQ, Gam.add, stepM, callC, argC, lendO, nmBy, nmC, likeL, likeB, plainOb, offs, exL, X, F, trP, trO, stepD, stepW, newA, SV.tr, SV.trL, fz, allP, Ob.tr, loadA, cellsA, SV.cells, binA, binI, eqOut, isSl, isPt, natOf, callee, snap, SV.refsL, SV.refs, thaw, fzAll, loA, hiA, elemOf, partsA, buildA, putCells, ↓reduceIte, reduceCtorEq, okCell, Nat.reduceAdd, Nat.reduceEqDiff, Nat.reduceSub, Nat.reduceMul, Nat.reduceLeDiff, Nat.reduceLT, Nat.reduceBEq, PV.scal, PV.scalL, SV.scal, SV.scalL, Ob.scal, PV.isCell, pure', resO]
    refine hR _ _ _ (by intro h; cases h) ?_
    simp only [↓SP, SQ, Gam.add, stepM, callC, argC, lendO, nmBy, nmC, likeL, likeB, plainOb, offs, exL, X, F, trP, trO, stepD, stepW, newA, SV.tr, SV.trL, fz, allP, Ob.tr, loadA, cellsA, SV.cells, binA, binI, eqOut, isSl, isPt, natOf, callee, snap, SV.refsL, SV.refs, thaw, fzAll, loA, hiA, elemOf, partsA, buildA, putCells, ↓reduceIte, reduceCtorEq, okCell, Nat.reduceAdd, Nat.reduceEqDiff, Nat.reduceSub, Nat.reduceMul, Nat.reduceLeDiff, Nat.reduceLT, Nat.reduceBEq, PV.scal, PV.scalL, SV.scal, SV.scalL, Ob.scal, PV.isCell, pure', resO]
    subst he
    have hfe : fillL (movF a b) a a.length = movL a b := fill_end _ _
    refine finA_gen [8] trivial (by simp [retA, rvA, mkE_cons, mk_nil, mkO_cons, mkO_nil, loadA, SV.tr, SV.trL, nmF, rn_nil, rn_cons1, rn_cons2, plainOb, SV.refsL, SV.refs, Ob.refs, X, F, List.range_succ, mkO, setO_mk]; rfl) ?_ ?_ ?_ ?_ ?_ ?_ ?_ <;> simp [hfe, retA, rvA, mkE_cons, mk_nil, mkO_cons, mkO_nil, loadA, SV.tr, SV.trL, nmF, rn_nil, rn_cons1, rn_cons2, plainOb, SV.refsL, SV.refs, Ob.refs, X, F, List.range_succ, mkO, setO_mk]
/-- The counts to which yes and no lead. -/
def yesL (c s : List Int) : List Int := movL s (restL c s)
def noL (c s : List Int) : List Int := movL (restL c s) s
theorem restL_rest {c s : List Int} (h : s.length = c.length) : restL c (restL c s) = s := by
  apply List.ext_getElem
  · simp [restL]
  · intro j h1 h2
    have hj : j < s.length := h2
    have e1 : (restL c (restL c s)).getD j 0 = s.getD j 0 := by rw [restL_get (by rw [restL_len]; exact hj), restL_get hj]; omega
    rw [getD_lt h1, getD_lt h2] at e1
    exact e1
theorem yesL_len (c s : List Int) : (yesL c s).length = s.length := movL_len _ _
theorem noL_len (c s : List Int) : (noL c s).length = s.length := by rw [noL, movL_len, restL_len]
def a_l4Yes (f_l4Rest : FuncId) (f_l1Own : FuncId) : AFn := ⟨2, 
  .seq (.reg [⟨some 4, none, .d (.mv (.c (.nilsl)))⟩])
  (.seq (.reg [⟨some 8, none, .d (.mv (.t 0))⟩,
    ⟨some 9, none, .d (.mv (.t 1))⟩,
    ⟨some 10, none, .d (.call (.f f_l4Rest) [(.t 8), (.t 9)])⟩,
    ⟨some 11, none, .d (.mv (.t 1))⟩,
    ⟨some 12, none, .w (.callL (.f f_l1Own) [(.t 11)] [] 1 false)⟩,
    ⟨some 5, none, .d (.mv (.t 10))⟩,
    ⟨some 6, none, .d (.mv (.t 12))⟩])
  (.seq (.seq (.reg [⟨some 7, none, .d (.mv (.c (.int .i64 1)))⟩])
  (.block 0 (.loop (.seq (.seq (.reg [⟨some 13, none, .d (.mv (.t 7))⟩,
      ⟨some 14, none, .d (.mv (.t 6))⟩,
      ⟨some 15, none, .d (.len (.t 14))⟩,
      ⟨some 16, none, .d (.bin .arith .lss (.t 13) (.t 15))⟩])
    (.cond (.t 16) (.skip) (.exit 0)))
    (.seq (.block 1 (.dreg [] [([], ⟨some 19, none, .d (.mv (.t 6))⟩),
       ([], ⟨some 20, none, .d (.mv (.t 7))⟩),
       ([], ⟨some 21, none, .d (.mv (.t 6))⟩),
       ([], ⟨some 22, none, .d (.mv (.t 7))⟩),
       ([], ⟨some 23, none, .d (.ia 1 (.t 21) (.t 22))⟩),
       ([], ⟨some 24, none, .d (.load false 1 (.t 23))⟩),
       ([], ⟨some 25, none, .d (.mv (.t 5))⟩),
       ([], ⟨some 26, none, .d (.mv (.t 7))⟩),
       ([], ⟨some 27, none, .d (.bin .arith .sub (.t 26) (.c (.int .i64 1)))⟩),
       ([], ⟨some 28, none, .d (.ia 1 (.t 25) (.t 27))⟩),
       ([], ⟨some 29, none, .d (.load false 1 (.t 28))⟩),
       ([], ⟨some 30, none, .d (.bin .arith .add (.t 24) (.t 29))⟩)] [⟨some 31, none, .d (.ia 1 (.t 19) (.t 20))⟩,
       ⟨none, none, .w (.store 1 (.t 31) (.t 30))⟩]))
    (.reg [⟨some 17, none, .d (.mv (.t 7))⟩,
      ⟨some 18, none, .d (.bin .arith .add (.t 17) (.c (.int .i64 1)))⟩,
      ⟨some 7, none, .d (.mv (.t 18))⟩]))))))
  (.seq (.reg [⟨some 32, none, .d (.mv (.t 6))⟩,
    ⟨some 4, none, .d (.mv (.t 32))⟩])
  (.ret)))), [.tmp 4]⟩
def n_l4Yes : Nat → Option Ann := fun d => if d = 12 then some ⟨[], 1, false⟩ else none
abbrev k_l4Yes : List Nat := [0, 1, 4, 5, 6, 7, 16]
abbrev o_l4Yes : List Nat := [12]
def c_l4Yes : Con := pure' fun
  | [.p (.sl 1 c_), .p (.sl 1 s_)] => if isI c_ = true ∧ isI s_ = true ∧ ((ofI c_).length ≤ 1100000 ∧ 1 ≤ (ofI c_).length ∧ (ofI s_).length = (ofI c_).length ∧ bd 10000 (ofI c_) = true ∧ bd 10000 (ofI s_) = true) then some (.ar 2000000, [.arr 1 (ints (yesL (ofI c_) (ofI s_)))]) else none
  | _ => none
theorem bd_mono {k k' : Int} {l : List Int} (h : bd k l = true) (h0 : 0 ≤ k) (hk : k ≤ k') : bd k' l = true := bd_of fun j _ => by have := bd_get h h0 j; omega
theorem s_l4Yes {P : Program} (hm : P.follows .mixedOrders = true) {Γ : Gam} (hΓ : GS P Γ) {n : FuncId} {f_l4Rest : FuncId} {f_l1Own : FuncId} (is : Is P n (a_l4Yes f_l4Rest f_l1Own)) (h_l4Rest : Γ f_l4Rest = c_left) (h_l1Own : Γ f_l1Own = c_Clone)  : Says P n c_l4Yes := by
  refine Says.pure fun args r fs h => ?_
  split at h
  case h_2 => cases h
  rename_i c_ s_
  split at h
  case isFalse => cases h
  rename_i hc
  obtain ⟨hc_, hc⟩ := hc
  obtain ⟨c, rfl⟩ := isI_out hc_
  obtain ⟨hs_, hc⟩ := hc
  obtain ⟨s, rfl⟩ := isI_out hs_
  simp only [ofI_ints, ofBo_bools, ofAs_asks, Option.some.injEq, Prod.mk.injEq] at h hc
  obtain ⟨rfl, rfl⟩ := h
  obtain ⟨h0, h1l, hl, hbc, hbs⟩ := hc
  have h0s : s.length ≤ 1100000 := by omega
  have hbr := restL_bd (k' := 100000) hbc hbs (by omega) (by omega)
  have hrl := restL_len c s
  refine is.go hm hΓ k_l4Yes o_l4Yes (by simp [a_l4Yes]) ?_
  simp only [a_l4Yes, h_l4Rest, c_left, h_l1Own, c_Clone, h0, h0s, hl, hbc, hbs, hrl, List.zipIdx_cons, List.zipIdx_nil, ↓SP, SQ, Gam.add, stepM, callC, argC, lendO, nmBy, nmC, likeL, likeB, plainOb, offs, exL, X, F, trP, trO, stepD, stepW, newA, SV.tr, SV.trL, fz, allP, Ob.tr, loadA, cellsA, SV.cells, binA, binI, eqOut, isSl, isPt, natOf, callee, snap, SV.refsL, SV.refs, thaw, fzAll, loA, hiA, elemOf, partsA, buildA, putCells, ↓reduceIte, reduceCtorEq, okCell, Nat.reduceAdd, Nat.reduceEqDiff, Nat.reduceSub, Nat.reduceMul, Nat.reduceLeDiff, Nat.reduceLT, Nat.reduceBEq, PV.scal, PV.scalL, SV.scal, SV.scalL, Ob.scal, PV.isCell, pure', resO]
  refine loop_at (fun st : Nat × SV => mkEnv [(0, .p (.sl 1 (ints c))), (1, .p (.sl 1 (ints s))), (4, .p .nilsl), (5, .p (.sl 1 (ints (restL c s)))), (6, .ar 12), (7, si st.1), (16, st.2)]) (fun st => mkO [(12, some (.arr 1 (ints (fillL (movF s (restL c s)) s st.1))))]) (fun st => 1 ≤ st.1 ∧ st.1 ≤ s.length) (fun st => s.length - st.1) (1, .junk) (by simp only; omega) (by simp) (by simp only [fill_1 s _ (by omega : 1 ≤ s.length)]) ?_
  rintro ⟨i, k1⟩ ⟨hi1, hi⟩ R hR hN
  simp only at hi1 hi
  have hfl := fill_len (movF s (restL c s)) s hi
  by_cases h : i < s.length
  · have h1 : (i : Int) < s.length := by omega
    have hw := wrap_one (i := i) (by omega)
    have hw2 : IntKind.i64.wrap ((i : Int) - 1) = ((i - 1 : Nat) : Int) := by rw [wrap64 (by omega) (by omega)]; omega
    have hg : (ints (fillL (movF s (restL c s)) s i))[i]? = some (.int .i64 (s.getD i 0)) := by rw [ints_get (by omega), fill_get _ _ _ h]
    have hg2 := ints_get (l := restL c s) (i := i - 1) (by omega)
    have hb1 := bd_get hbs (by omega) i
    have hb2 := bd_get hbr (by omega) (i - 1)
    have hws : IntKind.i64.wrap (s.getD i 0 + (restL c s).getD (i - 1) 0) = s.getD i 0 + (restL c s).getD (i - 1) 0 := wrap64 (by omega) (by omega)
    have hs : (fillL (movF s (restL c s)) s i).set i (s.getD i 0 + (restL c s).getD (i - 1) 0) = fillL (movF s (restL c s)) s (i + 1) := fill_set _ _ h (by simp only [movF]; rw [if_neg (by omega)])
    simp only [h, h1, hw, hw2, hg, hg2, hws, hfl, ints_set, hs, ↓SP, SQ, Gam.add, stepM, callC, argC, lendO, nmBy, nmC, likeL, likeB, plainOb, offs, exL, X, F, trP, trO, stepD, stepW, newA, SV.tr, SV.trL, fz, allP, Ob.tr, loadA, cellsA, SV.cells, binA, binI, eqOut, isSl, isPt, natOf, callee, snap, SV.refsL, SV.refs, thaw, fzAll, loA, hiA, elemOf, partsA, buildA, putCells, ↓reduceIte, reduceCtorEq, okCell, Nat.reduceAdd, Nat.reduceEqDiff, Nat.reduceSub, Nat.reduceMul, Nat.reduceLeDiff, Nat.reduceLT, Nat.reduceBEq, PV.scal, PV.scalL, SV.scal, SV.scalL, Ob.scal, PV.isCell, pure', resO]
    exact hN (i + 1, _) _ _ (by simp only; omega) (by simp only; omega) rfl rfl
  · have he : i = s.length := by omega
    have h1 : ¬ (i : Int) < s.length := by omega
    simp only [h1, hfl, ↓SP, SQ, Gam.add, stepM, callC, argC, lendO, nmBy, nmC, likeL, likeB, plainOb, offs, exL, X, F, trP, trO, stepD, stepW, newA, SV.tr, SV.trL, fz, allP, Ob.tr, loadA, cellsA, SV.cells, binA, binI, eqOut, isSl, isPt, natOf, callee, snap, SV.refsL, SV.refs, thaw, fzAll, loA, hiA, elemOf, partsA, buildA, putCells, ↓reduceIte, reduceCtorEq, okCell, Nat.reduceAdd, Nat.reduceEqDiff, Nat.reduceSub, Nat.reduceMul, Nat.reduceLeDiff, Nat.reduceLT, Nat.reduceBEq, PV.scal, PV.scalL, SV.scal, SV.scalL, Ob.scal, PV.isCell, pure', resO]
    refine hR _ _ _ (by intro h; cases h) ?_
    simp only [↓SP, SQ, Gam.add, stepM, callC, argC, lendO, nmBy, nmC, likeL, likeB, plainOb, offs, exL, X, F, trP, trO, stepD, stepW, newA, SV.tr, SV.trL, fz, allP, Ob.tr, loadA, cellsA, SV.cells, binA, binI, eqOut, isSl, isPt, natOf, callee, snap, SV.refsL, SV.refs, thaw, fzAll, loA, hiA, elemOf, partsA, buildA, putCells, ↓reduceIte, reduceCtorEq, okCell, Nat.reduceAdd, Nat.reduceEqDiff, Nat.reduceSub, Nat.reduceMul, Nat.reduceLeDiff, Nat.reduceLT, Nat.reduceBEq, PV.scal, PV.scalL, SV.scal, SV.scalL, Ob.scal, PV.isCell, pure', resO]
    subst he
    have hfe : fillL (movF s (restL c s)) s s.length = yesL c s := fill_end _ _
    refine finA_gen [12] trivial (by simp [retA, rvA, mkE_cons, mk_nil, mkO_cons, mkO_nil, loadA, SV.tr, SV.trL, nmF, rn_nil, rn_cons1, rn_cons2, plainOb, SV.refsL, SV.refs, Ob.refs, X, F, List.range_succ, mkO, setO_mk]; rfl) ?_ ?_ ?_ ?_ ?_ ?_ ?_ <;> simp [hfe, retA, rvA, mkE_cons, mk_nil, mkO_cons, mkO_nil, loadA, SV.tr, SV.trL, nmF, rn_nil, rn_cons1, rn_cons2, plainOb, SV.refsL, SV.refs, Ob.refs, X, F, List.range_succ, mkO, setO_mk]
def a_l4No (f_l4Rest : FuncId) (f_l4Yes : FuncId) : AFn := ⟨2, 
  .seq (.reg [⟨some 4, none, .d (.mv (.c (.nilsl)))⟩])
  (.seq (.reg [⟨some 5, none, .d (.mv (.t 0))⟩,
    ⟨some 6, none, .d (.mv (.t 0))⟩,
    ⟨some 7, none, .d (.mv (.t 1))⟩,
    ⟨some 8, none, .d (.call (.f f_l4Rest) [(.t 6), (.t 7)])⟩,
    ⟨some 9, none, .w (.callL (.f f_l4Yes) [(.t 5), (.t 8)] [] 1 false)⟩,
    ⟨some 4, none, .d (.mv (.t 9))⟩])
  (.ret)), [.tmp 4]⟩
def n_l4No : Nat → Option Ann := fun d => if d = 9 then some ⟨[], 1, false⟩ else none
abbrev k_l4No : List Nat := [0, 1, 4]
abbrev o_l4No : List Nat := [9]
def c_l4No : Con := pure' fun
  | [.p (.sl 1 c_), .p (.sl 1 s_)] => if isI c_ = true ∧ isI s_ = true ∧ ((ofI c_).length ≤ 1100000 ∧ 1 ≤ (ofI c_).length ∧ (ofI s_).length = (ofI c_).length ∧ bd 1000 (ofI c_) = true ∧ bd 1000 (ofI s_) = true) then some (.ar 2000000, [.arr 1 (ints (noL (ofI c_) (ofI s_)))]) else none
  | _ => none
theorem s_l4No {P : Program} (hm : P.follows .mixedOrders = true) {Γ : Gam} (hΓ : GS P Γ) {n : FuncId} {f_l4Rest : FuncId} {f_l4Yes : FuncId} (is : Is P n (a_l4No f_l4Rest f_l4Yes)) (h_l4Rest : Γ f_l4Rest = c_left) (h_l4Yes : Γ f_l4Yes = c_l4Yes)  : Says P n c_l4No := by
  refine Says.pure fun args r fs h => ?_
  split at h
  case h_2 => cases h
  rename_i c_ s_
  split at h
  case isFalse => cases h
  rename_i hc
  obtain ⟨hc_, hc⟩ := hc
  obtain ⟨c, rfl⟩ := isI_out hc_
  obtain ⟨hs_, hc⟩ := hc
  obtain ⟨s, rfl⟩ := isI_out hs_
  simp only [ofI_ints, ofBo_bools, ofAs_asks, Option.some.injEq, Prod.mk.injEq] at h hc
  obtain ⟨rfl, rfl⟩ := h
  obtain ⟨h0, h1l, hl, hbc, hbs⟩ := hc
  have hbr := restL_bd (k' := 10000) hbc hbs (by omega) (by omega)
  have hbc2 := bd_mono (k' := 10000) hbc (by omega) (by omega)
  have hbs2 := bd_mono (k' := 10000) hbs (by omega) (by omega)
  have hrl := restL_len c s
  have hrl2 : (restL c s).length = c.length := by rw [hrl, hl]
  have hyn : yesL c (restL c s) = noL c s := by rw [yesL, restL_rest hl, noL]
  refine is.go hm hΓ k_l4No o_l4No (by simp [a_l4No]) ?_
  simp only [a_l4No, h_l4Rest, c_left, h_l4Yes, c_l4Yes, h0, h1l, hl, hbc2, hbs2, hbr, hrl2, hyn, List.zipIdx_cons, List.zipIdx_nil, ↓SP, SQ, Gam.add, stepM, callC, argC, lendO, nmBy, nmC, likeL, likeB, plainOb, offs, exL, X, F, trP, trO, stepD, stepW, newA, SV.tr, SV.trL, fz, allP, Ob.tr, loadA, cellsA, SV.cells, binA, binI, eqOut, isSl, isPt, natOf, callee, snap, SV.refsL, SV.refs, thaw, fzAll, loA, hiA, elemOf, partsA, buildA, putCells, ↓reduceIte, reduceCtorEq, okCell, Nat.reduceAdd, Nat.reduceEqDiff, Nat.reduceSub, Nat.reduceMul, Nat.reduceLeDiff, Nat.reduceLT, Nat.reduceBEq, PV.scal, PV.scalL, SV.scal, SV.scalL, Ob.scal, PV.isCell, pure', resO]
  refine finA_gen [9] trivial (by simp [retA, rvA, mkE_cons, mk_nil, mkO_cons, mkO_nil, loadA, SV.tr, SV.trL, nmF, rn_nil, rn_cons1, rn_cons2, plainOb, SV.refsL, SV.refs, Ob.refs, X, F, List.range_succ, mkO, setO_mk]; rfl) ?_ ?_ ?_ ?_ ?_ ?_ ?_ <;> simp [retA, rvA, mkE_cons, mk_nil, mkO_cons, mkO_nil, loadA, SV.tr, SV.trL, nmF, rn_nil, rn_cons1, rn_cons2, plainOb, SV.refsL, SV.refs, Ob.refs, X, F, List.range_succ, mkO, setO_mk]
def c_oneWay : Con := pure' fun
  | [.p (.sl 1 c_), .p (.sl 1 s_)] => if isI c_ = true ∧ isI s_ = true ∧ ((ofI c_).length ≤ 1100000 ∧ 1 ≤ (ofI c_).length ∧ (ofI s_).length = (ofI c_).length ∧ bd 1000 (ofI c_) = true ∧ bd 1000 (ofI s_) = true) then some (.tp [.ar 2000000, .ar 2000001], [.arr 1 (ints (ofI s_)), .arr 1 (ints (noL (ofI c_) (ofI s_)))]) else none
  | _ => none
def a_bothWays (f_left : FuncId) (f_moved : FuncId) : AFn := ⟨2, 
  .seq (.reg [⟨some 4, none, .d (.mv (.c (.nilsl)))⟩,
    ⟨some 5, none, .d (.mv (.c (.nilsl)))⟩])
  (.seq (.reg [⟨some 7, none, .d (.mv (.t 0))⟩,
    ⟨some 8, none, .d (.mv (.t 1))⟩,
    ⟨some 9, none, .d (.call (.f f_left) [(.t 7), (.t 8)])⟩,
    ⟨some 6, none, .d (.mv (.t 9))⟩])
  (.seq (.reg [⟨some 10, none, .d (.mv (.t 1))⟩,
    ⟨some 11, none, .d (.mv (.t 6))⟩,
    ⟨some 12, none, .d (.call (.f f_moved) [(.t 10), (.t 11)])⟩,
    ⟨some 13, none, .d (.mv (.t 6))⟩,
    ⟨some 14, none, .d (.mv (.t 1))⟩,
    ⟨some 15, none, .d (.call (.f f_moved) [(.t 13), (.t 14)])⟩,
    ⟨some 4, none, .d (.mv (.t 12))⟩,
    ⟨some 5, none, .d (.mv (.t 15))⟩])
  (.ret))), [.tmp 4, .tmp 5]⟩
def n_bothWays : Nat → Option Ann := fun _ => none
abbrev k_bothWays : List Nat := [0, 1, 4, 5, 6]
abbrev o_bothWays : List Nat := []
def c_bothWays : Con := pure' fun
  | [.p (.sl 1 c_), .p (.sl 1 s_)] => if isI c_ = true ∧ isI s_ = true ∧ ((ofI c_).length ≤ 1100000 ∧ 1 ≤ (ofI c_).length ∧ (ofI s_).length = (ofI c_).length ∧ bd 1000 (ofI c_) = true ∧ bd 1000 (ofI s_) = true) then some (.tp [.p (.sl 1 (ints (yesL (ofI c_) (ofI s_)))), .p (.sl 1 (ints (noL (ofI c_) (ofI s_))))], []) else none
  | _ => none
theorem s_bothWays {P : Program} (hm : P.follows .mixedOrders = true) {Γ : Gam} (hΓ : GS P Γ) {n : FuncId} {f_left : FuncId} {f_moved : FuncId} (is : Is P n (a_bothWays f_left f_moved)) (h_left : Γ f_left = c_left) (h_moved : Γ f_moved = c_moved)  : Says P n c_bothWays := by
  refine Says.pure fun args r fs h => ?_
  split at h
  case h_2 => cases h
  rename_i c_ s_
  split at h
  case isFalse => cases h
  rename_i hc
  obtain ⟨hc_, hc⟩ := hc
  obtain ⟨c, rfl⟩ := isI_out hc_
  obtain ⟨hs_, hc⟩ := hc
  obtain ⟨s, rfl⟩ := isI_out hs_
  simp only [ofI_ints, ofBo_bools, ofAs_asks, Option.some.injEq, Prod.mk.injEq] at h hc
  obtain ⟨rfl, rfl⟩ := h
  obtain ⟨h0, h1l, hl, hbc, hbs⟩ := hc
  have hbr := restL_bd (k' := 100000) hbc hbs (by omega) (by omega)
  have hbc2 := bd_mono (k' := 10000) hbc (by omega) (by omega)
  have hbs2 := bd_mono (k' := 10000) hbs (by omega) (by omega)
  have hbs3 := bd_mono (k' := 100000) hbs (by omega) (by omega)
  have hrl := restL_len c s
  have hrl2 : (restL c s).length = c.length := by rw [hrl, hl]
  have hno : movL (restL c s) s = noL c s := rfl
  have hye : movL s (restL c s) = yesL c s := rfl
  refine is.go hm hΓ k_bothWays o_bothWays (by simp [a_bothWays]) ?_
  simp only [a_bothWays, h_left, c_left, h_moved, c_moved, h0, h1l, hl, hbc2, hbs2, hbs3, hbr, hrl2, hno, hye, List.zipIdx_cons, List.zipIdx_nil, ↓SP, SQ, Gam.add, stepM, callC, argC, lendO, nmBy, nmC, likeL, likeB, plainOb, offs, exL, X, F, trP, trO, stepD, stepW, newA, SV.tr, SV.trL, fz, allP, Ob.tr, loadA, cellsA, SV.cells, binA, binI, eqOut, isSl, isPt, natOf, callee, snap, SV.refsL, SV.refs, thaw, fzAll, loA, hiA, elemOf, partsA, buildA, putCells, ↓reduceIte, reduceCtorEq, okCell, Nat.reduceAdd, Nat.reduceEqDiff, Nat.reduceSub, Nat.reduceMul, Nat.reduceLeDiff, Nat.reduceLT, Nat.reduceBEq, PV.scal, PV.scalL, SV.scal, SV.scalL, Ob.scal, PV.isCell, pure', resO]
  exact finA_val (by simp [retA, rvA, mkE_cons, mk_nil, mkO_cons, mkO_nil, loadA, SV.tr, SV.trL, nmF, rn_nil, rn_cons1, rn_cons2, plainOb, SV.refsL, SV.refs, Ob.refs, X, F, List.range_succ, mkO, setO_mk]) (by simp [SV.tr, SV.trL])
end Go.Proofs.Ytihpfhdkjlphhaa.Pam
