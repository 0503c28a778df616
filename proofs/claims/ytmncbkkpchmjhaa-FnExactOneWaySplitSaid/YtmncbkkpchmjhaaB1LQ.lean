/- A part of the proof that stands in this folder: a small machine whose steps are shown to be the steps of the model, or walks of functions by it. No condition of its own. -/
import Derived.Test.YtmncbkkpchmjhaaPamZ
import Derived.Test.YtmncbkkpchmjhaaPamT3
set_option linter.unusedVariables false
set_option linter.unusedSimpArgs false
namespace Go.Proofs.Ytmncbkkpchmjhaa.Pam
open Go
def a_in : AFn := ⟨3, 
  .seq (.reg [⟨some 6, none, .d (.mv (.c (.bool false)))⟩])
  (.seq (.reg [⟨some 7, none, .d (.mv (.t 1))⟩,
    ⟨some 8, none, .d (.mv (.t 0))⟩,
    ⟨some 9, none, .d (.bin .arith .leq (.t 7) (.t 8))⟩,
    ⟨some 10, none, .d (.mv (.t 9))⟩,
    ⟨some 11, some (10, true), .d (.mv (.t 0))⟩,
    ⟨some 12, some (10, true), .d (.mv (.t 2))⟩,
    ⟨some 13, some (10, true), .d (.bin .arith .leq (.t 11) (.t 12))⟩,
    ⟨some 14, none, .d (.pick (.t 10) (.t 13) (.c (.bool false)))⟩,
    ⟨some 6, none, .d (.mv (.t 14))⟩])
  (.ret)), [.tmp 6]⟩
def n_in : Nat → Option Ann := fun _ => none
abbrev k_in : List Nat := [0, 1, 2, 6]
abbrev o_in : List Nat := []
def a_l1In : AFn := ⟨3, 
  .seq (.reg [⟨some 6, none, .d (.mv (.c (.bool false)))⟩])
  (.seq (.reg [⟨some 7, none, .d (.mv (.t 0))⟩,
    ⟨some 8, none, .d (.mv (.t 1))⟩,
    ⟨some 9, none, .d (.bin .arith .geq (.t 7) (.t 8))⟩,
    ⟨some 10, none, .d (.mv (.t 9))⟩,
    ⟨some 11, some (10, true), .d (.mv (.t 0))⟩,
    ⟨some 12, some (10, true), .d (.mv (.t 2))⟩,
    ⟨some 13, some (10, true), .d (.bin .arith .leq (.t 11) (.t 12))⟩,
    ⟨some 14, none, .d (.pick (.t 10) (.t 13) (.c (.bool false)))⟩,
    ⟨some 6, none, .d (.mv (.t 14))⟩])
  (.ret)), [.tmp 6]⟩
def n_l1In : Nat → Option Ann := fun _ => none
abbrev k_l1In : List Nat := [0, 1, 2, 6]
abbrev o_l1In : List Nat := []
def c_in : Con := pure' fun
  | [.p (.int .i64 x), .p (.int .i64 a), .p (.int .i64 b)] => if (True) then some (.p (.bool (decide (a ≤ x) && decide (x ≤ b))), []) else none
  | _ => none
theorem s_in {P : Program} (hm : P.follows .mixedOrders = true) {Γ : Gam} (hΓ : GS P Γ) {n : FuncId} (is : Is P n a_in)  : Says P n c_in := by
  refine Says.pure fun args r fs h => ?_
  split at h
  case h_2 => cases h
  rename_i x a b
  split at h
  case isFalse => cases h
  rename_i hc
  simp only [ofI_ints, ofBo_bools, ofAs_asks, Option.some.injEq, Prod.mk.injEq] at h hc
  obtain ⟨rfl, rfl⟩ := h
  refine is.go hm hΓ k_in o_in (by simp [a_in]) ?_
  simp only [a_in, List.zipIdx_cons, List.zipIdx_nil, ↓SP, SQ, Gam.add, stepM, callC, argC, lendO, nmBy, nmC, likeL, likeB, plainOb, offs, exL, X, F, trP, trO, stepD, stepW, newA, SV.tr, SV.trL, fz, allP, Ob.tr, loadA, cellsA, SV.cells, binA, binI, eqOut, isSl, isPt, natOf, callee, snap, SV.refsL, SV.refs, thaw, fzAll, loA, hiA, elemOf, partsA, buildA, putCells, ↓reduceIte, reduceCtorEq, okCell, Nat.reduceAdd, Nat.reduceEqDiff, Nat.reduceSub, Nat.reduceMul, Nat.reduceLeDiff, Nat.reduceLT, Nat.reduceBEq, PV.scal, PV.scalL, SV.scal, SV.scalL, Ob.scal, PV.isCell, pure', resO]
  cases decide (a ≤ x) <;> simp only [↓SP, SQ, Gam.add, stepM, callC, argC, lendO, nmBy, nmC, likeL, likeB, plainOb, offs, exL, X, F, trP, trO, stepD, stepW, newA, SV.tr, SV.trL, fz, allP, Ob.tr, loadA, cellsA, SV.cells, binA, binI, eqOut, isSl, isPt, natOf, callee, snap, SV.refsL, SV.refs, thaw, fzAll, loA, hiA, elemOf, partsA, buildA, putCells, ↓reduceIte, reduceCtorEq, okCell, Nat.reduceAdd, Nat.reduceEqDiff, Nat.reduceSub, Nat.reduceMul, Nat.reduceLeDiff, Nat.reduceLT, Nat.reduceBEq, PV.scal, PV.scalL, SV.scal, SV.scalL, Ob.scal, PV.isCell, pure', resO] <;> exact finA_val (by simp [retA, rvA, mkE_cons, mk_nil, mkO_cons, mkO_nil, loadA, SV.tr, SV.trL, nmF, rn_nil, rn_cons1, rn_cons2, plainOb, SV.refsL, SV.refs, Ob.refs, X, F, List.range_succ, mkO, setO_mk]) (by simp [SV.tr])
theorem s_l1In {P : Program} (hm : P.follows .mixedOrders = true) {Γ : Gam} (hΓ : GS P Γ) {n : FuncId} (is : Is P n a_l1In)  : Says P n c_in := by
  refine Says.pure fun args r fs h => ?_
  split at h
  case h_2 => cases h
  rename_i x a b
  split at h
  case isFalse => cases h
  rename_i hc
  simp only [ofI_ints, ofBo_bools, ofAs_asks, Option.some.injEq, Prod.mk.injEq] at h hc
  obtain ⟨rfl, rfl⟩ := h
  refine is.go hm hΓ k_l1In o_l1In (by simp [a_l1In]) ?_
  simp only [a_l1In, List.zipIdx_cons, List.zipIdx_nil, ↓SP, SQ, Gam.add, stepM, callC, argC, lendO, nmBy, nmC, likeL, likeB, plainOb, offs, exL, X, F, trP, trO, stepD, stepW, newA, SV.tr, SV.trL, fz, allP, Ob.tr, loadA, cellsA, SV.cells, binA, binI, eqOut, isSl, isPt, natOf, callee, snap, SV.refsL, SV.refs, thaw, fzAll, loA, hiA, elemOf, partsA, buildA, putCells, ↓reduceIte, reduceCtorEq, okCell, Nat.reduceAdd, Nat.reduceEqDiff, Nat.reduceSub, Nat.reduceMul, Nat.reduceLeDiff, Nat.reduceLT, Nat.reduceBEq, PV.scal, PV.scalL, SV.scal, SV.scalL, Ob.scal, PV.isCell, pure', resO]
  cases decide (a ≤ x) <;> simp only [↓SP, SQ, Gam.add, stepM, callC, argC, lendO, nmBy, nmC, likeL, likeB, plainOb, offs, exL, X, F, trP, trO, stepD, stepW, newA, SV.tr, SV.trL, fz, allP, Ob.tr, loadA, cellsA, SV.cells, binA, binI, eqOut, isSl, isPt, natOf, callee, snap, SV.refsL, SV.refs, thaw, fzAll, loA, hiA, elemOf, partsA, buildA, putCells, ↓reduceIte, reduceCtorEq, okCell, Nat.reduceAdd, Nat.reduceEqDiff, Nat.reduceSub, Nat.reduceMul, Nat.reduceLeDiff, Nat.reduceLT, Nat.reduceBEq, PV.scal, PV.scalL, SV.scal, SV.scalL, Ob.scal, PV.isCell, pure', resO] <;> exact finA_val (by simp [retA, rvA, mkE_cons, mk_nil, mkO_cons, mkO_nil, loadA, SV.tr, SV.trL, nmF, rn_nil, rn_cons1, rn_cons2, plainOb, SV.refsL, SV.refs, Ob.refs, X, F, List.range_succ, mkO, setO_mk]) (by simp [SV.tr])
def a_markIntS : AFn := ⟨2, 
  .seq (.reg [⟨some 4, none, .d (.mv (.c (.int .i64 0)))⟩])
  (.seq (.seq (.reg [⟨some 5, none, .d (.mv (.c (.int .i64 0)))⟩])
  (.block 0 (.loop (.seq (.seq (.reg [⟨some 6, none, .d (.mv (.t 5))⟩,
      ⟨some 7, none, .d (.mv (.t 0))⟩,
      ⟨some 8, none, .d (.len (.t 7))⟩,
      ⟨some 9, none, .d (.bin .arith .lss (.t 6) (.t 8))⟩])
    (.cond (.t 9) (.skip) (.exit 0)))
    (.seq (.block 1 (.seq (.reg [⟨some 12, none, .d (.mv (.t 0))⟩,
       ⟨some 13, none, .d (.mv (.t 5))⟩,
       ⟨some 14, none, .d (.mv (.t 1))⟩,
       ⟨some 15, none, .d (.ia 1 (.t 12) (.t 13))⟩,
       ⟨none, none, .w (.store 1 (.t 15) (.t 14))⟩])
     (.reg [⟨some 16, none, .d (.mv (.t 1))⟩,
       ⟨some 17, none, .d (.bin .arith .add (.t 16) (.c (.int .i64 1)))⟩,
       ⟨some 1, none, .d (.mv (.t 17))⟩])))
    (.reg [⟨some 10, none, .d (.mv (.t 5))⟩,
      ⟨some 11, none, .d (.bin .arith .add (.t 10) (.c (.int .i64 1)))⟩,
      ⟨some 5, none, .d (.mv (.t 11))⟩]))))))
  (.seq (.reg [⟨some 18, none, .d (.mv (.t 1))⟩,
    ⟨some 4, none, .d (.mv (.t 18))⟩])
  (.ret))), [.tmp 4]⟩
def n_markIntS : Nat → Option Ann := fun _ => none
abbrev k_markIntS : List Nat := [0, 1, 4, 5, 9]
abbrev o_markIntS : List Nat := []
/-- The marks. -/
def marks (k : Int) (n : Nat) : List Int := (List.range n).map fun (j : Nat) => k + (j : Int)
theorem marks_len (k : Int) (n : Nat) : (marks k n).length = n := by simp [marks]
theorem marks_get (k : Int) {n j : Nat} (h : j < n) : (marks k n).getD j 0 = k + j := by simp [marks, h]
/-- What stands in a list once it is marked. -/
def markL (l : List PV) (k : Int) (i : Nat) : List PV := (List.range i).map (fun (j : Nat) => PV.int .i64 (k + (j : Int))) ++ l.drop i
def c_markIntS : Con
  | [.ar 1000000, .p (.int .i64 k)], [.arr 1 xs] => if xs.length ≤ 1100000 ∧ 0 ≤ k ∧ k ≤ 10000000 then some (.p (.int .i64 (k + xs.length)), [.arr 1 (ints (marks k xs.length))], []) else none
  | [.p .nilsl, .p (.int .i64 k)], [] => if 0 ≤ k ∧ k ≤ 10000000 then some (.p (.int .i64 k), [], []) else none
  | _, _ => none
theorem markL_len (l : List PV) (k : Int) (i : Nat) (h : i ≤ l.length) : (markL l k i).length = l.length := by simp [markL]; omega
theorem markL_0 (l : List PV) (k : Int) : markL l k 0 = l := by simp [markL]
theorem markL_end (l : List PV) (k : Int) : markL l k l.length = ints (marks k l.length) := by simp [markL, ints, marks, Function.comp_def]
theorem markL_set (l : List PV) (k : Int) (i : Nat) (h : i < l.length) : (markL l k i).set i (.int .i64 (k + i)) = markL l k (i + 1) := by
  have e : l.drop i = l[i] :: l.drop (i + 1) := List.drop_eq_getElem_cons h
  simp only [markL, List.range_succ, List.map_append, List.map_cons, List.map_nil, List.append_assoc, List.cons_append, List.nil_append]
  rw [List.set_append_right _ _ (by simp)]
  simp only [List.length_map, List.length_range, Nat.sub_self]
  rw [e, List.set_cons_zero]
theorem s_markIntS {P : Program} (hm : P.follows .mixedOrders = true) {Γ : Gam} (hΓ : GS P Γ) {n : FuncId} (is : Is P n a_markIntS)  : Says P n c_markIntS := by
  intro args ext r ext' fs h
  unfold c_markIntS at h
  split at h
  case h_3 => cases h
  · rename_i k xs
    split at h
    case isFalse => cases h
    rename_i hc
    obtain ⟨hl, hk0, hk1⟩ := hc
    simp only [Option.some.injEq, Prod.mk.injEq] at h
    obtain ⟨rfl, rfl, rfl⟩ := h
    refine is.goX hm hΓ k_markIntS (1000000 :: o_markIntS) (by simp [a_markIntS]) (by simp) ?_
    simp only [a_markIntS, List.zipIdx_cons, List.zipIdx_nil, ↓SP, SQ, Gam.add, stepM, callC, argC, lendO, nmBy, nmC, likeL, likeB, plainOb, offs, exL, X, F, trP, trO, stepD, stepW, newA, SV.tr, SV.trL, fz, allP, Ob.tr, loadA, cellsA, SV.cells, binA, binI, eqOut, isSl, isPt, natOf, callee, snap, SV.refsL, SV.refs, thaw, fzAll, loA, hiA, elemOf, partsA, buildA, putCells, ↓reduceIte, reduceCtorEq, okCell, Nat.reduceAdd, Nat.reduceEqDiff, Nat.reduceSub, Nat.reduceMul, Nat.reduceLeDiff, Nat.reduceLT, Nat.reduceBEq, PV.scal, PV.scalL, SV.scal, SV.scalL, Ob.scal, PV.isCell, pure', resO]
    refine loop_at (fun s : Nat × SV => mkEnv [(0, .ar 1000000), (1, si (k + (s.1 : Int))), (4, si 0), (5, si s.1), (9, s.2)]) (fun s => mkO [(1000000, some (.arr 1 (markL xs k s.1)))]) (fun s => s.1 ≤ xs.length) (fun s => xs.length - s.1) (0, .junk) (by simp) (by simp) (by simp [markL_0]) ?_
    rintro ⟨i, c⟩ hi R hR hN
    simp only at hi
    have hml := markL_len xs k i hi
    by_cases h : i < xs.length
    · have hlt : i < (markL xs k i).length := by omega
      have h1 : (i : Int) < xs.length := by omega
      have hw : IntKind.i64.wrap ((i : Int) + 1) = ((i + 1 : Nat) : Int) := wrap_one (by omega)
      have hw2 : IntKind.i64.wrap (k + (i : Int) + 1) = k + ((i + 1 : Nat) : Int) := by rw [wrap64 (by omega) (by omega)]; omega
      obtain ⟨e, he⟩ : ∃ e, (markL xs k i)[i]? = some e := ⟨_, List.getElem?_eq_getElem hlt⟩
      simp only [hml, h, h1, hw, hw2, he, hlt, markL_set xs k i h, ↓SP, SQ, Gam.add, stepM, callC, argC, lendO, nmBy, nmC, likeL, likeB, plainOb, offs, exL, X, F, trP, trO, stepD, stepW, newA, SV.tr, SV.trL, fz, allP, Ob.tr, loadA, cellsA, SV.cells, binA, binI, eqOut, isSl, isPt, natOf, callee, snap, SV.refsL, SV.refs, thaw, fzAll, loA, hiA, elemOf, partsA, buildA, putCells, ↓reduceIte, reduceCtorEq, okCell, Nat.reduceAdd, Nat.reduceEqDiff, Nat.reduceSub, Nat.reduceMul, Nat.reduceLeDiff, Nat.reduceLT, Nat.reduceBEq, PV.scal, PV.scalL, SV.scal, SV.scalL, Ob.scal, PV.isCell, pure', resO]
      exact hN (i + 1, .p (.bool true)) _ _ (by simp only; omega) (by simp only; omega) rfl rfl
    · have he : i = xs.length := by omega
      have h1 : ¬ (i : Int) < xs.length := by omega
      simp only [hml, h1, ↓SP, SQ, Gam.add, stepM, callC, argC, lendO, nmBy, nmC, likeL, likeB, plainOb, offs, exL, X, F, trP, trO, stepD, stepW, newA, SV.tr, SV.trL, fz, allP, Ob.tr, loadA, cellsA, SV.cells, binA, binI, eqOut, isSl, isPt, natOf, callee, snap, SV.refsL, SV.refs, thaw, fzAll, loA, hiA, elemOf, partsA, buildA, putCells, ↓reduceIte, reduceCtorEq, okCell, Nat.reduceAdd, Nat.reduceEqDiff, Nat.reduceSub, Nat.reduceMul, Nat.reduceLeDiff, Nat.reduceLT, Nat.reduceBEq, PV.scal, PV.scalL, SV.scal, SV.scalL, Ob.scal, PV.isCell, pure', resO]
      refine hR _ _ _ (by intro h; cases h) ?_
      simp only [↓SP, SQ, Gam.add, stepM, callC, argC, lendO, nmBy, nmC, likeL, likeB, plainOb, offs, exL, X, F, trP, trO, stepD, stepW, newA, SV.tr, SV.trL, fz, allP, Ob.tr, loadA, cellsA, SV.cells, binA, binI, eqOut, isSl, isPt, natOf, callee, snap, SV.refsL, SV.refs, thaw, fzAll, loA, hiA, elemOf, partsA, buildA, putCells, ↓reduceIte, reduceCtorEq, okCell, Nat.reduceAdd, Nat.reduceEqDiff, Nat.reduceSub, Nat.reduceMul, Nat.reduceLeDiff, Nat.reduceLT, Nat.reduceBEq, PV.scal, PV.scalL, SV.scal, SV.scalL, Ob.scal, PV.isCell, pure', resO]
      subst he
      have hme := markL_end xs k
      exact finA_gen [] trivial (by simp [retA, rvA, mkE_cons, mk_nil, mkO_cons, mkO_nil, loadA, SV.tr, SV.trL, nmF, rn_nil, rn_cons1, rn_cons2, plainOb, SV.refsL, SV.refs, Ob.refs, X, F, List.range_succ, mkO, setO_mk]; rfl) (by simp [retA, rvA, mkE_cons, mk_nil, mkO_cons, mkO_nil, loadA, SV.tr, SV.trL, nmF, rn_nil, rn_cons1, rn_cons2, plainOb, SV.refsL, SV.refs, Ob.refs, X, F, List.range_succ, mkO, setO_mk]) (by simp) (by simp) (by simp) (by simp) (by simp [retA, rvA, mkE_cons, mk_nil, mkO_cons, mkO_nil, loadA, SV.tr, SV.trL, nmF, rn_nil, rn_cons1, rn_cons2, plainOb, SV.refsL, SV.refs, Ob.refs, X, F, List.range_succ, mkO, setO_mk, hme]) (by simp [retA, rvA, mkE_cons, mk_nil, mkO_cons, mkO_nil, loadA, SV.tr, SV.trL, nmF, rn_nil, rn_cons1, rn_cons2, plainOb, SV.refsL, SV.refs, Ob.refs, X, F, List.range_succ, mkO, setO_mk])
  · rename_i k
    split at h
    case isFalse => cases h
    simp only [Option.some.injEq, Prod.mk.injEq] at h
    obtain ⟨rfl, rfl, rfl⟩ := h
    refine is.goX hm hΓ k_markIntS o_markIntS (by simp [a_markIntS]) (by simp) ?_
    simp only [a_markIntS, List.zipIdx_cons, List.zipIdx_nil, ↓SP, SQ, Gam.add, stepM, callC, argC, lendO, nmBy, nmC, likeL, likeB, plainOb, offs, exL, X, F, trP, trO, stepD, stepW, newA, SV.tr, SV.trL, fz, allP, Ob.tr, loadA, cellsA, SV.cells, binA, binI, eqOut, isSl, isPt, natOf, callee, snap, SV.refsL, SV.refs, thaw, fzAll, loA, hiA, elemOf, partsA, buildA, putCells, ↓reduceIte, reduceCtorEq, okCell, Nat.reduceAdd, Nat.reduceEqDiff, Nat.reduceSub, Nat.reduceMul, Nat.reduceLeDiff, Nat.reduceLT, Nat.reduceBEq, PV.scal, PV.scalL, SV.scal, SV.scalL, Ob.scal, PV.isCell, pure', resO]
    refine loop_at (fun s : SV => mkEnv [(0, .p .nilsl), (1, si k), (4, si 0), (5, si 0), (9, s)]) (fun s => mkO []) (fun _ => True) (fun _ => 0) .junk trivial rfl rfl ?_
    intro c _ R hR hN
    simp only [↓SP, SQ, Gam.add, stepM, callC, argC, lendO, nmBy, nmC, likeL, likeB, plainOb, offs, exL, X, F, trP, trO, stepD, stepW, newA, SV.tr, SV.trL, fz, allP, Ob.tr, loadA, cellsA, SV.cells, binA, binI, eqOut, isSl, isPt, natOf, callee, snap, SV.refsL, SV.refs, thaw, fzAll, loA, hiA, elemOf, partsA, buildA, putCells, ↓reduceIte, reduceCtorEq, okCell, Nat.reduceAdd, Nat.reduceEqDiff, Nat.reduceSub, Nat.reduceMul, Nat.reduceLeDiff, Nat.reduceLT, Nat.reduceBEq, PV.scal, PV.scalL, SV.scal, SV.scalL, Ob.scal, PV.isCell, pure', resO]
    refine hR _ _ _ (by intro h; cases h) ?_
    simp only [↓SP, SQ, Gam.add, stepM, callC, argC, lendO, nmBy, nmC, likeL, likeB, plainOb, offs, exL, X, F, trP, trO, stepD, stepW, newA, SV.tr, SV.trL, fz, allP, Ob.tr, loadA, cellsA, SV.cells, binA, binI, eqOut, isSl, isPt, natOf, callee, snap, SV.refsL, SV.refs, thaw, fzAll, loA, hiA, elemOf, partsA, buildA, putCells, ↓reduceIte, reduceCtorEq, okCell, Nat.reduceAdd, Nat.reduceEqDiff, Nat.reduceSub, Nat.reduceMul, Nat.reduceLeDiff, Nat.reduceLT, Nat.reduceBEq, PV.scal, PV.scalL, SV.scal, SV.scalL, Ob.scal, PV.isCell, pure', resO]
    exact finA_gen [] trivial (by simp [retA, rvA, mkE_cons, mk_nil, mkO_cons, mkO_nil, loadA, SV.tr, SV.trL, nmF, rn_nil, rn_cons1, rn_cons2, plainOb, SV.refsL, SV.refs, Ob.refs, X, F, List.range_succ, mkO, setO_mk]; rfl) (by simp [retA, rvA, mkE_cons, mk_nil, mkO_cons, mkO_nil, loadA, SV.tr, SV.trL, nmF, rn_nil, rn_cons1, rn_cons2, plainOb, SV.refsL, SV.refs, Ob.refs, X, F, List.range_succ, mkO, setO_mk]) (by simp) (by simp) (by simp) (by simp) (by simp [retA, rvA, mkE_cons, mk_nil, mkO_cons, mkO_nil, loadA, SV.tr, SV.trL, nmF, rn_nil, rn_cons1, rn_cons2, plainOb, SV.refsL, SV.refs, Ob.refs, X, F, List.range_succ, mkO, setO_mk]) (by simp [retA, rvA, mkE_cons, mk_nil, mkO_cons, mkO_nil, loadA, SV.tr, SV.trL, nmF, rn_nil, rn_cons1, rn_cons2, plainOb, SV.refsL, SV.refs, Ob.refs, X, F, List.range_succ, mkO, setO_mk])
def a_toIntS : AFn := ⟨1, 
  .seq (.reg [⟨some 2, none, .d (.mv (.c (.nilsl)))⟩])
  (.seq (.reg [⟨some 5, none, .d (.mv (.t 0))⟩,
    ⟨some 6, none, .d (.len (.t 5))⟩,
    ⟨some 7, none, .w (.mkslice 1 (.int .i64 0) (.t 6))⟩,
    ⟨some 3, none, .d (.mv (.t 7))⟩])
  (.seq (.seq (.reg [⟨some 4, none, .d (.mv (.c (.int .i64 0)))⟩])
  (.block 0 (.loop (.seq (.seq (.reg [⟨some 8, none, .d (.mv (.t 4))⟩,
      ⟨some 9, none, .d (.mv (.t 0))⟩,
      ⟨some 10, none, .d (.len (.t 9))⟩,
      ⟨some 11, none, .d (.bin .arith .lss (.t 8) (.t 10))⟩])
    (.cond (.t 11) (.skip) (.exit 0)))
    (.seq (.block 1 (.reg [⟨some 14, none, .d (.mv (.t 3))⟩,
       ⟨some 15, none, .d (.mv (.t 4))⟩,
       ⟨some 16, none, .d (.mv (.t 0))⟩,
       ⟨some 17, none, .d (.mv (.t 4))⟩,
       ⟨some 18, none, .d (.ia 1 (.t 16) (.t 17))⟩,
       ⟨some 19, none, .d (.load false 1 (.t 18))⟩,
       ⟨some 20, none, .d (.ia 1 (.t 14) (.t 15))⟩,
       ⟨none, none, .w (.store 1 (.t 20) (.t 19))⟩]))
    (.reg [⟨some 12, none, .d (.mv (.t 4))⟩,
      ⟨some 13, none, .d (.bin .arith .add (.t 12) (.c (.int .i64 1)))⟩,
      ⟨some 4, none, .d (.mv (.t 13))⟩]))))))
  (.seq (.reg [⟨some 21, none, .d (.mv (.t 3))⟩,
    ⟨some 2, none, .d (.mv (.t 21))⟩])
  (.ret)))), [.tmp 2]⟩
def n_toIntS : Nat → Option Ann := fun _ => none
abbrev k_toIntS : List Nat := [0, 2, 3, 4, 11]
abbrev o_toIntS : List Nat := [7]
def c_toIntS : Con := pure' fun
  | [.p v] => match slI v with
    | some l => if l.length ≤ 1048576 then some (.ar 2000000, [.arr 1 (ints l)]) else none
    | none => none
  | _ => none
theorem set_next (l : List Int) (i : Nat) (h : i < l.length) : (l.take i ++ List.replicate (l.length - i) (0 : Int)).set i (l.getD i 0) = l.take (i + 1) ++ List.replicate (l.length - (i + 1)) 0 := by
  rw [take_one l i 0 h]
  have e : l.length - i = (l.length - (i + 1)) + 1 := by omega
  rw [e, List.replicate_succ, List.set_append_right _ _ (by simp; omega)]
  have e2 : i - (l.take i).length = 0 := by simp; omega
  rw [e2, List.set_cons_zero]
  simp
theorem s_toIntS {P : Program} (hm : P.follows .mixedOrders = true) {Γ : Gam} (hΓ : GS P Γ) {n : FuncId} (is : Is P n a_toIntS)  : Says P n c_toIntS := by
  refine Says.pure fun args r fs h => ?_
  split at h
  case h_2 => cases h
  rename_i v
  split at h
  case h_2 => cases h
  rename_i l hl
  split at h
  case isFalse => cases h
  rename_i hc
  simp only [Option.some.injEq, Prod.mk.injEq] at h
  obtain ⟨rfl, rfl⟩ := h
  have hlen := slI_len hl
  have hroom : l.length ≤ roomA := by unfold roomA; omega
  refine is.go hm hΓ k_toIntS o_toIntS (by simp [a_toIntS]) ?_
  simp only [a_toIntS, hlen, hroom, List.zipIdx_cons, List.zipIdx_nil, ↓SP, SQ, Gam.add, stepM, callC, argC, lendO, nmBy, nmC, likeL, likeB, plainOb, offs, exL, X, F, trP, trO, stepD, stepW, newA, SV.tr, SV.trL, fz, allP, Ob.tr, loadA, cellsA, SV.cells, binA, binI, eqOut, isSl, isPt, natOf, callee, snap, SV.refsL, SV.refs, thaw, fzAll, loA, hiA, elemOf, partsA, buildA, putCells, ↓reduceIte, reduceCtorEq, okCell, Nat.reduceAdd, Nat.reduceEqDiff, Nat.reduceSub, Nat.reduceMul, Nat.reduceLeDiff, Nat.reduceLT, Nat.reduceBEq, PV.scal, PV.scalL, SV.scal, SV.scalL, Ob.scal, PV.isCell, pure', resO]
  refine loop_at (fun s : Nat × SV => mkEnv [(0, .p v), (2, .p .nilsl), (3, .ar 7), (4, si s.1), (11, s.2)]) (fun s => mkO [(7, some (.arr 1 (ints (l.take s.1 ++ List.replicate (l.length - s.1) 0))))]) (fun s => s.1 ≤ l.length) (fun s => l.length - s.1) (0, .junk) (by simp) (by simp) (by simp [ints]) ?_
  rintro ⟨i, c⟩ hi R hR hN
  simp only at hi
  by_cases h : i < l.length
  · rcases slI_out hl with rfl | ⟨rfl, rfl⟩
    case inr => simp at h
    have h1 : (i : Int) < l.length := by omega
    have hw := wrap_one (i := i) (by omega)
    have hg := ints_get h
    have hlt : i < (ints (l.take i ++ List.replicate (l.length - i) 0)).length := by simp [ints_len]; omega
    obtain ⟨e, he⟩ : ∃ e, (ints (l.take i ++ List.replicate (l.length - i) 0))[i]? = some e := ⟨_, List.getElem?_eq_getElem hlt⟩
    simp only [ints_len] at hlt
    simp only [h, h1, hw, hg, he, hlt, ints_set, set_next l i h, ↓SP, SQ, Gam.add, stepM, callC, argC, lendO, nmBy, nmC, likeL, likeB, plainOb, offs, exL, X, F, trP, trO, stepD, stepW, newA, SV.tr, SV.trL, fz, allP, Ob.tr, loadA, cellsA, SV.cells, binA, binI, eqOut, isSl, isPt, natOf, callee, snap, SV.refsL, SV.refs, thaw, fzAll, loA, hiA, elemOf, partsA, buildA, putCells, ↓reduceIte, reduceCtorEq, okCell, Nat.reduceAdd, Nat.reduceEqDiff, Nat.reduceSub, Nat.reduceMul, Nat.reduceLeDiff, Nat.reduceLT, Nat.reduceBEq, PV.scal, PV.scalL, SV.scal, SV.scalL, Ob.scal, PV.isCell, pure', resO]
    exact hN (i + 1, .p (.bool true)) _ _ (by simp only; omega) (by simp only; omega) rfl rfl
  · have he : i = l.length := by omega
    have h1 : ¬ (i : Int) < l.length := by omega
    simp only [hlen, h1, ↓SP, SQ, Gam.add, stepM, callC, argC, lendO, nmBy, nmC, likeL, likeB, plainOb, offs, exL, X, F, trP, trO, stepD, stepW, newA, SV.tr, SV.trL, fz, allP, Ob.tr, loadA, cellsA, SV.cells, binA, binI, eqOut, isSl, isPt, natOf, callee, snap, SV.refsL, SV.refs, thaw, fzAll, loA, hiA, elemOf, partsA, buildA, putCells, ↓reduceIte, reduceCtorEq, okCell, Nat.reduceAdd, Nat.reduceEqDiff, Nat.reduceSub, Nat.reduceMul, Nat.reduceLeDiff, Nat.reduceLT, Nat.reduceBEq, PV.scal, PV.scalL, SV.scal, SV.scalL, Ob.scal, PV.isCell, pure', resO]
    refine hR _ _ _ (by intro h; cases h) ?_
    simp only [↓SP, SQ, Gam.add, stepM, callC, argC, lendO, nmBy, nmC, likeL, likeB, plainOb, offs, exL, X, F, trP, trO, stepD, stepW, newA, SV.tr, SV.trL, fz, allP, Ob.tr, loadA, cellsA, SV.cells, binA, binI, eqOut, isSl, isPt, natOf, callee, snap, SV.refsL, SV.refs, thaw, fzAll, loA, hiA, elemOf, partsA, buildA, putCells, ↓reduceIte, reduceCtorEq, okCell, Nat.reduceAdd, Nat.reduceEqDiff, Nat.reduceSub, Nat.reduceMul, Nat.reduceLeDiff, Nat.reduceLT, Nat.reduceBEq, PV.scal, PV.scalL, SV.scal, SV.scalL, Ob.scal, PV.isCell, pure', resO]
    subst he
    refine finA_gen [7] trivial (by simp [retA, rvA, mkE_cons, mk_nil, mkO_cons, mkO_nil, loadA, SV.tr, SV.trL, nmF, rn_nil, rn_cons1, rn_cons2, plainOb, SV.refsL, SV.refs, Ob.refs, X, F, List.range_succ, mkO, setO_mk]; rfl) ?_ ?_ ?_ ?_ ?_ ?_ ?_ <;> simp [List.take_length, Nat.sub_self, List.replicate_zero, retA, rvA, mkE_cons, mk_nil, mkO_cons, mkO_nil, loadA, SV.tr, SV.trL, nmF, rn_nil, rn_cons1, rn_cons2, plainOb, SV.refsL, SV.refs, Ob.refs, X, F, List.range_succ, mkO, setO_mk]
def a_eqIntS : AFn := ⟨2, 
  .seq (.reg [⟨some 4, none, .d (.mv (.c (.bool false)))⟩])
  (.seq (.seq (.reg [⟨some 6, none, .d (.mv (.t 0))⟩,
    ⟨some 7, none, .d (.len (.t 6))⟩,
    ⟨some 8, none, .d (.mv (.t 1))⟩,
    ⟨some 9, none, .d (.len (.t 8))⟩,
    ⟨some 10, none, .d (.bin .arith .neq (.t 7) (.t 9))⟩])
  (.cond (.t 10) (.seq (.reg [⟨some 4, none, .d (.mv (.c (.bool false)))⟩])
   (.ret)) (.skip)))
  (.seq (.seq (.reg [⟨some 5, none, .d (.mv (.c (.int .i64 0)))⟩])
  (.block 0 (.loop (.seq (.seq (.reg [⟨some 11, none, .d (.mv (.t 5))⟩,
      ⟨some 12, none, .d (.mv (.t 0))⟩,
      ⟨some 13, none, .d (.len (.t 12))⟩,
      ⟨some 14, none, .d (.bin .arith .lss (.t 11) (.t 13))⟩])
    (.cond (.t 14) (.skip) (.exit 0)))
    (.seq (.block 1 (.seq (.dreg [] [([], ⟨some 17, none, .d (.mv (.t 0))⟩),
       ([], ⟨some 18, none, .d (.mv (.t 5))⟩),
       ([], ⟨some 19, none, .d (.ia 1 (.t 17) (.t 18))⟩),
       ([], ⟨some 20, none, .d (.load false 1 (.t 19))⟩),
       ([], ⟨some 21, none, .d (.mv (.t 1))⟩),
       ([], ⟨some 22, none, .d (.mv (.t 5))⟩),
       ([], ⟨some 23, none, .d (.ia 1 (.t 21) (.t 22))⟩),
       ([], ⟨some 24, none, .d (.load false 1 (.t 23))⟩)] [⟨some 25, none, .d (.bin .arith .neq (.t 20) (.t 24))⟩])
     (.cond (.t 25) (.seq (.reg [⟨some 4, none, .d (.mv (.c (.bool false)))⟩])
      (.ret)) (.skip))))
    (.reg [⟨some 15, none, .d (.mv (.t 5))⟩,
      ⟨some 16, none, .d (.bin .arith .add (.t 15) (.c (.int .i64 1)))⟩,
      ⟨some 5, none, .d (.mv (.t 16))⟩]))))))
  (.seq (.reg [⟨some 4, none, .d (.mv (.c (.bool true)))⟩])
  (.ret)))), [.tmp 4]⟩
def n_eqIntS : Nat → Option Ann := fun _ => none
abbrev k_eqIntS : List Nat := [0, 1, 4, 5, 10, 14, 25]
abbrev o_eqIntS : List Nat := []
def c_eqIntS : Con := pure' fun
  | [.p v, .p u] => match slI v, slI u with
    | some l, some m => if l.length ≤ 1100000 ∧ m.length ≤ 1100000 then some (sb (decide (l = m)), []) else none
    | _, _ => none
  | _ => none
theorem eq_upto {α : Type} {l m : List α} (d : α) (h : l.length = m.length) {i : Nat} (hi : i ≤ l.length) (hp : ∀ j, j < i → l.getD j d = m.getD j d) (he : i = l.length) : l = m := by
  apply List.ext_getElem h
  intro j h1 h2
  have := hp j (by omega)
  rwa [getD_lt h1, getD_lt h2] at this
theorem s_eqIntS {P : Program} (hm : P.follows .mixedOrders = true) {Γ : Gam} (hΓ : GS P Γ) {n : FuncId} (is : Is P n a_eqIntS)  : Says P n c_eqIntS := by
  refine Says.pure fun args r fs h => ?_
  split at h
  case h_2 => cases h
  rename_i v u
  split at h
  case h_2 => cases h
  rename_i l m hl hm'
  split at h
  case isFalse => cases h
  rename_i hc
  simp only [Option.some.injEq, Prod.mk.injEq] at h
  obtain ⟨rfl, rfl⟩ := h
  have hlen := slI_len hl
  have hlenm := slI_len hm'
  refine is.go hm hΓ k_eqIntS o_eqIntS (by simp [a_eqIntS]) ?_
  by_cases hlm : l.length = m.length
  · have h0 : ((l.length : Int) != (m.length : Int)) = false := by simp [hlm]
    simp only [a_eqIntS, hlen, hlenm, h0, List.zipIdx_cons, List.zipIdx_nil, ↓SP, SQ, Gam.add, stepM, callC, argC, lendO, nmBy, nmC, likeL, likeB, plainOb, offs, exL, X, F, trP, trO, stepD, stepW, newA, SV.tr, SV.trL, fz, allP, Ob.tr, loadA, cellsA, SV.cells, binA, binI, eqOut, isSl, isPt, natOf, callee, snap, SV.refsL, SV.refs, thaw, fzAll, loA, hiA, elemOf, partsA, buildA, putCells, ↓reduceIte, reduceCtorEq, okCell, Nat.reduceAdd, Nat.reduceEqDiff, Nat.reduceSub, Nat.reduceMul, Nat.reduceLeDiff, Nat.reduceLT, Nat.reduceBEq, PV.scal, PV.scalL, SV.scal, SV.scalL, Ob.scal, PV.isCell, pure', resO]
    refine loop_at (fun s : Nat × SV × SV => mkEnv [(0, .p v), (1, .p u), (4, sb false), (5, si s.1), (10, sb false), (14, s.2.1), (25, s.2.2)]) (fun s => mkO []) (fun s => s.1 ≤ l.length ∧ ∀ j, j < s.1 → l.getD j 0 = m.getD j 0) (fun s => l.length - s.1) (0, .junk, .junk) (by simp) rfl rfl ?_
    rintro ⟨i, c, c'⟩ ⟨hi, hp⟩ R hR hN
    simp only at hi hp
    by_cases h : i < l.length
    · rcases slI_out hl with rfl | ⟨rfl, rfl⟩
      case inr => simp at h
      rcases slI_out hm' with rfl | ⟨rfl, rfl⟩
      case inr => simp at hlm; simp [hlm] at h
      have h1 : (i : Int) < l.length := by omega
      have hw := wrap_one (i := i) (by omega)
      have hg := ints_get h
      have hg2 := ints_get (l := m) (i := i) (by omega)
      by_cases he : l.getD i 0 = m.getD i 0
      · have he' : (l.getD i 0 != m.getD i 0) = false := by rw [he]; exact bne_self_eq_false _
        simp only [hlen, h, h1, hw, hg, hg2, he', ↓SP, SQ, Gam.add, stepM, callC, argC, lendO, nmBy, nmC, likeL, likeB, plainOb, offs, exL, X, F, trP, trO, stepD, stepW, newA, SV.tr, SV.trL, fz, allP, Ob.tr, loadA, cellsA, SV.cells, binA, binI, eqOut, isSl, isPt, natOf, callee, snap, SV.refsL, SV.refs, thaw, fzAll, loA, hiA, elemOf, partsA, buildA, putCells, ↓reduceIte, reduceCtorEq, okCell, Nat.reduceAdd, Nat.reduceEqDiff, Nat.reduceSub, Nat.reduceMul, Nat.reduceLeDiff, Nat.reduceLT, Nat.reduceBEq, PV.scal, PV.scalL, SV.scal, SV.scalL, Ob.scal, PV.isCell, pure', resO]
        refine hN (i + 1, _, _) _ _ ⟨by simp only; omega, fun j hj => ?_⟩ (by simp only; omega) rfl rfl
        simp only at hj
        by_cases hji : j = i
        · rw [hji]; exact he
        · exact hp j (by omega)
      · have he' : (l.getD i 0 != m.getD i 0) = true := bne_iff_ne.2 he
        have hne : ¬ l = m := fun e => he (by rw [e])
        simp only [hlen, h, h1, hw, hg, hg2, he', ↓SP, SQ, Gam.add, stepM, callC, argC, lendO, nmBy, nmC, likeL, likeB, plainOb, offs, exL, X, F, trP, trO, stepD, stepW, newA, SV.tr, SV.trL, fz, allP, Ob.tr, loadA, cellsA, SV.cells, binA, binI, eqOut, isSl, isPt, natOf, callee, snap, SV.refsL, SV.refs, thaw, fzAll, loA, hiA, elemOf, partsA, buildA, putCells, ↓reduceIte, reduceCtorEq, okCell, Nat.reduceAdd, Nat.reduceEqDiff, Nat.reduceSub, Nat.reduceMul, Nat.reduceLeDiff, Nat.reduceLT, Nat.reduceBEq, PV.scal, PV.scalL, SV.scal, SV.scalL, Ob.scal, PV.isCell, pure', resO]
        refine hR _ _ _ (by intro h; cases h) ?_
        simp only [↓SP, SQ, Gam.add, stepM, callC, argC, lendO, nmBy, nmC, likeL, likeB, plainOb, offs, exL, X, F, trP, trO, stepD, stepW, newA, SV.tr, SV.trL, fz, allP, Ob.tr, loadA, cellsA, SV.cells, binA, binI, eqOut, isSl, isPt, natOf, callee, snap, SV.refsL, SV.refs, thaw, fzAll, loA, hiA, elemOf, partsA, buildA, putCells, ↓reduceIte, reduceCtorEq, okCell, Nat.reduceAdd, Nat.reduceEqDiff, Nat.reduceSub, Nat.reduceMul, Nat.reduceLeDiff, Nat.reduceLT, Nat.reduceBEq, PV.scal, PV.scalL, SV.scal, SV.scalL, Ob.scal, PV.isCell, pure', resO]
        exact finA_val (by simp [hne, retA, rvA, mkE_cons, mk_nil, mkO_cons, mkO_nil, loadA, SV.tr, SV.trL, nmF, rn_nil, rn_cons1, rn_cons2, plainOb, SV.refsL, SV.refs, Ob.refs, X, F, List.range_succ, mkO, setO_mk]) (by simp [SV.tr, SV.trL])
    · have he : i = l.length := by omega
      have h1 : ¬ (i : Int) < l.length := by omega
      have hlm' : l = m := eq_upto 0 hlm hi hp he
      have hd : decide (l = m) = true := by simpa using hlm'
      simp only [hlen, h1, ↓SP, SQ, Gam.add, stepM, callC, argC, lendO, nmBy, nmC, likeL, likeB, plainOb, offs, exL, X, F, trP, trO, stepD, stepW, newA, SV.tr, SV.trL, fz, allP, Ob.tr, loadA, cellsA, SV.cells, binA, binI, eqOut, isSl, isPt, natOf, callee, snap, SV.refsL, SV.refs, thaw, fzAll, loA, hiA, elemOf, partsA, buildA, putCells, ↓reduceIte, reduceCtorEq, okCell, Nat.reduceAdd, Nat.reduceEqDiff, Nat.reduceSub, Nat.reduceMul, Nat.reduceLeDiff, Nat.reduceLT, Nat.reduceBEq, PV.scal, PV.scalL, SV.scal, SV.scalL, Ob.scal, PV.isCell, pure', resO]
      refine hR _ _ _ (by intro h; cases h) ?_
      simp only [hd, ↓SP, SQ, Gam.add, stepM, callC, argC, lendO, nmBy, nmC, likeL, likeB, plainOb, offs, exL, X, F, trP, trO, stepD, stepW, newA, SV.tr, SV.trL, fz, allP, Ob.tr, loadA, cellsA, SV.cells, binA, binI, eqOut, isSl, isPt, natOf, callee, snap, SV.refsL, SV.refs, thaw, fzAll, loA, hiA, elemOf, partsA, buildA, putCells, ↓reduceIte, reduceCtorEq, okCell, Nat.reduceAdd, Nat.reduceEqDiff, Nat.reduceSub, Nat.reduceMul, Nat.reduceLeDiff, Nat.reduceLT, Nat.reduceBEq, PV.scal, PV.scalL, SV.scal, SV.scalL, Ob.scal, PV.isCell, pure', resO]
      exact finA_val (by simp [retA, rvA, mkE_cons, mk_nil, mkO_cons, mkO_nil, loadA, SV.tr, SV.trL, nmF, rn_nil, rn_cons1, rn_cons2, plainOb, SV.refsL, SV.refs, Ob.refs, X, F, List.range_succ, mkO, setO_mk]) (by simp [SV.tr, SV.trL])
  · have h0 : ((l.length : Int) != (m.length : Int)) = true := bne_iff_ne.2 (by omega)
    have hne : ¬ l = m := fun e => hlm (by rw [e])
    simp only [a_eqIntS, hlen, hlenm, h0, List.zipIdx_cons, List.zipIdx_nil, ↓SP, SQ, Gam.add, stepM, callC, argC, lendO, nmBy, nmC, likeL, likeB, plainOb, offs, exL, X, F, trP, trO, stepD, stepW, newA, SV.tr, SV.trL, fz, allP, Ob.tr, loadA, cellsA, SV.cells, binA, binI, eqOut, isSl, isPt, natOf, callee, snap, SV.refsL, SV.refs, thaw, fzAll, loA, hiA, elemOf, partsA, buildA, putCells, ↓reduceIte, reduceCtorEq, okCell, Nat.reduceAdd, Nat.reduceEqDiff, Nat.reduceSub, Nat.reduceMul, Nat.reduceLeDiff, Nat.reduceLT, Nat.reduceBEq, PV.scal, PV.scalL, SV.scal, SV.scalL, Ob.scal, PV.isCell, pure', resO]
    exact finA_val (by simp [hne, retA, rvA, mkE_cons, mk_nil, mkO_cons, mkO_nil, loadA, SV.tr, SV.trL, nmF, rn_nil, rn_cons1, rn_cons2, plainOb, SV.refsL, SV.refs, Ob.refs, X, F, List.range_succ, mkO, setO_mk]) (by simp [SV.tr, SV.trL])
def a_heldIntS : AFn := ⟨2, 
  .seq (.reg [⟨some 4, none, .d (.mv (.c (.int .i64 0)))⟩])
  (.seq (.seq (.reg [⟨some 5, none, .d (.mv (.c (.int .i64 0)))⟩])
  (.block 0 (.loop (.seq (.seq (.reg [⟨some 6, none, .d (.mv (.t 5))⟩,
      ⟨some 7, none, .d (.mv (.t 0))⟩,
      ⟨some 8, none, .d (.len (.t 7))⟩,
      ⟨some 9, none, .d (.bin .arith .lss (.t 6) (.t 8))⟩])
    (.cond (.t 9) (.skip) (.exit 0)))
    (.seq (.block 1 (.seq (.seq (.reg [⟨some 12, none, .d (.mv (.t 0))⟩,
       ⟨some 13, none, .d (.mv (.t 5))⟩,
       ⟨some 14, none, .d (.ia 1 (.t 12) (.t 13))⟩,
       ⟨some 15, none, .d (.load false 1 (.t 14))⟩,
       ⟨some 16, none, .d (.mv (.t 1))⟩,
       ⟨some 17, none, .d (.bin .arith .neq (.t 15) (.t 16))⟩])
     (.cond (.t 17) (.seq (.reg [⟨some 4, none, .d (.mv (.c (.int .i64 (-1))))⟩])
      (.ret)) (.skip)))
     (.reg [⟨some 18, none, .d (.mv (.t 1))⟩,
       ⟨some 19, none, .d (.bin .arith .add (.t 18) (.c (.int .i64 1)))⟩,
       ⟨some 1, none, .d (.mv (.t 19))⟩])))
    (.reg [⟨some 10, none, .d (.mv (.t 5))⟩,
      ⟨some 11, none, .d (.bin .arith .add (.t 10) (.c (.int .i64 1)))⟩,
      ⟨some 5, none, .d (.mv (.t 11))⟩]))))))
  (.seq (.reg [⟨some 20, none, .d (.mv (.t 1))⟩,
    ⟨some 4, none, .d (.mv (.t 20))⟩])
  (.ret))), [.tmp 4]⟩
def n_heldIntS : Nat → Option Ann := fun _ => none
abbrev k_heldIntS : List Nat := [0, 1, 4, 5, 9, 17]
abbrev o_heldIntS : List Nat := []
/-- Whether a list stands as it was marked. -/
def held (l : List Int) (k : Int) : Prop := ∀ j, j < l.length → l.getD j 0 = k + j
instance (l : List Int) (k : Int) : Decidable (held l k) := inferInstanceAs (Decidable (∀ j, j < l.length → l.getD j 0 = k + j))
def c_heldIntS : Con := pure' fun
  | [.p v, .p (.int .i64 k)] => match slI v with
    | some l => if l.length ≤ 1100000 ∧ 0 ≤ k ∧ k ≤ 10000000 then some (.p (.int .i64 (if held l k then k + l.length else -1)), []) else none
    | _ => none
  | _ => none
theorem s_heldIntS {P : Program} (hm : P.follows .mixedOrders = true) {Γ : Gam} (hΓ : GS P Γ) {n : FuncId} (is : Is P n a_heldIntS)  : Says P n c_heldIntS := by
  refine Says.pure fun args r fs h => ?_
  split at h
  case h_2 => cases h
  rename_i v k
  split at h
  case h_2 => cases h
  rename_i l hl
  split at h
  case isFalse => cases h
  rename_i hc
  simp only [Option.some.injEq, Prod.mk.injEq] at h
  obtain ⟨rfl, rfl⟩ := h
  have hlen := slI_len hl
  refine is.go hm hΓ k_heldIntS o_heldIntS (by simp [a_heldIntS]) ?_
  simp only [a_heldIntS, hlen, List.zipIdx_cons, List.zipIdx_nil, ↓SP, SQ, Gam.add, stepM, callC, argC, lendO, nmBy, nmC, likeL, likeB, plainOb, offs, exL, X, F, trP, trO, stepD, stepW, newA, SV.tr, SV.trL, fz, allP, Ob.tr, loadA, cellsA, SV.cells, binA, binI, eqOut, isSl, isPt, natOf, callee, snap, SV.refsL, SV.refs, thaw, fzAll, loA, hiA, elemOf, partsA, buildA, putCells, ↓reduceIte, reduceCtorEq, okCell, Nat.reduceAdd, Nat.reduceEqDiff, Nat.reduceSub, Nat.reduceMul, Nat.reduceLeDiff, Nat.reduceLT, Nat.reduceBEq, PV.scal, PV.scalL, SV.scal, SV.scalL, Ob.scal, PV.isCell, pure', resO]
  refine loop_at (fun s : Nat × SV × SV => mkEnv [(0, .p v), (1, si (k + (s.1 : Int))), (4, si 0), (5, si s.1), (9, s.2.1), (17, s.2.2)]) (fun s => mkO []) (fun s => s.1 ≤ l.length ∧ ∀ j, j < s.1 → l.getD j 0 = k + j) (fun s => l.length - s.1) (0, .junk, .junk) (by simp) (by simp) rfl ?_
  rintro ⟨i, c, c'⟩ ⟨hi, hp⟩ R hR hN
  simp only at hi hp
  by_cases h : i < l.length
  · rcases slI_out hl with rfl | ⟨rfl, rfl⟩
    case inr => simp at h
    have h1 : (i : Int) < l.length := by omega
    have hw := wrap_one (i := i) (by omega)
    have hw2 : IntKind.i64.wrap (k + (i : Int) + 1) = k + ((i + 1 : Nat) : Int) := by rw [wrap64 (by omega) (by omega)]; omega
    have hg := ints_get h
    by_cases he : l.getD i 0 = k + i
    · have he' : (l.getD i 0 != k + (i : Int)) = false := by rw [he]; exact bne_self_eq_false _
      simp only [hlen, h, h1, hw, hw2, hg, he', ↓SP, SQ, Gam.add, stepM, callC, argC, lendO, nmBy, nmC, likeL, likeB, plainOb, offs, exL, X, F, trP, trO, stepD, stepW, newA, SV.tr, SV.trL, fz, allP, Ob.tr, loadA, cellsA, SV.cells, binA, binI, eqOut, isSl, isPt, natOf, callee, snap, SV.refsL, SV.refs, thaw, fzAll, loA, hiA, elemOf, partsA, buildA, putCells, ↓reduceIte, reduceCtorEq, okCell, Nat.reduceAdd, Nat.reduceEqDiff, Nat.reduceSub, Nat.reduceMul, Nat.reduceLeDiff, Nat.reduceLT, Nat.reduceBEq, PV.scal, PV.scalL, SV.scal, SV.scalL, Ob.scal, PV.isCell, pure', resO]
      refine hN (i + 1, _, _) _ _ ⟨by simp only; omega, fun j hj => ?_⟩ (by simp only; omega) rfl rfl
      simp only at hj
      by_cases hji : j = i
      · rw [hji]; exact he
      · exact hp j (by omega)
    · have he' : (l.getD i 0 != k + (i : Int)) = true := bne_iff_ne.2 he
      have hne : ¬ held l k := fun e => he (e i h)
      simp only [hlen, h, h1, hw, hg, he', ↓SP, SQ, Gam.add, stepM, callC, argC, lendO, nmBy, nmC, likeL, likeB, plainOb, offs, exL, X, F, trP, trO, stepD, stepW, newA, SV.tr, SV.trL, fz, allP, Ob.tr, loadA, cellsA, SV.cells, binA, binI, eqOut, isSl, isPt, natOf, callee, snap, SV.refsL, SV.refs, thaw, fzAll, loA, hiA, elemOf, partsA, buildA, putCells, ↓reduceIte, reduceCtorEq, okCell, Nat.reduceAdd, Nat.reduceEqDiff, Nat.reduceSub, Nat.reduceMul, Nat.reduceLeDiff, Nat.reduceLT, Nat.reduceBEq, PV.scal, PV.scalL, SV.scal, SV.scalL, Ob.scal, PV.isCell, pure', resO]
      refine hR _ _ _ (by intro h; cases h) ?_
      simp only [↓SP, SQ, Gam.add, stepM, callC, argC, lendO, nmBy, nmC, likeL, likeB, plainOb, offs, exL, X, F, trP, trO, stepD, stepW, newA, SV.tr, SV.trL, fz, allP, Ob.tr, loadA, cellsA, SV.cells, binA, binI, eqOut, isSl, isPt, natOf, callee, snap, SV.refsL, SV.refs, thaw, fzAll, loA, hiA, elemOf, partsA, buildA, putCells, ↓reduceIte, reduceCtorEq, okCell, Nat.reduceAdd, Nat.reduceEqDiff, Nat.reduceSub, Nat.reduceMul, Nat.reduceLeDiff, Nat.reduceLT, Nat.reduceBEq, PV.scal, PV.scalL, SV.scal, SV.scalL, Ob.scal, PV.isCell, pure', resO]
      exact finA_val (by simp [hne, retA, rvA, mkE_cons, mk_nil, mkO_cons, mkO_nil, loadA, SV.tr, SV.trL, nmF, rn_nil, rn_cons1, rn_cons2, plainOb, SV.refsL, SV.refs, Ob.refs, X, F, List.range_succ, mkO, setO_mk]) (by simp [SV.tr, SV.trL])
  · have he : i = l.length := by omega
    have h1 : ¬ (i : Int) < l.length := by omega
    have hd : held l k := fun j hj => hp j (by omega)
    simp only [hlen, h1, ↓SP, SQ, Gam.add, stepM, callC, argC, lendO, nmBy, nmC, likeL, likeB, plainOb, offs, exL, X, F, trP, trO, stepD, stepW, newA, SV.tr, SV.trL, fz, allP, Ob.tr, loadA, cellsA, SV.cells, binA, binI, eqOut, isSl, isPt, natOf, callee, snap, SV.refsL, SV.refs, thaw, fzAll, loA, hiA, elemOf, partsA, buildA, putCells, ↓reduceIte, reduceCtorEq, okCell, Nat.reduceAdd, Nat.reduceEqDiff, Nat.reduceSub, Nat.reduceMul, Nat.reduceLeDiff, Nat.reduceLT, Nat.reduceBEq, PV.scal, PV.scalL, SV.scal, SV.scalL, Ob.scal, PV.isCell, pure', resO]
    refine hR _ _ _ (by intro h; cases h) ?_
    simp only [↓SP, SQ, Gam.add, stepM, callC, argC, lendO, nmBy, nmC, likeL, likeB, plainOb, offs, exL, X, F, trP, trO, stepD, stepW, newA, SV.tr, SV.trL, fz, allP, Ob.tr, loadA, cellsA, SV.cells, binA, binI, eqOut, isSl, isPt, natOf, callee, snap, SV.refsL, SV.refs, thaw, fzAll, loA, hiA, elemOf, partsA, buildA, putCells, ↓reduceIte, reduceCtorEq, okCell, Nat.reduceAdd, Nat.reduceEqDiff, Nat.reduceSub, Nat.reduceMul, Nat.reduceLeDiff, Nat.reduceLT, Nat.reduceBEq, PV.scal, PV.scalL, SV.scal, SV.scalL, Ob.scal, PV.isCell, pure', resO]
    subst he
    exact finA_val (by simp [hd, retA, rvA, mkE_cons, mk_nil, mkO_cons, mkO_nil, loadA, SV.tr, SV.trL, nmF, rn_nil, rn_cons1, rn_cons2, plainOb, SV.refsL, SV.refs, Ob.refs, X, F, List.range_succ, mkO, setO_mk]) (by simp [SV.tr, SV.trL])
theorem held_marks (k : Int) (n : Nat) : held (marks k n) k := fun j hj => marks_get k (by rw [marks_len] at hj; exact hj)
def a_Clone : AFn := ⟨1, 
  .seq (.reg [⟨some 2, none, .d (.mv (.c (.nilsl)))⟩])
  (.seq (.seq (.reg [⟨some 3, none, .d (.mv (.t 0))⟩,
    ⟨some 4, none, .d (.bin .slice .eql (.t 3) (.c (.nilsl)))⟩])
  (.cond (.t 4) (.seq (.reg [⟨some 2, none, .d (.mv (.c (.nilsl)))⟩])
   (.ret)) (.skip)))
  (.seq (.reg [⟨some 5, none, .w (.bslice 1 [] [])⟩,
    ⟨some 6, none, .d (.mv (.t 0))⟩,
    ⟨some 7, none, .w (.append 1 (.t 5) (.t 6))⟩,
    ⟨some 2, none, .d (.mv (.t 7))⟩])
  (.ret))), [.tmp 2]⟩
def n_Clone : Nat → Option Ann := fun _ => none
abbrev k_Clone : List Nat := [0, 2, 4]
abbrev o_Clone : List Nat := [5, 7]
def a_l1Own : AFn := ⟨1, 
  .seq (.reg [⟨some 2, none, .d (.mv (.c (.nilsl)))⟩])
  (.seq (.reg [⟨some 3, none, .w (.bslice 1 [] [])⟩,
    ⟨some 4, none, .d (.mv (.t 0))⟩,
    ⟨some 5, none, .w (.append 1 (.t 3) (.t 4))⟩,
    ⟨some 2, none, .d (.mv (.t 5))⟩])
  (.ret)), [.tmp 2]⟩
def n_l1Own : Nat → Option Ann := fun _ => none
abbrev k_l1Own : List Nat := [0, 2]
abbrev o_l1Own : List Nat := [3, 5]
def c_Clone : Con := pure' fun
  | [.p (.sl 1 l_)] => if isI l_ = true ∧ ((ofI l_).length ≤ 1100000) then some (.ar 2000000, [.arr 1 (ints (ofI l_))]) else none
  | _ => none
theorem room {n : Nat} (h : n ≤ 1100000) : n ≤ roomA := by unfold roomA; omega
theorem s_Clone {P : Program} (hm : P.follows .mixedOrders = true) {Γ : Gam} (hΓ : GS P Γ) {n : FuncId} (is : Is P n a_Clone)  : Says P n c_Clone := by
  refine Says.pure fun args r fs h => ?_
  split at h
  case h_2 => cases h
  rename_i l_
  split at h
  case isFalse => cases h
  rename_i hc
  obtain ⟨hl_, hc⟩ := hc
  obtain ⟨l, rfl⟩ := isI_out hl_
  simp only [ofI_ints, ofBo_bools, ofAs_asks, Option.some.injEq, Prod.mk.injEq] at h hc
  obtain ⟨rfl, rfl⟩ := h
  have hr := room hc
  refine is.go hm hΓ k_Clone o_Clone (by simp [a_Clone]) ?_
  simp only [a_Clone, hr, List.zipIdx_cons, List.zipIdx_nil, ↓SP, SQ, Gam.add, stepM, callC, argC, lendO, nmBy, nmC, likeL, likeB, plainOb, offs, exL, X, F, trP, trO, stepD, stepW, newA, SV.tr, SV.trL, fz, allP, Ob.tr, loadA, cellsA, SV.cells, binA, binI, eqOut, isSl, isPt, natOf, callee, snap, SV.refsL, SV.refs, thaw, fzAll, loA, hiA, elemOf, partsA, buildA, putCells, ↓reduceIte, reduceCtorEq, okCell, Nat.reduceAdd, Nat.reduceEqDiff, Nat.reduceSub, Nat.reduceMul, Nat.reduceLeDiff, Nat.reduceLT, Nat.reduceBEq, PV.scal, PV.scalL, SV.scal, SV.scalL, Ob.scal, PV.isCell, pure', resO]
  refine finA_gen [5] trivial (by simp [retA, rvA, mkE_cons, mk_nil, mkO_cons, mkO_nil, loadA, SV.tr, SV.trL, nmF, rn_nil, rn_cons1, rn_cons2, plainOb, SV.refsL, SV.refs, Ob.refs, X, F, List.range_succ, mkO, setO_mk]; rfl) ?_ ?_ ?_ ?_ ?_ ?_ ?_ <;> simp [retA, rvA, mkE_cons, mk_nil, mkO_cons, mkO_nil, loadA, SV.tr, SV.trL, nmF, rn_nil, rn_cons1, rn_cons2, plainOb, SV.refsL, SV.refs, Ob.refs, X, F, List.range_succ, mkO, setO_mk]
theorem s_l1Own {P : Program} (hm : P.follows .mixedOrders = true) {Γ : Gam} (hΓ : GS P Γ) {n : FuncId} (is : Is P n a_l1Own)  : Says P n c_Clone := by
  refine Says.pure fun args r fs h => ?_
  split at h
  case h_2 => cases h
  rename_i l_
  split at h
  case isFalse => cases h
  rename_i hc
  obtain ⟨hl_, hc⟩ := hc
  obtain ⟨l, rfl⟩ := isI_out hl_
  simp only [ofI_ints, ofBo_bools, ofAs_asks, Option.some.injEq, Prod.mk.injEq] at h hc
  obtain ⟨rfl, rfl⟩ := h
  have hr := room hc
  refine is.go hm hΓ k_l1Own o_l1Own (by simp [a_l1Own]) ?_
  simp only [a_l1Own, hr, List.zipIdx_cons, List.zipIdx_nil, ↓SP, SQ, Gam.add, stepM, callC, argC, lendO, nmBy, nmC, likeL, likeB, plainOb, offs, exL, X, F, trP, trO, stepD, stepW, newA, SV.tr, SV.trL, fz, allP, Ob.tr, loadA, cellsA, SV.cells, binA, binI, eqOut, isSl, isPt, natOf, callee, snap, SV.refsL, SV.refs, thaw, fzAll, loA, hiA, elemOf, partsA, buildA, putCells, ↓reduceIte, reduceCtorEq, okCell, Nat.reduceAdd, Nat.reduceEqDiff, Nat.reduceSub, Nat.reduceMul, Nat.reduceLeDiff, Nat.reduceLT, Nat.reduceBEq, PV.scal, PV.scalL, SV.scal, SV.scalL, Ob.scal, PV.isCell, pure', resO]
  refine finA_gen [3] trivial (by simp [retA, rvA, mkE_cons, mk_nil, mkO_cons, mkO_nil, loadA, SV.tr, SV.trL, nmF, rn_nil, rn_cons1, rn_cons2, plainOb, SV.refsL, SV.refs, Ob.refs, X, F, List.range_succ, mkO, setO_mk]; rfl) ?_ ?_ ?_ ?_ ?_ ?_ ?_ <;> simp [retA, rvA, mkE_cons, mk_nil, mkO_cons, mkO_nil, loadA, SV.tr, SV.trL, nmF, rn_nil, rn_cons1, rn_cons2, plainOb, SV.refsL, SV.refs, Ob.refs, X, F, List.range_succ, mkO, setO_mk]
def a_IndexFunc : AFn := ⟨2, 
  .seq (.reg [⟨some 4, none, .d (.mv (.c (.int .i64 0)))⟩])
  (.seq (.seq (.reg [⟨some 6, none, .d (.mv (.t 0))⟩,
    ⟨some 7, none, .d (.len (.t 6))⟩,
    ⟨some 8, none, .d (.mv (.c (.int .i64 0)))⟩])
  (.block 0 (.loop (.seq (.reg [⟨some 9, none, .d (.bin .arith .lss (.t 8) (.t 7))⟩])
    (.seq (.cond (.t 9) (.skip) (.exit 0))
    (.seq (.block 1 (.seq (.reg [⟨some 10, none, .d (.mv (.t 8))⟩,
       ⟨some 5, none, .d (.mv (.t 10))⟩])
     (.seq (.reg [⟨some 11, none, .d (.mv (.t 1))⟩,
       ⟨some 12, none, .d (.mv (.t 0))⟩,
       ⟨some 13, none, .d (.mv (.t 5))⟩,
       ⟨some 14, none, .d (.ia 1 (.t 12) (.t 13))⟩,
       ⟨some 15, none, .d (.load false 1 (.t 14))⟩,
       ⟨some 16, none, .d (.call (.t 11) [(.t 15)])⟩])
     (.cond (.t 16) (.seq (.reg [⟨some 17, none, .d (.mv (.t 5))⟩,
        ⟨some 4, none, .d (.mv (.t 17))⟩])
      (.ret)) (.skip)))))
    (.reg [⟨some 18, none, .d (.bin .arith .add (.t 8) (.c (.int .i64 1)))⟩,
      ⟨some 8, none, .d (.mv (.t 18))⟩])))))))
  (.seq (.reg [⟨some 4, none, .d (.mv (.c (.int .i64 (-1))))⟩])
  (.ret))), [.tmp 4]⟩
def n_IndexFunc : Nat → Option Ann := fun _ => none
abbrev k_IndexFunc : List Nat := [0, 1, 4, 5, 7, 8, 9, 16]
abbrev o_IndexFunc : List Nat := []
/-- The place of the first yes. -/
def firstT : List Bool → Int
  | [] => -1
  | b :: r => if b then 0 else if firstT r = -1 then -1 else firstT r + 1
theorem firstT_ge (bs : List Bool) : -1 ≤ firstT bs := by
  induction bs with
  | nil => simp [firstT]
  | cons b r ih => simp only [firstT]; split; omega; split <;> omega
theorem firstT_none : ∀ {bs : List Bool}, (∀ j, j < bs.length → bs.getD j false = false) → firstT bs = -1
  | [], _ => rfl
  | b :: r, h => by
    have h0 := h 0 (by simp)
    simp at h0; subst h0
    have := firstT_none (bs := r) fun j hj => by have := h (j + 1) (by simp; omega); simpa using this
    simp [firstT, this]
theorem firstT_some : ∀ {bs : List Bool} {i : Nat}, i < bs.length → (∀ j, j < i → bs.getD j false = false) → bs.getD i false = true → firstT bs = i
  | [], i, h, _, _ => by simp at h
  | b :: r, 0, _, _, h => by simp at h; subst h; simp [firstT]
  | b :: r, i + 1, h, hp, ht => by
    have h0 := hp 0 (by omega)
    simp at h0; subst h0
    have := firstT_some (bs := r) (i := i) (by simpa using h) (fun j hj => by have := hp (j + 1) (by omega); simpa using this) (by simpa using ht)
    simp only [firstT, this, Bool.false_eq_true, if_false]
    split <;> omega
theorem firstT_any (bs : List Bool) : decide (0 ≤ firstT bs) = bs.any id := by
  induction bs with
  | nil => rfl
  | cons b r ih =>
    cases b with
    | true => simp [firstT]
    | false =>
      have := firstT_ge r
      simp only [firstT, List.any_cons, Bool.false_eq_true, if_false, id, Bool.false_or]
      rw [← ih]
      split
      · rename_i e; simp [e]
      · by_cases h0 : 0 ≤ firstT r
        · rw [decide_eq_true h0, decide_eq_true (by omega)]
        · rw [decide_eq_false h0, decide_eq_false (by omega)]
def c_IndexFunc (Γ0 : Gam) : Con := pure' fun
  | [.p (.sl 1 xs), .p (.fn g a b)] => if isI xs = true ∧ xs.length ≤ 1100000 then (match askF Γ0 g a b xs with | some bs => some (.p (.int .i64 (firstT bs)), []) | none => none) else none
  | _ => none
theorem s_IndexFunc {P : Program} (hm : P.follows .mixedOrders = true) {Γ : Gam} (hΓ : GS P Γ) {n : FuncId} (is : Is P n a_IndexFunc)  : Says P n (c_IndexFunc Γ) := by
  refine Says.pure fun args r fs h => ?_
  split at h
  case h_2 => cases h
  rename_i xs g a b
  split at h
  case isFalse => cases h
  rename_i hc
  obtain ⟨hx, hc⟩ := hc
  obtain ⟨l, rfl⟩ := isI_out hx
  rw [ints_len] at hc
  split at h
  case h_2 => cases h
  rename_i bs hbs
  simp only [Option.some.injEq, Prod.mk.injEq] at h
  obtain ⟨rfl, rfl⟩ := h
  have hbl := askF_len hbs
  rw [ints_len] at hbl
  refine is.go hm hΓ k_IndexFunc o_IndexFunc (by simp [a_IndexFunc]) ?_
  simp only [a_IndexFunc, List.zipIdx_cons, List.zipIdx_nil, ↓SP, SQ, Gam.add, stepM, callC, argC, lendO, nmBy, nmC, likeL, likeB, plainOb, offs, exL, X, F, trP, trO, stepD, stepW, newA, SV.tr, SV.trL, fz, allP, Ob.tr, loadA, cellsA, SV.cells, binA, binI, eqOut, isSl, isPt, natOf, callee, snap, SV.refsL, SV.refs, thaw, fzAll, loA, hiA, elemOf, partsA, buildA, putCells, ↓reduceIte, reduceCtorEq, okCell, Nat.reduceAdd, Nat.reduceEqDiff, Nat.reduceSub, Nat.reduceMul, Nat.reduceLeDiff, Nat.reduceLT, Nat.reduceBEq, PV.scal, PV.scalL, SV.scal, SV.scalL, Ob.scal, PV.isCell, pure', resO]
  refine loop_at (fun s : Nat × SV × SV × SV => mkEnv [(0, .p (.sl 1 (ints l))), (1, .p (.fn g a b)), (4, si 0), (5, s.2.1), (7, si l.length), (8, si s.1), (9, s.2.2.1), (16, s.2.2.2)]) (fun s => mkO []) (fun s => s.1 ≤ l.length ∧ ∀ j, j < s.1 → bs.getD j false = false) (fun s => l.length - s.1) (0, .junk, .junk, .junk) (by simp) rfl rfl ?_
  rintro ⟨i, c1, c2, c3⟩ ⟨hi, hp⟩ R hR hN
  simp only at hi hp
  by_cases h : i < l.length
  · have h1 : (i : Int) < l.length := by omega
    have hw := wrap_one (i := i) (by omega)
    have hg := ints_get h
    have hq := askF_get hbs hg
    cases hb : bs.getD i false with
    | false =>
      rw [hb] at hq
      simp only [h1, hw, hg, call_ps, refs_ps, hq, ↓SP, SQ, Gam.add, stepM, callC, argC, lendO, nmBy, nmC, likeL, likeB, plainOb, offs, exL, X, F, trP, trO, stepD, stepW, newA, SV.tr, SV.trL, fz, allP, Ob.tr, loadA, cellsA, SV.cells, binA, binI, eqOut, isSl, isPt, natOf, callee, snap, SV.refsL, SV.refs, thaw, fzAll, loA, hiA, elemOf, partsA, buildA, putCells, ↓reduceIte, reduceCtorEq, okCell, Nat.reduceAdd, Nat.reduceEqDiff, Nat.reduceSub, Nat.reduceMul, Nat.reduceLeDiff, Nat.reduceLT, Nat.reduceBEq, PV.scal, PV.scalL, SV.scal, SV.scalL, Ob.scal, PV.isCell, pure', resO]
      refine hN (i + 1, _, _, _) _ _ ⟨by simp only; omega, fun j hj => ?_⟩ (by simp only; omega) rfl rfl
      simp only at hj
      by_cases hji : j = i
      · rw [hji]; exact hb
      · exact hp j (by omega)
    | true =>
      rw [hb] at hq
      have hf := firstT_some (by omega) hp hb
      simp only [h1, hw, hg, call_ps, refs_ps, hq, hf, ↓SP, SQ, Gam.add, stepM, callC, argC, lendO, nmBy, nmC, likeL, likeB, plainOb, offs, exL, X, F, trP, trO, stepD, stepW, newA, SV.tr, SV.trL, fz, allP, Ob.tr, loadA, cellsA, SV.cells, binA, binI, eqOut, isSl, isPt, natOf, callee, snap, SV.refsL, SV.refs, thaw, fzAll, loA, hiA, elemOf, partsA, buildA, putCells, ↓reduceIte, reduceCtorEq, okCell, Nat.reduceAdd, Nat.reduceEqDiff, Nat.reduceSub, Nat.reduceMul, Nat.reduceLeDiff, Nat.reduceLT, Nat.reduceBEq, PV.scal, PV.scalL, SV.scal, SV.scalL, Ob.scal, PV.isCell, pure', resO]
      refine hR _ _ _ (by intro h; cases h) ?_
      simp only [↓SP, SQ, Gam.add, stepM, callC, argC, lendO, nmBy, nmC, likeL, likeB, plainOb, offs, exL, X, F, trP, trO, stepD, stepW, newA, SV.tr, SV.trL, fz, allP, Ob.tr, loadA, cellsA, SV.cells, binA, binI, eqOut, isSl, isPt, natOf, callee, snap, SV.refsL, SV.refs, thaw, fzAll, loA, hiA, elemOf, partsA, buildA, putCells, ↓reduceIte, reduceCtorEq, okCell, Nat.reduceAdd, Nat.reduceEqDiff, Nat.reduceSub, Nat.reduceMul, Nat.reduceLeDiff, Nat.reduceLT, Nat.reduceBEq, PV.scal, PV.scalL, SV.scal, SV.scalL, Ob.scal, PV.isCell, pure', resO]
      exact finA_val (by simp [hf, retA, rvA, mkE_cons, mk_nil, mkO_cons, mkO_nil, loadA, SV.tr, SV.trL, nmF, rn_nil, rn_cons1, rn_cons2, plainOb, SV.refsL, SV.refs, Ob.refs, X, F, List.range_succ, mkO, setO_mk]) (by simp [SV.tr, SV.trL])
  · have he : i = l.length := by omega
    have h1 : ¬ (i : Int) < l.length := by omega
    have hf : firstT bs = -1 := firstT_none fun j hj => hp j (by omega)
    simp only [h1, hf, ↓SP, SQ, Gam.add, stepM, callC, argC, lendO, nmBy, nmC, likeL, likeB, plainOb, offs, exL, X, F, trP, trO, stepD, stepW, newA, SV.tr, SV.trL, fz, allP, Ob.tr, loadA, cellsA, SV.cells, binA, binI, eqOut, isSl, isPt, natOf, callee, snap, SV.refsL, SV.refs, thaw, fzAll, loA, hiA, elemOf, partsA, buildA, putCells, ↓reduceIte, reduceCtorEq, okCell, Nat.reduceAdd, Nat.reduceEqDiff, Nat.reduceSub, Nat.reduceMul, Nat.reduceLeDiff, Nat.reduceLT, Nat.reduceBEq, PV.scal, PV.scalL, SV.scal, SV.scalL, Ob.scal, PV.isCell, pure', resO]
    refine hR _ _ _ (by intro h; cases h) ?_
    simp only [↓SP, SQ, Gam.add, stepM, callC, argC, lendO, nmBy, nmC, likeL, likeB, plainOb, offs, exL, X, F, trP, trO, stepD, stepW, newA, SV.tr, SV.trL, fz, allP, Ob.tr, loadA, cellsA, SV.cells, binA, binI, eqOut, isSl, isPt, natOf, callee, snap, SV.refsL, SV.refs, thaw, fzAll, loA, hiA, elemOf, partsA, buildA, putCells, ↓reduceIte, reduceCtorEq, okCell, Nat.reduceAdd, Nat.reduceEqDiff, Nat.reduceSub, Nat.reduceMul, Nat.reduceLeDiff, Nat.reduceLT, Nat.reduceBEq, PV.scal, PV.scalL, SV.scal, SV.scalL, Ob.scal, PV.isCell, pure', resO]
    exact finA_val (by simp [hf, retA, rvA, mkE_cons, mk_nil, mkO_cons, mkO_nil, loadA, SV.tr, SV.trL, nmF, rn_nil, rn_cons1, rn_cons2, plainOb, SV.refsL, SV.refs, Ob.refs, X, F, List.range_succ, mkO, setO_mk]) (by simp [SV.tr, SV.trL])
def a_ContainsFunc (f_IndexFunc : FuncId) : AFn := ⟨2, 
  .seq (.reg [⟨some 4, none, .d (.mv (.c (.bool false)))⟩])
  (.seq (.reg [⟨some 5, none, .d (.mv (.t 0))⟩,
    ⟨some 6, none, .d (.mv (.t 1))⟩,
    ⟨some 7, none, .d (.call (.f f_IndexFunc) [(.t 5), (.t 6)])⟩,
    ⟨some 8, none, .d (.bin .arith .geq (.t 7) (.c (.int .i64 0)))⟩,
    ⟨some 4, none, .d (.mv (.t 8))⟩])
  (.ret)), [.tmp 4]⟩
def n_ContainsFunc : Nat → Option Ann := fun _ => none
abbrev k_ContainsFunc : List Nat := [0, 1, 4]
abbrev o_ContainsFunc : List Nat := []
def c_ContainsFunc (Γ0 : Gam) : Con := pure' fun
  | [.p (.sl 1 xs), .p (.fn g a b)] => if isI xs = true ∧ xs.length ≤ 1100000 then (match askF Γ0 g a b xs with | some bs => some (.p (.bool (bs.any id)), []) | none => none) else none
  | _ => none
theorem s_ContainsFunc {P : Program} (hm : P.follows .mixedOrders = true) {Γ : Gam} (hΓ : GS P Γ) {n : FuncId} {f_IndexFunc : FuncId} (is : Is P n (a_ContainsFunc f_IndexFunc)) {Γ0 : Gam} (h_IndexFunc : Γ f_IndexFunc = c_IndexFunc Γ0) : Says P n (c_ContainsFunc Γ0) := by
  refine Says.pure fun args r fs h => ?_
  split at h
  case h_2 => cases h
  rename_i xs g a b
  split at h
  case isFalse => cases h
  rename_i hc
  split at h
  case h_2 => cases h
  rename_i bs hbs
  simp only [Option.some.injEq, Prod.mk.injEq] at h
  obtain ⟨rfl, rfl⟩ := h
  have hm1 : ∀ (O : Objs) (l : List PV), (l.map SV.p).mapM (snap O 4) = some l := fun O l => by
    induction l with
    | nil => rfl
    | cons y r ih => simp only [List.map_cons, List.mapM_cons, ih]; rfl
  refine is.go hm hΓ k_ContainsFunc o_ContainsFunc (by simp [a_ContainsFunc]) ?_
  simp only [a_ContainsFunc, h_IndexFunc, c_IndexFunc, hc, hbs, firstT_any, List.zipIdx_cons, List.zipIdx_nil, ↓SP, SQ, Gam.add, stepM, callC, argC, lendO, nmBy, nmC, likeL, likeB, plainOb, offs, exL, X, F, trP, trO, stepD, stepW, newA, SV.tr, SV.trL, fz, allP, Ob.tr, loadA, cellsA, SV.cells, binA, binI, eqOut, isSl, isPt, natOf, callee, snap, SV.refsL, SV.refs, thaw, fzAll, loA, hiA, elemOf, partsA, buildA, putCells, ↓reduceIte, reduceCtorEq, okCell, Nat.reduceAdd, Nat.reduceEqDiff, Nat.reduceSub, Nat.reduceMul, Nat.reduceLeDiff, Nat.reduceLT, Nat.reduceBEq, PV.scal, PV.scalL, SV.scal, SV.scalL, Ob.scal, PV.isCell, pure', resO]
  exact finA_val (by simp [retA, rvA, mkE_cons, mk_nil, mkO_cons, mkO_nil, loadA, SV.tr, SV.trL, nmF, rn_nil, rn_cons1, rn_cons2, plainOb, SV.refsL, SV.refs, Ob.refs, X, F, List.range_succ, mkO, setO_mk]) (by simp [SV.tr, SV.trL])
theorem any_not {α : Type} (l : List α) (q : α → Bool) : (!((l.map fun x => !q x).any id)) = l.all q := by
  induction l with
  | nil => rfl
  | cons x r ih => simp only [List.map_cons, List.any_cons, List.all_cons, id]; rw [← ih]; cases q x <;> simp
theorem dec_t {p : Prop} [Decidable p] (h : p) : decide p = true := by simpa using h
theorem dec_f {p : Prop} [Decidable p] (h : ¬ p) : decide p = false := by simpa using h
def a_l1Most : AFn := ⟨2, 
  .seq (.reg [⟨some 4, none, .d (.mv (.c (.int .i64 0)))⟩])
  (.seq (.seq (.reg [⟨some 5, none, .d (.mv (.t 0))⟩,
    ⟨some 6, none, .d (.mv (.t 1))⟩,
    ⟨some 7, none, .d (.bin .arith .gtr (.t 5) (.t 6))⟩])
  (.cond (.t 7) (.seq (.reg [⟨some 8, none, .d (.mv (.t 0))⟩,
     ⟨some 4, none, .d (.mv (.t 8))⟩])
   (.ret)) (.skip)))
  (.seq (.reg [⟨some 9, none, .d (.mv (.t 1))⟩,
    ⟨some 4, none, .d (.mv (.t 9))⟩])
  (.ret))), [.tmp 4]⟩
def n_l1Most : Nat → Option Ann := fun _ => none
abbrev k_l1Most : List Nat := [0, 1, 4, 7]
abbrev o_l1Most : List Nat := []
def c_l1Most : Con := pure' fun
  | [.p (.int .i64 a), .p (.int .i64 b)] => if (True) then some (.p (.int .i64 (if a > b then a else b)), []) else none
  | _ => none
theorem s_l1Most {P : Program} (hm : P.follows .mixedOrders = true) {Γ : Gam} (hΓ : GS P Γ) {n : FuncId} (is : Is P n a_l1Most)  : Says P n c_l1Most := by
  refine Says.pure fun args r fs h => ?_
  split at h
  case h_2 => cases h
  rename_i a b
  split at h
  case isFalse => cases h
  rename_i hc
  simp only [ofI_ints, ofBo_bools, ofAs_asks, Option.some.injEq, Prod.mk.injEq] at h hc
  obtain ⟨rfl, rfl⟩ := h
  by_cases h : a > b
  · refine is.go hm hΓ k_l1Most o_l1Most (by simp [a_l1Most]) ?_
    simp only [a_l1Most, h, List.zipIdx_cons, List.zipIdx_nil, ↓SP, SQ, Gam.add, stepM, callC, argC, lendO, nmBy, nmC, likeL, likeB, plainOb, offs, exL, X, F, trP, trO, stepD, stepW, newA, SV.tr, SV.trL, fz, allP, Ob.tr, loadA, cellsA, SV.cells, binA, binI, eqOut, isSl, isPt, natOf, callee, snap, SV.refsL, SV.refs, thaw, fzAll, loA, hiA, elemOf, partsA, buildA, putCells, ↓reduceIte, reduceCtorEq, okCell, Nat.reduceAdd, Nat.reduceEqDiff, Nat.reduceSub, Nat.reduceMul, Nat.reduceLeDiff, Nat.reduceLT, Nat.reduceBEq, PV.scal, PV.scalL, SV.scal, SV.scalL, Ob.scal, PV.isCell, pure', resO]
    exact finA_val (by simp [retA, rvA, mkE_cons, mk_nil, mkO_cons, mkO_nil, loadA, SV.tr, SV.trL, nmF, rn_nil, rn_cons1, rn_cons2, plainOb, SV.refsL, SV.refs, Ob.refs, X, F, List.range_succ, mkO, setO_mk]) (by simp [SV.tr, SV.trL])
  · refine is.go hm hΓ k_l1Most o_l1Most (by simp [a_l1Most]) ?_
    simp only [a_l1Most, h, List.zipIdx_cons, List.zipIdx_nil, ↓SP, SQ, Gam.add, stepM, callC, argC, lendO, nmBy, nmC, likeL, likeB, plainOb, offs, exL, X, F, trP, trO, stepD, stepW, newA, SV.tr, SV.trL, fz, allP, Ob.tr, loadA, cellsA, SV.cells, binA, binI, eqOut, isSl, isPt, natOf, callee, snap, SV.refsL, SV.refs, thaw, fzAll, loA, hiA, elemOf, partsA, buildA, putCells, ↓reduceIte, reduceCtorEq, okCell, Nat.reduceAdd, Nat.reduceEqDiff, Nat.reduceSub, Nat.reduceMul, Nat.reduceLeDiff, Nat.reduceLT, Nat.reduceBEq, PV.scal, PV.scalL, SV.scal, SV.scalL, Ob.scal, PV.isCell, pure', resO]
    exact finA_val (by simp [retA, rvA, mkE_cons, mk_nil, mkO_cons, mkO_nil, loadA, SV.tr, SV.trL, nmF, rn_nil, rn_cons1, rn_cons2, plainOb, SV.refsL, SV.refs, Ob.refs, X, F, List.range_succ, mkO, setO_mk]) (by simp [SV.tr, SV.trL])
end Go.Proofs.Ytmncbkkpchmjhaa.Pam
