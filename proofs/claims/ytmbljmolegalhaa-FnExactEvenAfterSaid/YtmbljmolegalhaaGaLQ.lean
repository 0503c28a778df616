/- A part of the proof that stands in this folder: a small machine whose steps are shown to be the steps of the model, or walks of functions by it. No condition of its own. -/
import Derived.Test.YtmbljmolegalhaaGaLP
set_option linter.unusedVariables false
set_option linter.unusedSimpArgs false
namespace Go.Proofs.Ytmbljmolegalhaa.Pam
open Go
/-- The share of the numbers that a question asks of, of the first i. -/
def inI (p : List Int) (v : Int) : Nat → Int
  | 0 => 0
  | i + 1 => if (bitW v (i : Nat) == 1) = true then inI p v i + p.getD i 0 else inI p v i
theorem inI_fit {p : List Int} (h : fitL p) (v : Int) : ∀ i, 0 ≤ inI p v i ∧ inI p v i ≤ 1000000000000 * (i : Int)
  | 0 => by simp [inI]
  | i + 1 => by
    have h1 := inI_fit h v i
    have h2 := fit_get h i
    simp only [inI]
    split <;> omega
def a_within (f_has : FuncId) : AFn := ⟨2, 
  .seq (.reg [⟨some 4, none, .d (.mv (.c (.int .i64 0)))⟩])
  (.seq (.reg [⟨some 5, none, .d (.mv (.c (.int .i64 0)))⟩])
  (.seq (.seq (.reg [⟨some 8, none, .d (.mv (.t 0))⟩,
    ⟨some 9, none, .d (.len (.t 8))⟩,
    ⟨some 10, none, .d (.mv (.c (.int .i64 0)))⟩])
  (.block 0 (.loop (.seq (.reg [⟨some 11, none, .d (.bin .arith .lss (.t 10) (.t 9))⟩])
    (.seq (.cond (.t 11) (.skip) (.exit 0))
    (.seq (.block 1 (.seq (.reg [⟨some 12, none, .d (.mv (.t 10))⟩,
       ⟨some 13, none, .d (.ia 1 (.t 8) (.t 10))⟩,
       ⟨some 14, none, .d (.load false 1 (.t 13))⟩,
       ⟨some 6, none, .d (.mv (.t 12))⟩,
       ⟨some 7, none, .d (.mv (.t 14))⟩])
     (.seq (.reg [⟨some 15, none, .d (.mv (.t 1))⟩,
       ⟨some 16, none, .d (.mv (.t 6))⟩,
       ⟨some 17, none, .d (.call (.f f_has) [(.t 15), (.t 16)])⟩])
     (.cond (.t 17) (.reg [⟨some 18, none, .d (.mv (.t 5))⟩,
        ⟨some 19, none, .d (.mv (.t 7))⟩,
        ⟨some 20, none, .d (.bin .arith .add (.t 18) (.t 19))⟩,
        ⟨some 5, none, .d (.mv (.t 20))⟩]) (.skip)))))
    (.reg [⟨some 21, none, .d (.bin .arith .add (.t 10) (.c (.int .i64 1)))⟩,
      ⟨some 10, none, .d (.mv (.t 21))⟩])))))))
  (.seq (.reg [⟨some 22, none, .d (.mv (.t 5))⟩,
    ⟨some 4, none, .d (.mv (.t 22))⟩])
  (.ret)))), [.tmp 4]⟩
def n_within : Nat → Option Ann := fun _ => none
abbrev k_within : List Nat := [0, 1, 4, 5, 6, 7, 8, 9, 10, 11, 17]
abbrev o_within : List Nat := []
def a_l7In : AFn := ⟨2, 
  .seq (.reg [⟨some 4, none, .d (.mv (.c (.int .i64 0)))⟩])
  (.seq (.reg [⟨some 5, none, .d (.mv (.c (.int .i64 0)))⟩])
  (.seq (.seq (.reg [⟨some 6, none, .d (.mv (.c (.int .i64 0)))⟩])
  (.block 0 (.loop (.seq (.seq (.reg [⟨some 7, none, .d (.mv (.t 6))⟩,
      ⟨some 8, none, .d (.mv (.t 0))⟩,
      ⟨some 9, none, .d (.len (.t 8))⟩,
      ⟨some 10, none, .d (.bin .arith .lss (.t 7) (.t 9))⟩])
    (.cond (.t 10) (.skip) (.exit 0)))
    (.seq (.block 1 (.seq (.reg [⟨some 13, none, .d (.mv (.t 1))⟩,
       ⟨some 14, none, .d (.mv (.t 6))⟩,
       ⟨some 15, none, .d (.bin .arith .shr (.t 13) (.t 14))⟩,
       ⟨some 16, none, .d (.bin .arith .and (.t 15) (.c (.int .i64 1)))⟩,
       ⟨some 17, none, .d (.bin .arith .eql (.t 16) (.c (.int .i64 1)))⟩])
     (.cond (.t 17) (.reg [⟨some 18, none, .d (.mv (.t 5))⟩,
        ⟨some 19, none, .d (.mv (.t 0))⟩,
        ⟨some 20, none, .d (.mv (.t 6))⟩,
        ⟨some 21, none, .d (.ia 1 (.t 19) (.t 20))⟩,
        ⟨some 22, none, .d (.load false 1 (.t 21))⟩,
        ⟨some 23, none, .d (.bin .arith .add (.t 18) (.t 22))⟩,
        ⟨some 5, none, .d (.mv (.t 23))⟩]) (.skip))))
    (.reg [⟨some 11, none, .d (.mv (.t 6))⟩,
      ⟨some 12, none, .d (.bin .arith .add (.t 11) (.c (.int .i64 1)))⟩,
      ⟨some 6, none, .d (.mv (.t 12))⟩]))))))
  (.seq (.reg [⟨some 24, none, .d (.mv (.t 5))⟩,
    ⟨some 4, none, .d (.mv (.t 24))⟩])
  (.ret)))), [.tmp 4]⟩
def n_l7In : Nat → Option Ann := fun _ => none
abbrev k_l7In : List Nat := [0, 1, 4, 5, 6, 10, 17]
abbrev o_l7In : List Nat := []
def c_within : Con := pure' fun
  | [.p (.sl 1 p_), .p (.int .i64 v)] => if isI p_ = true ∧ ((ofI p_).length ≤ 4096 ∧ fitL (ofI p_)) then some (.p (.int .i64 (inI (ofI p_) v (ofI p_).length)), []) else none
  | _ => none
theorem s_within {P : Program} (hm : P.follows .mixedOrders = true) {Γ : Gam} (hΓ : GS P Γ) {n : FuncId} {f_has : FuncId} (is : Is P n (a_within f_has)) (h_has : Γ f_has = c_has)  : Says P n c_within := by
  refine Says.pure fun args r fs h => ?_
  split at h
  case h_2 => cases h
  rename_i p_ v
  split at h
  case isFalse => cases h
  rename_i hc
  obtain ⟨hp_, hc⟩ := hc
  obtain ⟨p, rfl⟩ := isI_out hp_
  simp only [ofI_ints, ofBo_bools, ofAs_asks, Option.some.injEq, Prod.mk.injEq] at h hc
  obtain ⟨rfl, rfl⟩ := h
  obtain ⟨hl, hf⟩ := hc
  refine is.go hm hΓ k_within o_within (by simp [a_within]) ?_
  simp only [a_within, h_has, c_has, List.zipIdx_cons, List.zipIdx_nil, ↓SP, SQ, Gam.add, stepM, callC, argC, lendO, nmBy, nmC, likeL, likeB, plainOb, offs, X, F, trP, trO, stepD, stepW, newA, SV.tr, SV.trL, fz, allP, Ob.tr, loadA, cellsA, SV.cells, binA, binI, eqOut, isSl, isPt, natOf, callee, snap, SV.refsL, SV.refs, thaw, fzAll, loA, hiA, elemOf, partsA, buildA, putCells, ↓reduceIte, reduceCtorEq, okCell, Nat.reduceAdd, Nat.reduceEqDiff, Nat.reduceSub, Nat.reduceMul, Nat.reduceLeDiff, Nat.reduceLT, Nat.reduceBEq, PV.scal, PV.scalL, SV.scal, SV.scalL, Ob.scal, PV.isCell, pure', resO]
  refine loop_at (fun s : Nat × SV × SV × SV × SV => mkEnv [(0, .p (.sl 1 (ints p))), (1, si v), (4, si 0), (5, si (inI p v s.1)), (6, s.2.1), (7, s.2.2.1), (8, .p (.sl 1 (ints p))), (9, si p.length), (10, si s.1), (11, s.2.2.2.1), (17, s.2.2.2.2)]) (fun s => mkO []) (fun s => s.1 ≤ p.length) (fun s => p.length - s.1) (0, .junk, .junk, .junk, .junk) (by simp) rfl rfl ?_
  rintro ⟨i, c1, c2, c3, c4⟩ hi R hR hN
  simp only at hi
  by_cases h : i < p.length
  · have h1 : (i : Int) < p.length := by omega
    have hw := wrap_one (i := i) (by omega)
    have hg := ints_get h
    have hi0 : (0 : Int) ≤ i := by omega
    have hif := inI_fit hf v i
    have hgf := fit_get hf i
    cases hb : (bitW v (i : Nat) == 1) with
    | true =>
      have hs : IntKind.i64.wrap (inI p v i + p.getD i 0) = inI p v (i + 1) := by
        simp only [inI, hb, if_true]
        exact wrap64 (by omega) (by omega)
      simp only [h1, hw, hg, hi0, hb, hs, h_has, c_has, ↓SP, SQ, Gam.add, stepM, callC, argC, lendO, nmBy, nmC, likeL, likeB, plainOb, offs, X, F, trP, trO, stepD, stepW, newA, SV.tr, SV.trL, fz, allP, Ob.tr, loadA, cellsA, SV.cells, binA, binI, eqOut, isSl, isPt, natOf, callee, snap, SV.refsL, SV.refs, thaw, fzAll, loA, hiA, elemOf, partsA, buildA, putCells, ↓reduceIte, reduceCtorEq, okCell, Nat.reduceAdd, Nat.reduceEqDiff, Nat.reduceSub, Nat.reduceMul, Nat.reduceLeDiff, Nat.reduceLT, Nat.reduceBEq, PV.scal, PV.scalL, SV.scal, SV.scalL, Ob.scal, PV.isCell, pure', resO]
      exact hN (i + 1, _, _, _, _) _ _ (by simp only; omega) (by simp only; omega) rfl rfl
    | false =>
      have hs : inI p v (i + 1) = inI p v i := by simp only [inI, hb, Bool.false_eq_true, if_false]
      simp only [h1, hw, hg, hi0, hb, h_has, c_has, ↓SP, SQ, Gam.add, stepM, callC, argC, lendO, nmBy, nmC, likeL, likeB, plainOb, offs, X, F, trP, trO, stepD, stepW, newA, SV.tr, SV.trL, fz, allP, Ob.tr, loadA, cellsA, SV.cells, binA, binI, eqOut, isSl, isPt, natOf, callee, snap, SV.refsL, SV.refs, thaw, fzAll, loA, hiA, elemOf, partsA, buildA, putCells, ↓reduceIte, reduceCtorEq, okCell, Nat.reduceAdd, Nat.reduceEqDiff, Nat.reduceSub, Nat.reduceMul, Nat.reduceLeDiff, Nat.reduceLT, Nat.reduceBEq, PV.scal, PV.scalL, SV.scal, SV.scalL, Ob.scal, PV.isCell, pure', resO]
      exact hN (i + 1, _, _, _, _) _ _ (by simp only; omega) (by simp only; omega) (by rw [hs]) rfl
  · have he : i = p.length := by omega
    have h1 : ¬ (i : Int) < p.length := by omega
    simp only [h1, ↓SP, SQ, Gam.add, stepM, callC, argC, lendO, nmBy, nmC, likeL, likeB, plainOb, offs, X, F, trP, trO, stepD, stepW, newA, SV.tr, SV.trL, fz, allP, Ob.tr, loadA, cellsA, SV.cells, binA, binI, eqOut, isSl, isPt, natOf, callee, snap, SV.refsL, SV.refs, thaw, fzAll, loA, hiA, elemOf, partsA, buildA, putCells, ↓reduceIte, reduceCtorEq, okCell, Nat.reduceAdd, Nat.reduceEqDiff, Nat.reduceSub, Nat.reduceMul, Nat.reduceLeDiff, Nat.reduceLT, Nat.reduceBEq, PV.scal, PV.scalL, SV.scal, SV.scalL, Ob.scal, PV.isCell, pure', resO]
    refine hR _ _ _ (by intro h; cases h) ?_
    simp only [↓SP, SQ, Gam.add, stepM, callC, argC, lendO, nmBy, nmC, likeL, likeB, plainOb, offs, X, F, trP, trO, stepD, stepW, newA, SV.tr, SV.trL, fz, allP, Ob.tr, loadA, cellsA, SV.cells, binA, binI, eqOut, isSl, isPt, natOf, callee, snap, SV.refsL, SV.refs, thaw, fzAll, loA, hiA, elemOf, partsA, buildA, putCells, ↓reduceIte, reduceCtorEq, okCell, Nat.reduceAdd, Nat.reduceEqDiff, Nat.reduceSub, Nat.reduceMul, Nat.reduceLeDiff, Nat.reduceLT, Nat.reduceBEq, PV.scal, PV.scalL, SV.scal, SV.scalL, Ob.scal, PV.isCell, pure', resO]
    subst he
    exact finA_val (by simp [retA, rvA, List.mapM_cons, List.mapM_nil, Option.pure_def, Option.bind_eq_bind, Option.bind_some, Option.map_some, mkE_cons, mk_nil, mkO_cons, mkO_nil, loadA, ↓reduceIte, List.take_succ_cons, List.take_zero, List.drop_zero, List.drop_succ_cons, List.length_cons, List.length_nil, Nat.reduceAdd, Nat.reduceEqDiff, Nat.reduceLeDiff, Nat.zero_add, Nat.le_refl, reduceCtorEq, SV.tr, SV.trL, nmF, rn_nil, rn_cons1, rn_cons2, List.map_cons, List.map_nil, List.all_cons, List.all_nil, plainOb, SV.refsL, SV.refs, Ob.refs, X, F, List.range_succ, List.range_zero, List.nil_append, List.cons_append, List.isEmpty_nil, decide_true, Nat.reduceLT, Bool.and_self, Bool.and_true, and_self, and_true, List.getElem?_cons_zero, List.getElem?_cons_succ, List.nodup_cons, List.nodup_nil, List.mem_cons, List.not_mem_nil, not_false_eq_true, or_false, List.append_nil, mkO, setO_mk, List.mem_singleton]) (by simp [SV.tr, SV.trL])
theorem s_l7In {P : Program} (hm : P.follows .mixedOrders = true) {Γ : Gam} (hΓ : GS P Γ) {n : FuncId} (is : Is P n a_l7In)  : Says P n c_within := by
  refine Says.pure fun args r fs h => ?_
  split at h
  case h_2 => cases h
  rename_i p_ v
  split at h
  case isFalse => cases h
  rename_i hc
  obtain ⟨hp_, hc⟩ := hc
  obtain ⟨p, rfl⟩ := isI_out hp_
  simp only [ofI_ints, ofBo_bools, ofAs_asks, Option.some.injEq, Prod.mk.injEq] at h hc
  obtain ⟨rfl, rfl⟩ := h
  obtain ⟨hl, hf⟩ := hc
  refine is.go hm hΓ k_l7In o_l7In (by simp [a_l7In]) ?_
  simp only [a_l7In, List.zipIdx_cons, List.zipIdx_nil, ↓SP, SQ, Gam.add, stepM, callC, argC, lendO, nmBy, nmC, likeL, likeB, plainOb, offs, X, F, trP, trO, stepD, stepW, newA, SV.tr, SV.trL, fz, allP, Ob.tr, loadA, cellsA, SV.cells, binA, binI, eqOut, isSl, isPt, natOf, callee, snap, SV.refsL, SV.refs, thaw, fzAll, loA, hiA, elemOf, partsA, buildA, putCells, ↓reduceIte, reduceCtorEq, okCell, Nat.reduceAdd, Nat.reduceEqDiff, Nat.reduceSub, Nat.reduceMul, Nat.reduceLeDiff, Nat.reduceLT, Nat.reduceBEq, PV.scal, PV.scalL, SV.scal, SV.scalL, Ob.scal, PV.isCell, pure', resO]
  refine loop_at (fun s : Nat × SV × SV => mkEnv [(0, .p (.sl 1 (ints p))), (1, si v), (4, si 0), (5, si (inI p v s.1)), (6, si s.1), (10, s.2.1), (17, s.2.2)]) (fun s => mkO []) (fun s => s.1 ≤ p.length) (fun s => p.length - s.1) (0, .junk, .junk) (by simp) rfl rfl ?_
  rintro ⟨i, c1, c2⟩ hi R hR hN
  simp only at hi
  by_cases h : i < p.length
  · have h1 : (i : Int) < p.length := by omega
    have hw := wrap_one (i := i) (by omega)
    have hg := ints_get h
    have hi0 : ¬ (i : Int) < 0 := by omega
    have hif := inI_fit hf v i
    have hgf := fit_get hf i
    cases hb : (bitW v (i : Nat) == 1) with
    | true =>
      have hs : IntKind.i64.wrap (inI p v i + p.getD i 0) = inI p v (i + 1) := by
        simp only [inI, hb, if_true]
        exact wrap64 (by omega) (by omega)
      simp only [h1, hw, hg, hi0, bitA_and, bitW_nat, hb, hs, ↓SP, SQ, Gam.add, stepM, callC, argC, lendO, nmBy, nmC, likeL, likeB, plainOb, offs, X, F, trP, trO, stepD, stepW, newA, SV.tr, SV.trL, fz, allP, Ob.tr, loadA, cellsA, SV.cells, binA, binI, eqOut, isSl, isPt, natOf, callee, snap, SV.refsL, SV.refs, thaw, fzAll, loA, hiA, elemOf, partsA, buildA, putCells, ↓reduceIte, reduceCtorEq, okCell, Nat.reduceAdd, Nat.reduceEqDiff, Nat.reduceSub, Nat.reduceMul, Nat.reduceLeDiff, Nat.reduceLT, Nat.reduceBEq, PV.scal, PV.scalL, SV.scal, SV.scalL, Ob.scal, PV.isCell, pure', resO]
      exact hN (i + 1, _, _) _ _ (by simp only; omega) (by simp only; omega) rfl rfl
    | false =>
      have hs : inI p v (i + 1) = inI p v i := by simp only [inI, hb, Bool.false_eq_true, if_false]
      simp only [h1, hw, hg, hi0, bitA_and, bitW_nat, hb, ↓SP, SQ, Gam.add, stepM, callC, argC, lendO, nmBy, nmC, likeL, likeB, plainOb, offs, X, F, trP, trO, stepD, stepW, newA, SV.tr, SV.trL, fz, allP, Ob.tr, loadA, cellsA, SV.cells, binA, binI, eqOut, isSl, isPt, natOf, callee, snap, SV.refsL, SV.refs, thaw, fzAll, loA, hiA, elemOf, partsA, buildA, putCells, ↓reduceIte, reduceCtorEq, okCell, Nat.reduceAdd, Nat.reduceEqDiff, Nat.reduceSub, Nat.reduceMul, Nat.reduceLeDiff, Nat.reduceLT, Nat.reduceBEq, PV.scal, PV.scalL, SV.scal, SV.scalL, Ob.scal, PV.isCell, pure', resO]
      exact hN (i + 1, _, _) _ _ (by simp only; omega) (by simp only; omega) (by rw [hs]) rfl
  · have he : i = p.length := by omega
    have h1 : ¬ (i : Int) < p.length := by omega
    simp only [h1, ↓SP, SQ, Gam.add, stepM, callC, argC, lendO, nmBy, nmC, likeL, likeB, plainOb, offs, X, F, trP, trO, stepD, stepW, newA, SV.tr, SV.trL, fz, allP, Ob.tr, loadA, cellsA, SV.cells, binA, binI, eqOut, isSl, isPt, natOf, callee, snap, SV.refsL, SV.refs, thaw, fzAll, loA, hiA, elemOf, partsA, buildA, putCells, ↓reduceIte, reduceCtorEq, okCell, Nat.reduceAdd, Nat.reduceEqDiff, Nat.reduceSub, Nat.reduceMul, Nat.reduceLeDiff, Nat.reduceLT, Nat.reduceBEq, PV.scal, PV.scalL, SV.scal, SV.scalL, Ob.scal, PV.isCell, pure', resO]
    refine hR _ _ _ (by intro h; cases h) ?_
    simp only [↓SP, SQ, Gam.add, stepM, callC, argC, lendO, nmBy, nmC, likeL, likeB, plainOb, offs, X, F, trP, trO, stepD, stepW, newA, SV.tr, SV.trL, fz, allP, Ob.tr, loadA, cellsA, SV.cells, binA, binI, eqOut, isSl, isPt, natOf, callee, snap, SV.refsL, SV.refs, thaw, fzAll, loA, hiA, elemOf, partsA, buildA, putCells, ↓reduceIte, reduceCtorEq, okCell, Nat.reduceAdd, Nat.reduceEqDiff, Nat.reduceSub, Nat.reduceMul, Nat.reduceLeDiff, Nat.reduceLT, Nat.reduceBEq, PV.scal, PV.scalL, SV.scal, SV.scalL, Ob.scal, PV.isCell, pure', resO]
    subst he
    exact finA_val (by simp [retA, rvA, List.mapM_cons, List.mapM_nil, Option.pure_def, Option.bind_eq_bind, Option.bind_some, Option.map_some, mkE_cons, mk_nil, mkO_cons, mkO_nil, loadA, ↓reduceIte, List.take_succ_cons, List.take_zero, List.drop_zero, List.drop_succ_cons, List.length_cons, List.length_nil, Nat.reduceAdd, Nat.reduceEqDiff, Nat.reduceLeDiff, Nat.zero_add, Nat.le_refl, reduceCtorEq, SV.tr, SV.trL, nmF, rn_nil, rn_cons1, rn_cons2, List.map_cons, List.map_nil, List.all_cons, List.all_nil, plainOb, SV.refsL, SV.refs, Ob.refs, X, F, List.range_succ, List.range_zero, List.nil_append, List.cons_append, List.isEmpty_nil, decide_true, Nat.reduceLT, Bool.and_self, Bool.and_true, and_self, and_true, List.getElem?_cons_zero, List.getElem?_cons_succ, List.nodup_cons, List.nodup_nil, List.mem_cons, List.not_mem_nil, not_false_eq_true, or_false, List.append_nil, mkO, setO_mk, List.mem_singleton]) (by simp [SV.tr, SV.trL])
def a_l1Most : AFn := ⟨2, 
  .seq (.reg [⟨some 4, none, .d (.mv (.c (.int .i64 0)))⟩])
  (.seq (.seq (.reg [⟨some 5, none, .d (.mv (.t 0))⟩,
    ⟨some 6, none, .d (.mv (.t 1))⟩,
    ⟨some 7, none, .d (.bin .arith .gtr (.t 5) (.t 6))⟩])
  (.cond (.t 7) (.seq (.reg [⟨some 8, none, .d (.mv (.t 0))⟩,
     ⟨some 4, none, .d (.mv (.t 8))⟩])
   (.ret)) (.skip)))
  (.seq (.reg [⟨some 9, none, .d (.mv (.t 1))⟩,
    ⟨some 4, none, .d (.mv (.t 9))⟩])
  (.ret))), [.tmp 4]⟩
def n_l1Most : Nat → Option Ann := fun _ => none
abbrev k_l1Most : List Nat := [0, 1, 4, 7]
abbrev o_l1Most : List Nat := []
def c_l1Most : Con := pure' fun
  | [.p (.int .i64 a), .p (.int .i64 b)] => if (True) then some (.p (.int .i64 (if a > b then a else b)), []) else none
  | _ => none
theorem s_l1Most {P : Program} (hm : P.follows .mixedOrders = true) {Γ : Gam} (hΓ : GS P Γ) {n : FuncId} (is : Is P n a_l1Most)  : Says P n c_l1Most := by
  refine Says.pure fun args r fs h => ?_
  split at h
  case h_2 => cases h
  rename_i a b
  split at h
  case isFalse => cases h
  rename_i hc
  simp only [ofI_ints, ofBo_bools, ofAs_asks, Option.some.injEq, Prod.mk.injEq] at h hc
  obtain ⟨rfl, rfl⟩ := h
  by_cases h : a > b
  · refine is.go hm hΓ k_l1Most o_l1Most (by simp [a_l1Most]) ?_
    simp only [a_l1Most, h, List.zipIdx_cons, List.zipIdx_nil, ↓SP, SQ, Gam.add, stepM, callC, argC, lendO, nmBy, nmC, likeL, likeB, plainOb, offs, X, F, trP, trO, stepD, stepW, newA, SV.tr, SV.trL, fz, allP, Ob.tr, loadA, cellsA, SV.cells, binA, binI, eqOut, isSl, isPt, natOf, callee, snap, SV.refsL, SV.refs, thaw, fzAll, loA, hiA, elemOf, partsA, buildA, putCells, ↓reduceIte, reduceCtorEq, okCell, Nat.reduceAdd, Nat.reduceEqDiff, Nat.reduceSub, Nat.reduceMul, Nat.reduceLeDiff, Nat.reduceLT, Nat.reduceBEq, PV.scal, PV.scalL, SV.scal, SV.scalL, Ob.scal, PV.isCell, pure', resO]
    exact finA_val (by simp [retA, rvA, List.mapM_cons, List.mapM_nil, Option.pure_def, Option.bind_eq_bind, Option.bind_some, Option.map_some, mkE_cons, mk_nil, mkO_cons, mkO_nil, loadA, ↓reduceIte, List.take_succ_cons, List.take_zero, List.drop_zero, List.drop_succ_cons, List.length_cons, List.length_nil, Nat.reduceAdd, Nat.reduceEqDiff, Nat.reduceLeDiff, Nat.zero_add, Nat.le_refl, reduceCtorEq, SV.tr, SV.trL, nmF, rn_nil, rn_cons1, rn_cons2, List.map_cons, List.map_nil, List.all_cons, List.all_nil, plainOb, SV.refsL, SV.refs, Ob.refs, X, F, List.range_succ, List.range_zero, List.nil_append, List.cons_append, List.isEmpty_nil, decide_true, Nat.reduceLT, Bool.and_self, Bool.and_true, and_self, and_true, List.getElem?_cons_zero, List.getElem?_cons_succ, List.nodup_cons, List.nodup_nil, List.mem_cons, List.not_mem_nil, not_false_eq_true, or_false, List.append_nil, mkO, setO_mk, List.mem_singleton]) (by simp [SV.tr, SV.trL])
  · refine is.go hm hΓ k_l1Most o_l1Most (by simp [a_l1Most]) ?_
    simp only [a_l1Most, h, List.zipIdx_cons, List.zipIdx_nil, ↓SP, SQ, Gam.add, stepM, callC, argC, lendO, nmBy, nmC, likeL, likeB, plainOb, offs, X, F, trP, trO, stepD, stepW, newA, SV.tr, SV.trL, fz, allP, Ob.tr, loadA, cellsA, SV.cells, binA, binI, eqOut, isSl, isPt, natOf, callee, snap, SV.refsL, SV.refs, thaw, fzAll, loA, hiA, elemOf, partsA, buildA, putCells, ↓reduceIte, reduceCtorEq, okCell, Nat.reduceAdd, Nat.reduceEqDiff, Nat.reduceSub, Nat.reduceMul, Nat.reduceLeDiff, Nat.reduceLT, Nat.reduceBEq, PV.scal, PV.scalL, SV.scal, SV.scalL, Ob.scal, PV.isCell, pure', resO]
    exact finA_val (by simp [retA, rvA, List.mapM_cons, List.mapM_nil, Option.pure_def, Option.bind_eq_bind, Option.bind_some, Option.map_some, mkE_cons, mk_nil, mkO_cons, mkO_nil, loadA, ↓reduceIte, List.take_succ_cons, List.take_zero, List.drop_zero, List.drop_succ_cons, List.length_cons, List.length_nil, Nat.reduceAdd, Nat.reduceEqDiff, Nat.reduceLeDiff, Nat.zero_add, Nat.le_refl, reduceCtorEq, SV.tr, SV.trL, nmF, rn_nil, rn_cons1, rn_cons2, List.map_cons, List.map_nil, List.all_cons, List.all_nil, plainOb, SV.refsL, SV.refs, Ob.refs, X, F, List.range_succ, List.range_zero, List.nil_append, List.cons_append, List.isEmpty_nil, decide_true, Nat.reduceLT, Bool.and_self, Bool.and_true, and_self, and_true, List.getElem?_cons_zero, List.getElem?_cons_succ, List.nodup_cons, List.nodup_nil, List.mem_cons, List.not_mem_nil, not_false_eq_true, or_false, List.append_nil, mkO, setO_mk, List.mem_singleton]) (by simp [SV.tr, SV.trL])
/-- How far a question is from even. -/
def absW (t : Int) : Int := if -t > t then -t else t
theorem absW_eq (t : Int) : (if t > -t then t else -t) = absW t := by unfold absW; split <;> split <;> omega
def distW (p : List Int) (s : Int) (v : Nat) : Int := absW (2 * inI p v p.length - s)
/-- The question nearest to even, of the first k, and how far it is. -/
def evI (p : List Int) (s : Int) : Nat → Nat × Int
  | 0 => (0, s)
  | k + 1 => if distW p s k < (evI p s k).2 then (k, distW p s k) else evI p s k
theorem inI_zero (p : List Int) : ∀ i, inI p 0 i = 0
  | 0 => rfl
  | i + 1 => by
    have : (bitW 0 ((i : Nat) : Int) == 1) = false := by
      have h : (0 : Int).fdiv (2 ^ min ((i : Nat) : Int).toNat IntKind.i64.bits) = 0 := Int.zero_fdiv _
      rw [← bitW_def, h]; rfl
    simp only [inI, this, Bool.false_eq_true, if_false, inI_zero p i]
theorem evI_1 {p : List Int} {s : Int} (h : 0 ≤ s) : evI p s 1 = (0, s) := by
  have : distW p s 0 = s := by
    simp only [distW, Int.natCast_zero, inI_zero, absW]
    split <;> omega
  simp [evI, this]
theorem shlM {k : Nat} (h : k ≤ 12) : IntKind.i64.wrap (1 * 2 ^ min k IntKind.i64.bits) = ((2 ^ k : Nat) : Int) := by
  have : k = 0 ∨ k = 1 ∨ k = 2 ∨ k = 3 ∨ k = 4 ∨ k = 5 ∨ k = 6 ∨ k = 7 ∨ k = 8 ∨ k = 9 ∨ k = 10 ∨ k = 11 ∨ k = 12 := by omega
  rcases this with h | h | h | h | h | h | h | h | h | h | h | h | h <;> subst h <;> decide
theorem pow12 {k : Nat} (h : k ≤ 12) : 2 ^ k ≤ 4096 := Nat.pow_le_pow_right (by omega) h
def a_EvenAfter (f_sharesAfter : FuncId) (f_within : FuncId) : AFn := ⟨3, 
  .seq (.reg [⟨some 5, none, .w (.box 2 (.t 2))⟩,
    ⟨some 6, none, .d (.mv (.c (.int .i64 0)))⟩,
    ⟨some 7, none, .d (.mv (.c (.bool false)))⟩])
  (.seq (.reg [⟨some 16, none, .d (.mv (.t 0))⟩,
    ⟨some 17, none, .d (.mv (.t 1))⟩,
    ⟨some 18, none, .d (.load true 2 (.t 5))⟩,
    ⟨some 19, none, .d (.call (.f f_sharesAfter) [(.t 16), (.t 17), (.t 18), (.c (.int .i64 12))])⟩,
    ⟨some 15, none, .d (.mv (.t 19))⟩,
    ⟨some 20, none, .d (.extract (.t 15) 0)⟩,
    ⟨some 21, none, .d (.extract (.t 15) 1)⟩,
    ⟨some 22, none, .d (.extract (.t 15) 2)⟩,
    ⟨some 8, none, .d (.mv (.t 20))⟩,
    ⟨some 9, none, .d (.mv (.t 21))⟩,
    ⟨some 10, none, .d (.mv (.t 22))⟩])
  (.seq (.seq (.reg [⟨some 23, none, .d (.mv (.t 10))⟩,
    ⟨some 24, none, .d (.not (.t 23))⟩])
  (.cond (.t 24) (.seq (.reg [⟨some 6, none, .d (.mv (.c (.int .i64 0)))⟩,
     ⟨some 7, none, .d (.mv (.c (.bool false)))⟩])
   (.ret)) (.skip)))
  (.seq (.reg [⟨some 25, none, .d (.mv (.t 9))⟩,
    ⟨some 11, none, .d (.mv (.c (.int .i64 0)))⟩,
    ⟨some 12, none, .d (.mv (.t 25))⟩])
  (.seq (.seq (.reg [⟨some 26, none, .d (.mv (.t 0))⟩,
    ⟨some 27, none, .d (.bin .arith .shl (.c (.int .i64 1)) (.t 26))⟩,
    ⟨some 28, none, .d (.mv (.c (.int .i64 0)))⟩])
  (.block 0 (.loop (.seq (.reg [⟨some 29, none, .d (.bin .arith .lss (.t 28) (.t 27))⟩])
    (.seq (.cond (.t 29) (.skip) (.exit 0))
    (.seq (.block 1 (.seq (.reg [⟨some 30, none, .d (.mv (.t 28))⟩,
       ⟨some 13, none, .d (.mv (.t 30))⟩])
     (.seq (.reg [⟨some 31, none, .d (.mv (.t 8))⟩,
       ⟨some 32, none, .d (.mv (.t 13))⟩,
       ⟨some 33, none, .d (.call (.f f_within) [(.t 31), (.t 32)])⟩,
       ⟨some 34, none, .d (.bin .arith .mul (.c (.int .i64 2)) (.t 33))⟩,
       ⟨some 35, none, .d (.mv (.t 9))⟩,
       ⟨some 36, none, .d (.bin .arith .sub (.t 34) (.t 35))⟩,
       ⟨some 14, none, .d (.mv (.t 36))⟩])
     (.seq (.reg [⟨some 37, none, .d (.mv (.t 14))⟩,
       ⟨some 38, none, .d (.mv (.t 14))⟩,
       ⟨some 39, none, .d (.neg (.t 38))⟩,
       ⟨some 40, none, .d (.max2 (.t 37) (.t 39))⟩,
       ⟨some 14, none, .d (.mv (.t 40))⟩])
     (.seq (.reg [⟨some 41, none, .d (.mv (.t 14))⟩,
       ⟨some 42, none, .d (.mv (.t 12))⟩,
       ⟨some 43, none, .d (.bin .arith .lss (.t 41) (.t 42))⟩])
     (.cond (.t 43) (.reg [⟨some 44, none, .d (.mv (.t 13))⟩,
        ⟨some 45, none, .d (.mv (.t 14))⟩,
        ⟨some 11, none, .d (.mv (.t 44))⟩,
        ⟨some 12, none, .d (.mv (.t 45))⟩]) (.skip)))))))
    (.reg [⟨some 46, none, .d (.bin .arith .add (.t 28) (.c (.int .i64 1)))⟩,
      ⟨some 28, none, .d (.mv (.t 46))⟩])))))))
  (.seq (.reg [⟨some 47, none, .d (.mv (.t 11))⟩,
    ⟨some 6, none, .d (.mv (.t 47))⟩,
    ⟨some 7, none, .d (.mv (.c (.bool true)))⟩])
  (.ret)))))), [.tmp 6, .tmp 7]⟩
def n_EvenAfter : Nat → Option Ann := fun _ => none
abbrev k_EvenAfter : List Nat := [0, 1, 2, 5, 6, 7, 8, 9, 10, 11, 12, 13, 14, 24, 27, 28, 29, 43]
abbrev o_EvenAfter : List Nat := [5]
def a_s_EvenAfter (f_l7Answers : FuncId) (f_l7After : FuncId) (f_l7In : FuncId) (f_l1Most : FuncId) : AFn := ⟨3, 
  .seq (.reg [⟨some 5, none, .w (.box 2 (.t 2))⟩,
    ⟨some 6, none, .d (.mv (.c (.int .i64 0)))⟩,
    ⟨some 7, none, .d (.mv (.c (.bool false)))⟩])
  (.seq (.seq (.reg [⟨some 14, none, .d (.mv (.t 0))⟩,
    ⟨some 15, none, .d (.mv (.t 1))⟩,
    ⟨some 16, none, .d (.load true 2 (.t 5))⟩,
    ⟨some 17, none, .d (.call (.f f_l7Answers) [(.t 14), (.t 15), (.t 16)])⟩,
    ⟨some 18, none, .d (.not (.t 17))⟩])
  (.cond (.t 18) (.seq (.reg [⟨some 6, none, .d (.mv (.c (.int .i64 0)))⟩,
     ⟨some 7, none, .d (.mv (.c (.bool false)))⟩])
   (.ret)) (.skip)))
  (.seq (.reg [⟨some 20, none, .d (.mv (.t 0))⟩,
    ⟨some 21, none, .d (.mv (.t 1))⟩,
    ⟨some 22, none, .d (.load true 2 (.t 5))⟩,
    ⟨some 23, none, .d (.call (.f f_l7After) [(.t 20), (.t 21), (.t 22)])⟩,
    ⟨some 19, none, .d (.mv (.t 23))⟩,
    ⟨some 24, none, .d (.extract (.t 19) 0)⟩,
    ⟨some 25, none, .d (.extract (.t 19) 1)⟩,
    ⟨some 8, none, .d (.mv (.t 24))⟩,
    ⟨some 9, none, .d (.mv (.t 25))⟩])
  (.seq (.seq (.reg [⟨some 26, none, .d (.mv (.t 9))⟩,
    ⟨some 27, none, .d (.bin .arith .eql (.t 26) (.c (.int .i64 0)))⟩])
  (.cond (.t 27) (.seq (.reg [⟨some 6, none, .d (.mv (.c (.int .i64 0)))⟩,
     ⟨some 7, none, .d (.mv (.c (.bool false)))⟩])
   (.ret)) (.skip)))
  (.seq (.reg [⟨some 28, none, .d (.mv (.t 9))⟩,
    ⟨some 10, none, .d (.mv (.c (.int .i64 0)))⟩,
    ⟨some 11, none, .d (.mv (.t 28))⟩])
  (.seq (.seq (.reg [⟨some 12, none, .d (.mv (.c (.int .i64 1)))⟩])
  (.block 0 (.loop (.seq (.seq (.reg [⟨some 29, none, .d (.mv (.t 12))⟩,
      ⟨some 30, none, .d (.mv (.t 0))⟩,
      ⟨some 31, none, .d (.bin .arith .shl (.c (.int .i64 1)) (.t 30))⟩,
      ⟨some 32, none, .d (.bin .arith .lss (.t 29) (.t 31))⟩])
    (.cond (.t 32) (.skip) (.exit 0)))
    (.seq (.block 1 (.seq (.reg [⟨some 35, none, .d (.mv (.t 8))⟩,
       ⟨some 36, none, .d (.mv (.t 12))⟩,
       ⟨some 37, none, .d (.call (.f f_l7In) [(.t 35), (.t 36)])⟩,
       ⟨some 38, none, .d (.bin .arith .mul (.c (.int .i64 2)) (.t 37))⟩,
       ⟨some 39, none, .d (.mv (.t 9))⟩,
       ⟨some 40, none, .d (.bin .arith .sub (.t 38) (.t 39))⟩,
       ⟨some 13, none, .d (.mv (.t 40))⟩])
     (.seq (.reg [⟨some 41, none, .d (.mv (.t 13))⟩,
       ⟨some 42, none, .d (.mv (.t 13))⟩,
       ⟨some 43, none, .d (.neg (.t 42))⟩,
       ⟨some 44, none, .d (.call (.f f_l1Most) [(.t 41), (.t 43)])⟩,
       ⟨some 13, none, .d (.mv (.t 44))⟩])
     (.seq (.reg [⟨some 45, none, .d (.mv (.t 13))⟩,
       ⟨some 46, none, .d (.mv (.t 11))⟩,
       ⟨some 47, none, .d (.bin .arith .lss (.t 45) (.t 46))⟩])
     (.cond (.t 47) (.seq (.reg [⟨some 48, none, .d (.mv (.t 12))⟩,
        ⟨some 10, none, .d (.mv (.t 48))⟩])
      (.reg [⟨some 49, none, .d (.mv (.t 13))⟩,
        ⟨some 11, none, .d (.mv (.t 49))⟩])) (.skip))))))
    (.reg [⟨some 33, none, .d (.mv (.t 12))⟩,
      ⟨some 34, none, .d (.bin .arith .add (.t 33) (.c (.int .i64 1)))⟩,
      ⟨some 12, none, .d (.mv (.t 34))⟩]))))))
  (.seq (.reg [⟨some 50, none, .d (.mv (.t 10))⟩,
    ⟨some 6, none, .d (.mv (.t 50))⟩,
    ⟨some 7, none, .d (.mv (.c (.bool true)))⟩])
  (.ret))))))), [.tmp 6, .tmp 7]⟩
def n_s_EvenAfter : Nat → Option Ann := fun _ => none
abbrev k_s_EvenAfter : List Nat := [0, 1, 2, 5, 6, 7, 8, 9, 10, 11, 12, 13, 18, 27, 32, 47]
abbrev o_s_EvenAfter : List Nat := [5]
def c_EvenAfter : Con := pure' fun
  | [.p (.int .i64 n), .p (.sl 2 l_), .p (.agg [.int .i64 s, .int .i64 o])] => if isAs l_ = true ∧ ((ofAs l_).length ≤ 1100000) then some (.tp [.p (.int .i64 (if okP n (ofAs l_) s o = true then ((evI (partL s o (ofAs l_) n.toNat) (sumL (partL s o (ofAs l_) n.toNat)) (2 ^ n.toNat)).1 : Int) else 0)), .p (.bool (okP n (ofAs l_) s o))], []) else none
  | _ => none
theorem s_EvenAfter {P : Program} (hm : P.follows .mixedOrders = true) {Γ : Gam} (hΓ : GS P Γ) {n : FuncId} {f_sharesAfter : FuncId} {f_within : FuncId} (is : Is P n (a_EvenAfter f_sharesAfter f_within)) (h_sharesAfter : Γ f_sharesAfter = c_sharesAfter) (h_within : Γ f_within = c_within)  : Says P n c_EvenAfter := by
  refine Says.pure fun args r fs h => ?_
  split at h
  case h_2 => cases h
  rename_i n l_ s o
  split at h
  case isFalse => cases h
  rename_i hc
  obtain ⟨hl_, hc⟩ := hc
  obtain ⟨l, rfl⟩ := isAs_out hl_
  simp only [ofI_ints, ofBo_bools, ofAs_asks, Option.some.injEq, Prod.mk.injEq] at h hc
  obtain ⟨rfl, rfl⟩ := h
  cases hAD : (areA n l 12 && isD s o) with
  | false =>
    have hok : okP n l s o = false := by simp only [okP, hAD, Bool.false_and]
    refine is.go hm hΓ k_EvenAfter o_EvenAfter (by simp [a_EvenAfter]) ?_
    simp only [a_EvenAfter, h_sharesAfter, c_sharesAfter, h_within, c_within, hc, hAD, hok, Bool.false_eq_true, Int.reduceLE, List.zipIdx_cons, List.zipIdx_nil, ↓SP, SQ, Gam.add, stepM, callC, argC, lendO, nmBy, nmC, likeL, likeB, plainOb, offs, X, F, trP, trO, stepD, stepW, newA, SV.tr, SV.trL, fz, allP, Ob.tr, loadA, cellsA, SV.cells, binA, binI, eqOut, isSl, isPt, natOf, callee, snap, SV.refsL, SV.refs, thaw, fzAll, loA, hiA, elemOf, partsA, buildA, putCells, ↓reduceIte, reduceCtorEq, okCell, Nat.reduceAdd, Nat.reduceEqDiff, Nat.reduceSub, Nat.reduceMul, Nat.reduceLeDiff, Nat.reduceLT, Nat.reduceBEq, PV.scal, PV.scalL, SV.scal, SV.scalL, Ob.scal, PV.isCell, pure', resO]
    exact finA_val (by simp [retA, rvA, List.mapM_cons, List.mapM_nil, Option.pure_def, Option.bind_eq_bind, Option.bind_some, Option.map_some, mkE_cons, mk_nil, mkO_cons, mkO_nil, loadA, ↓reduceIte, List.take_succ_cons, List.take_zero, List.drop_zero, List.drop_succ_cons, List.length_cons, List.length_nil, Nat.reduceAdd, Nat.reduceEqDiff, Nat.reduceLeDiff, Nat.zero_add, Nat.le_refl, reduceCtorEq, SV.tr, SV.trL, nmF, rn_nil, rn_cons1, rn_cons2, List.map_cons, List.map_nil, List.all_cons, List.all_nil, plainOb, SV.refsL, SV.refs, Ob.refs, X, F, List.range_succ, List.range_zero, List.nil_append, List.cons_append, List.isEmpty_nil, decide_true, Nat.reduceLT, Bool.and_self, Bool.and_true, and_self, and_true, List.getElem?_cons_zero, List.getElem?_cons_succ, List.nodup_cons, List.nodup_nil, List.mem_cons, List.not_mem_nil, not_false_eq_true, or_false, List.append_nil, mkO, setO_mk, List.mem_singleton]) (by simp [SV.tr, SV.trL])
  | true =>
    by_cases hs : 0 < sumL (partL s o l n.toNat)
    · have hok : okP n l s o = true := by simp only [okP, hAD, dec_t hs, Bool.and_self]
      have hAD2 := hAD
      rw [Bool.and_eq_true] at hAD2
      obtain ⟨a1, a2, a3⟩ := areA_out hAD2.1
      have hpl := partL_len s o l n.toNat
      have hpf := partL_fit hAD2.2 (show l.length ≤ 12 by omega) n.toNat
      generalize hp : partL s o l n.toNat = p at *
      have hn : n.toNat = p.length := hpl.symm
      have hp2 : partL s o l p.length = p := by rw [← hn]; exact hp
      have hl12 : p.length ≤ 12 := by omega
      have hsh := shlM hl12
      have hp12 := pow12 hl12
      have hn0 : ¬ n < 0 := by omega
      have hl4 : p.length ≤ 4096 := by omega
      have hsf := sum_fit hpf
      refine is.go hm hΓ k_EvenAfter o_EvenAfter (by simp [a_EvenAfter]) ?_
      simp only [a_EvenAfter, h_sharesAfter, c_sharesAfter, h_within, c_within, hc, hAD, hok, hs, hp2, hn, hsh, hn0, Int.reduceLE, List.zipIdx_cons, List.zipIdx_nil, ↓SP, SQ, Gam.add, stepM, callC, argC, lendO, nmBy, nmC, likeL, likeB, plainOb, offs, X, F, trP, trO, stepD, stepW, newA, SV.tr, SV.trL, fz, allP, Ob.tr, loadA, cellsA, SV.cells, binA, binI, eqOut, isSl, isPt, natOf, callee, snap, SV.refsL, SV.refs, thaw, fzAll, loA, hiA, elemOf, partsA, buildA, putCells, ↓reduceIte, reduceCtorEq, okCell, Nat.reduceAdd, Nat.reduceEqDiff, Nat.reduceSub, Nat.reduceMul, Nat.reduceLeDiff, Nat.reduceLT, Nat.reduceBEq, PV.scal, PV.scalL, SV.scal, SV.scalL, Ob.scal, PV.isCell, pure', resO]
      refine loop_at (fun s' : Nat × SV × SV × SV × SV => mkEnv [(0, si n), (1, .p (.sl 2 (asks l))), (2, .p (.agg [.int .i64 s, .int .i64 o])), (5, .bx 5 0), (6, si 0), (7, sb false), (8, .p (.sl 1 (ints p))), (9, si (sumL p)), (10, sb true), (11, si (evI p (sumL p) s'.1).1), (12, si (evI p (sumL p) s'.1).2), (13, s'.2.1), (14, s'.2.2.1), (24, sb false), (27, si ((2 ^ p.length : Nat) : Int)), (28, si s'.1), (29, s'.2.2.2.1), (43, s'.2.2.2.2)]) (fun s' => mkO [(5, some (.box [si s, si o]))]) (fun s' => s'.1 ≤ 2 ^ p.length) (fun s' => 2 ^ p.length - s'.1) (0, .junk, .junk, .junk, .junk) (by simp) rfl rfl ?_
      rintro ⟨v, c1, c2, c3, c4⟩ hi R hR hN
      simp only at hi
      by_cases h : v < 2 ^ p.length
      · have h1' : (v : Int) < ((2 ^ p.length : Nat) : Int) := Int.ofNat_lt.2 h
        have hw := wrap_one (i := v) (by omega)
        have hif := inI_fit hpf v p.length
        have w1 : IntKind.i64.wrap (2 * inI p v p.length) = 2 * inI p v p.length := wrap64 (by omega) (by omega)
        have w2 : IntKind.i64.wrap (2 * inI p v p.length - sumL p) = 2 * inI p v p.length - sumL p := wrap64 (by omega) (by omega)
        have w3 : IntKind.i64.wrap (-(2 * inI p v p.length - sumL p)) = -(2 * inI p v p.length - sumL p) := wrap64 (by omega) (by omega)
        have hdw : (if -(2 * inI p v p.length - sumL p) > 2 * inI p v p.length - sumL p then -(2 * inI p v p.length - sumL p) else 2 * inI p v p.length - sumL p) = distW p (sumL p) v := rfl
        by_cases hb : distW p (sumL p) v < (evI p (sumL p) v).2
        · have hnx : evI p (sumL p) (v + 1) = (v, distW p (sumL p) v) := by simp only [evI, hb, if_true]
          simp only [h1', hw, hl4, hpf, h_within, c_within, w1, w2, w3, hdw, hb, ↓SP, SQ, Gam.add, stepM, callC, argC, lendO, nmBy, nmC, likeL, likeB, plainOb, offs, X, F, trP, trO, stepD, stepW, newA, SV.tr, SV.trL, fz, allP, Ob.tr, loadA, cellsA, SV.cells, binA, binI, eqOut, isSl, isPt, natOf, callee, snap, SV.refsL, SV.refs, thaw, fzAll, loA, hiA, elemOf, partsA, buildA, putCells, ↓reduceIte, reduceCtorEq, okCell, Nat.reduceAdd, Nat.reduceEqDiff, Nat.reduceSub, Nat.reduceMul, Nat.reduceLeDiff, Nat.reduceLT, Nat.reduceBEq, PV.scal, PV.scalL, SV.scal, SV.scalL, Ob.scal, PV.isCell, pure', resO]
          exact hN (v + 1, _, _, _, _) _ _ (by simp only; omega) (by simp only; omega) (by rw [hnx]) rfl
        · have hnx : evI p (sumL p) (v + 1) = evI p (sumL p) v := by simp only [evI, hb, if_false]
          simp only [h1', hw, hl4, hpf, h_within, c_within, w1, w2, w3, hdw, hb, ↓SP, SQ, Gam.add, stepM, callC, argC, lendO, nmBy, nmC, likeL, likeB, plainOb, offs, X, F, trP, trO, stepD, stepW, newA, SV.tr, SV.trL, fz, allP, Ob.tr, loadA, cellsA, SV.cells, binA, binI, eqOut, isSl, isPt, natOf, callee, snap, SV.refsL, SV.refs, thaw, fzAll, loA, hiA, elemOf, partsA, buildA, putCells, ↓reduceIte, reduceCtorEq, okCell, Nat.reduceAdd, Nat.reduceEqDiff, Nat.reduceSub, Nat.reduceMul, Nat.reduceLeDiff, Nat.reduceLT, Nat.reduceBEq, PV.scal, PV.scalL, SV.scal, SV.scalL, Ob.scal, PV.isCell, pure', resO]
          exact hN (v + 1, _, _, _, _) _ _ (by simp only; omega) (by simp only; omega) (by rw [hnx]) rfl
      · have he : v = 2 ^ p.length := by omega
        have h1' : ¬ (v : Int) < ((2 ^ p.length : Nat) : Int) := by omega
        simp only [h1', ↓SP, SQ, Gam.add, stepM, callC, argC, lendO, nmBy, nmC, likeL, likeB, plainOb, offs, X, F, trP, trO, stepD, stepW, newA, SV.tr, SV.trL, fz, allP, Ob.tr, loadA, cellsA, SV.cells, binA, binI, eqOut, isSl, isPt, natOf, callee, snap, SV.refsL, SV.refs, thaw, fzAll, loA, hiA, elemOf, partsA, buildA, putCells, ↓reduceIte, reduceCtorEq, okCell, Nat.reduceAdd, Nat.reduceEqDiff, Nat.reduceSub, Nat.reduceMul, Nat.reduceLeDiff, Nat.reduceLT, Nat.reduceBEq, PV.scal, PV.scalL, SV.scal, SV.scalL, Ob.scal, PV.isCell, pure', resO]
        refine hR _ _ _ (by intro h; cases h) ?_
        simp only [↓SP, SQ, Gam.add, stepM, callC, argC, lendO, nmBy, nmC, likeL, likeB, plainOb, offs, X, F, trP, trO, stepD, stepW, newA, SV.tr, SV.trL, fz, allP, Ob.tr, loadA, cellsA, SV.cells, binA, binI, eqOut, isSl, isPt, natOf, callee, snap, SV.refsL, SV.refs, thaw, fzAll, loA, hiA, elemOf, partsA, buildA, putCells, ↓reduceIte, reduceCtorEq, okCell, Nat.reduceAdd, Nat.reduceEqDiff, Nat.reduceSub, Nat.reduceMul, Nat.reduceLeDiff, Nat.reduceLT, Nat.reduceBEq, PV.scal, PV.scalL, SV.scal, SV.scalL, Ob.scal, PV.isCell, pure', resO]
        subst he
        exact finA_val (by simp [retA, rvA, List.mapM_cons, List.mapM_nil, Option.pure_def, Option.bind_eq_bind, Option.bind_some, Option.map_some, mkE_cons, mk_nil, mkO_cons, mkO_nil, loadA, ↓reduceIte, List.take_succ_cons, List.take_zero, List.drop_zero, List.drop_succ_cons, List.length_cons, List.length_nil, Nat.reduceAdd, Nat.reduceEqDiff, Nat.reduceLeDiff, Nat.zero_add, Nat.le_refl, reduceCtorEq, SV.tr, SV.trL, nmF, rn_nil, rn_cons1, rn_cons2, List.map_cons, List.map_nil, List.all_cons, List.all_nil, plainOb, SV.refsL, SV.refs, Ob.refs, X, F, List.range_succ, List.range_zero, List.nil_append, List.cons_append, List.isEmpty_nil, decide_true, Nat.reduceLT, Bool.and_self, Bool.and_true, and_self, and_true, List.getElem?_cons_zero, List.getElem?_cons_succ, List.nodup_cons, List.nodup_nil, List.mem_cons, List.not_mem_nil, not_false_eq_true, or_false, List.append_nil, mkO, setO_mk, List.mem_singleton]) (by simp [SV.tr, SV.trL])
    · have hok : okP n l s o = false := by simp only [okP, hAD, dec_f hs, Bool.and_false]
      refine is.go hm hΓ k_EvenAfter o_EvenAfter (by simp [a_EvenAfter]) ?_
      simp only [a_EvenAfter, h_sharesAfter, c_sharesAfter, h_within, c_within, hc, hAD, hok, hs, Bool.false_eq_true, Int.reduceLE, List.zipIdx_cons, List.zipIdx_nil, ↓SP, SQ, Gam.add, stepM, callC, argC, lendO, nmBy, nmC, likeL, likeB, plainOb, offs, X, F, trP, trO, stepD, stepW, newA, SV.tr, SV.trL, fz, allP, Ob.tr, loadA, cellsA, SV.cells, binA, binI, eqOut, isSl, isPt, natOf, callee, snap, SV.refsL, SV.refs, thaw, fzAll, loA, hiA, elemOf, partsA, buildA, putCells, ↓reduceIte, reduceCtorEq, okCell, Nat.reduceAdd, Nat.reduceEqDiff, Nat.reduceSub, Nat.reduceMul, Nat.reduceLeDiff, Nat.reduceLT, Nat.reduceBEq, PV.scal, PV.scalL, SV.scal, SV.scalL, Ob.scal, PV.isCell, pure', resO]
      exact finA_val (by simp [retA, rvA, List.mapM_cons, List.mapM_nil, Option.pure_def, Option.bind_eq_bind, Option.bind_some, Option.map_some, mkE_cons, mk_nil, mkO_cons, mkO_nil, loadA, ↓reduceIte, List.take_succ_cons, List.take_zero, List.drop_zero, List.drop_succ_cons, List.length_cons, List.length_nil, Nat.reduceAdd, Nat.reduceEqDiff, Nat.reduceLeDiff, Nat.zero_add, Nat.le_refl, reduceCtorEq, SV.tr, SV.trL, nmF, rn_nil, rn_cons1, rn_cons2, List.map_cons, List.map_nil, List.all_cons, List.all_nil, plainOb, SV.refsL, SV.refs, Ob.refs, X, F, List.range_succ, List.range_zero, List.nil_append, List.cons_append, List.isEmpty_nil, decide_true, Nat.reduceLT, Bool.and_self, Bool.and_true, and_self, and_true, List.getElem?_cons_zero, List.getElem?_cons_succ, List.nodup_cons, List.nodup_nil, List.mem_cons, List.not_mem_nil, not_false_eq_true, or_false, List.append_nil, mkO, setO_mk, List.mem_singleton]) (by simp [SV.tr, SV.trL])
theorem s_s_EvenAfter {P : Program} (hm : P.follows .mixedOrders = true) {Γ : Gam} (hΓ : GS P Γ) {n : FuncId} {f_l7Answers : FuncId} {f_l7After : FuncId} {f_l7In : FuncId} {f_l1Most : FuncId} (is : Is P n (a_s_EvenAfter f_l7Answers f_l7After f_l7In f_l1Most)) (h_l7Answers : Γ f_l7Answers = c_l7Answers) (h_l7After : Γ f_l7After = c_shares) (h_l7In : Γ f_l7In = c_within) (h_l1Most : Γ f_l1Most = c_l1Most)  : Says P n c_EvenAfter := by
  refine Says.pure fun args r fs h => ?_
  split at h
  case h_2 => cases h
  rename_i n l_ s o
  split at h
  case isFalse => cases h
  rename_i hc
  obtain ⟨hl_, hc⟩ := hc
  obtain ⟨l, rfl⟩ := isAs_out hl_
  simp only [ofI_ints, ofBo_bools, ofAs_asks, Option.some.injEq, Prod.mk.injEq] at h hc
  obtain ⟨rfl, rfl⟩ := h
  cases hAD : (areA n l 12 && isD s o) with
  | false =>
    have hok : okP n l s o = false := by simp only [okP, hAD, Bool.false_and]
    refine is.go hm hΓ k_s_EvenAfter o_s_EvenAfter (by simp [a_s_EvenAfter]) ?_
    simp only [a_s_EvenAfter, h_l7Answers, c_l7Answers, h_l7After, c_shares, h_l7In, c_within, h_l1Most, c_l1Most, hc, hAD, hok, Bool.false_eq_true, Int.reduceLE, List.zipIdx_cons, List.zipIdx_nil, ↓SP, SQ, Gam.add, stepM, callC, argC, lendO, nmBy, nmC, likeL, likeB, plainOb, offs, X, F, trP, trO, stepD, stepW, newA, SV.tr, SV.trL, fz, allP, Ob.tr, loadA, cellsA, SV.cells, binA, binI, eqOut, isSl, isPt, natOf, callee, snap, SV.refsL, SV.refs, thaw, fzAll, loA, hiA, elemOf, partsA, buildA, putCells, ↓reduceIte, reduceCtorEq, okCell, Nat.reduceAdd, Nat.reduceEqDiff, Nat.reduceSub, Nat.reduceMul, Nat.reduceLeDiff, Nat.reduceLT, Nat.reduceBEq, PV.scal, PV.scalL, SV.scal, SV.scalL, Ob.scal, PV.isCell, pure', resO]
    exact finA_val (by simp [retA, rvA, List.mapM_cons, List.mapM_nil, Option.pure_def, Option.bind_eq_bind, Option.bind_some, Option.map_some, mkE_cons, mk_nil, mkO_cons, mkO_nil, loadA, ↓reduceIte, List.take_succ_cons, List.take_zero, List.drop_zero, List.drop_succ_cons, List.length_cons, List.length_nil, Nat.reduceAdd, Nat.reduceEqDiff, Nat.reduceLeDiff, Nat.zero_add, Nat.le_refl, reduceCtorEq, SV.tr, SV.trL, nmF, rn_nil, rn_cons1, rn_cons2, List.map_cons, List.map_nil, List.all_cons, List.all_nil, plainOb, SV.refsL, SV.refs, Ob.refs, X, F, List.range_succ, List.range_zero, List.nil_append, List.cons_append, List.isEmpty_nil, decide_true, Nat.reduceLT, Bool.and_self, Bool.and_true, and_self, and_true, List.getElem?_cons_zero, List.getElem?_cons_succ, List.nodup_cons, List.nodup_nil, List.mem_cons, List.not_mem_nil, not_false_eq_true, or_false, List.append_nil, mkO, setO_mk, List.mem_singleton]) (by simp [SV.tr, SV.trL])
  | true =>
    have hAD2 := hAD
    rw [Bool.and_eq_true] at hAD2
    obtain ⟨a1, a2, a3⟩ := areA_out hAD2.1
    have g0 : 0 ≤ n := by omega
    have g1 : l.length ≤ 12 := by omega
    have hpl := partL_len s o l n.toNat
    have hpf := partL_fit hAD2.2 g1 n.toNat
    have hok : okP n l s o = decide (0 < sumL (partL s o l n.toNat)) := by simp only [okP, hAD, Bool.true_and]
    have hD := hAD2.2
    generalize hp : partL s o l n.toNat = p at *
    have hn : n.toNat = p.length := hpl.symm
    have hp2 : partL s o l p.length = p := by rw [← hn]; exact hp
    have hsf := sum_fit hpf
    by_cases hs : sumL p = 0
    · have hok2 : okP n l s o = false := by rw [hok, hs]; rfl
      refine is.go hm hΓ k_s_EvenAfter o_s_EvenAfter (by simp [a_s_EvenAfter]) ?_
      simp only [a_s_EvenAfter, h_l7Answers, c_l7Answers, h_l7After, c_shares, h_l7In, c_within, h_l1Most, c_l1Most, hc, hAD, hAD2.1, g0, a2, g1, hD, hp2, hn, hs, hok2, Bool.false_eq_true, List.zipIdx_cons, List.zipIdx_nil, ↓SP, SQ, Gam.add, stepM, callC, argC, lendO, nmBy, nmC, likeL, likeB, plainOb, offs, X, F, trP, trO, stepD, stepW, newA, SV.tr, SV.trL, fz, allP, Ob.tr, loadA, cellsA, SV.cells, binA, binI, eqOut, isSl, isPt, natOf, callee, snap, SV.refsL, SV.refs, thaw, fzAll, loA, hiA, elemOf, partsA, buildA, putCells, ↓reduceIte, reduceCtorEq, okCell, Nat.reduceAdd, Nat.reduceEqDiff, Nat.reduceSub, Nat.reduceMul, Nat.reduceLeDiff, Nat.reduceLT, Nat.reduceBEq, PV.scal, PV.scalL, SV.scal, SV.scalL, Ob.scal, PV.isCell, pure', resO]
      exact finA_val (by simp [retA, rvA, List.mapM_cons, List.mapM_nil, Option.pure_def, Option.bind_eq_bind, Option.bind_some, Option.map_some, mkE_cons, mk_nil, mkO_cons, mkO_nil, loadA, ↓reduceIte, List.take_succ_cons, List.take_zero, List.drop_zero, List.drop_succ_cons, List.length_cons, List.length_nil, Nat.reduceAdd, Nat.reduceEqDiff, Nat.reduceLeDiff, Nat.zero_add, Nat.le_refl, reduceCtorEq, SV.tr, SV.trL, nmF, rn_nil, rn_cons1, rn_cons2, List.map_cons, List.map_nil, List.all_cons, List.all_nil, plainOb, SV.refsL, SV.refs, Ob.refs, X, F, List.range_succ, List.range_zero, List.nil_append, List.cons_append, List.isEmpty_nil, decide_true, Nat.reduceLT, Bool.and_self, Bool.and_true, and_self, and_true, List.getElem?_cons_zero, List.getElem?_cons_succ, List.nodup_cons, List.nodup_nil, List.mem_cons, List.not_mem_nil, not_false_eq_true, or_false, List.append_nil, mkO, setO_mk, List.mem_singleton]) (by simp [SV.tr, SV.trL])
    · have hok2 : okP n l s o = true := by rw [hok]; exact dec_t (by omega)
      have hsb : (sumL p == 0) = false := beq_eq_false_iff_ne.2 hs
      have hl12 : p.length ≤ 12 := by omega
      have hsh := shlM hl12
      have hp12 := pow12 hl12
      have hn0 : ¬ n < 0 := by omega
      have hl4 : p.length ≤ 4096 := by omega
      have hp1 : 1 ≤ 2 ^ p.length := Nat.one_le_two_pow
      have he1 := evI_1 (p := p) hsf.1
      refine is.go hm hΓ k_s_EvenAfter o_s_EvenAfter (by simp [a_s_EvenAfter]) ?_
      simp only [a_s_EvenAfter, h_l7Answers, c_l7Answers, h_l7After, c_shares, h_l7In, c_within, h_l1Most, c_l1Most, hc, hAD, hAD2.1, g0, a2, g1, hD, hp2, hn, hsb, hok2, List.zipIdx_cons, List.zipIdx_nil, ↓SP, SQ, Gam.add, stepM, callC, argC, lendO, nmBy, nmC, likeL, likeB, plainOb, offs, X, F, trP, trO, stepD, stepW, newA, SV.tr, SV.trL, fz, allP, Ob.tr, loadA, cellsA, SV.cells, binA, binI, eqOut, isSl, isPt, natOf, callee, snap, SV.refsL, SV.refs, thaw, fzAll, loA, hiA, elemOf, partsA, buildA, putCells, ↓reduceIte, reduceCtorEq, okCell, Nat.reduceAdd, Nat.reduceEqDiff, Nat.reduceSub, Nat.reduceMul, Nat.reduceLeDiff, Nat.reduceLT, Nat.reduceBEq, PV.scal, PV.scalL, SV.scal, SV.scalL, Ob.scal, PV.isCell, pure', resO]
      refine loop_at (fun s' : Nat × SV × SV × SV => mkEnv [(0, si n), (1, .p (.sl 2 (asks l))), (2, .p (.agg [.int .i64 s, .int .i64 o])), (5, .bx 5 0), (6, si 0), (7, sb false), (8, .p (.sl 1 (ints p))), (9, si (sumL p)), (10, si (evI p (sumL p) s'.1).1), (11, si (evI p (sumL p) s'.1).2), (12, si s'.1), (13, s'.2.1), (18, sb false), (27, sb false), (32, s'.2.2.1), (47, s'.2.2.2)]) (fun s' => mkO [(5, some (.box [si s, si o]))]) (fun s' => 1 ≤ s'.1 ∧ s'.1 ≤ 2 ^ p.length) (fun s' => 2 ^ p.length - s'.1) (1, .junk, .junk, .junk) (by simp only; omega) (by simp only [he1]; rfl) rfl ?_
      rintro ⟨v, c1, c2, c3⟩ ⟨hi0, hi⟩ R hR hN
      simp only at hi hi0
      by_cases h : v < 2 ^ p.length
      · have h1' : (v : Int) < ((2 ^ p.length : Nat) : Int) := Int.ofNat_lt.2 h
        have hw := wrap_one (i := v) (by omega)
        have hif := inI_fit hpf v p.length
        have w1 : IntKind.i64.wrap (2 * inI p v p.length) = 2 * inI p v p.length := wrap64 (by omega) (by omega)
        have w2 : IntKind.i64.wrap (2 * inI p v p.length - sumL p) = 2 * inI p v p.length - sumL p := wrap64 (by omega) (by omega)
        have w3 : IntKind.i64.wrap (-(2 * inI p v p.length - sumL p)) = -(2 * inI p v p.length - sumL p) := wrap64 (by omega) (by omega)
        have hdw := absW_eq (2 * inI p v p.length - sumL p)
        have hdw2 : absW (2 * inI p v p.length - sumL p) = distW p (sumL p) v := rfl
        by_cases hb : distW p (sumL p) v < (evI p (sumL p) v).2
        · have hnx : evI p (sumL p) (v + 1) = (v, distW p (sumL p) v) := by simp only [evI, hb, if_true]
          simp only [h1', hw, hn, hsh, hn0, hl4, hpf, h_l7In, c_within, h_l1Most, c_l1Most, w1, w2, w3, hdw, hdw2, hb, ↓SP, SQ, Gam.add, stepM, callC, argC, lendO, nmBy, nmC, likeL, likeB, plainOb, offs, X, F, trP, trO, stepD, stepW, newA, SV.tr, SV.trL, fz, allP, Ob.tr, loadA, cellsA, SV.cells, binA, binI, eqOut, isSl, isPt, natOf, callee, snap, SV.refsL, SV.refs, thaw, fzAll, loA, hiA, elemOf, partsA, buildA, putCells, ↓reduceIte, reduceCtorEq, okCell, Nat.reduceAdd, Nat.reduceEqDiff, Nat.reduceSub, Nat.reduceMul, Nat.reduceLeDiff, Nat.reduceLT, Nat.reduceBEq, PV.scal, PV.scalL, SV.scal, SV.scalL, Ob.scal, PV.isCell, pure', resO]
          exact hN (v + 1, _, _, _) _ _ ⟨by simp only; omega, by simp only; omega⟩ (by simp only; omega) (by rw [hnx]) rfl
        · have hnx : evI p (sumL p) (v + 1) = evI p (sumL p) v := by simp only [evI, hb, if_false]
          simp only [h1', hw, hn, hsh, hn0, hl4, hpf, h_l7In, c_within, h_l1Most, c_l1Most, w1, w2, w3, hdw, hdw2, hb, ↓SP, SQ, Gam.add, stepM, callC, argC, lendO, nmBy, nmC, likeL, likeB, plainOb, offs, X, F, trP, trO, stepD, stepW, newA, SV.tr, SV.trL, fz, allP, Ob.tr, loadA, cellsA, SV.cells, binA, binI, eqOut, isSl, isPt, natOf, callee, snap, SV.refsL, SV.refs, thaw, fzAll, loA, hiA, elemOf, partsA, buildA, putCells, ↓reduceIte, reduceCtorEq, okCell, Nat.reduceAdd, Nat.reduceEqDiff, Nat.reduceSub, Nat.reduceMul, Nat.reduceLeDiff, Nat.reduceLT, Nat.reduceBEq, PV.scal, PV.scalL, SV.scal, SV.scalL, Ob.scal, PV.isCell, pure', resO]
          exact hN (v + 1, _, _, _) _ _ ⟨by simp only; omega, by simp only; omega⟩ (by simp only; omega) (by rw [hnx]) rfl
      · have he : v = 2 ^ p.length := by omega
        have h1' : ¬ (v : Int) < ((2 ^ p.length : Nat) : Int) := by omega
        simp only [hn, hsh, hn0, h1', ↓SP, SQ, Gam.add, stepM, callC, argC, lendO, nmBy, nmC, likeL, likeB, plainOb, offs, X, F, trP, trO, stepD, stepW, newA, SV.tr, SV.trL, fz, allP, Ob.tr, loadA, cellsA, SV.cells, binA, binI, eqOut, isSl, isPt, natOf, callee, snap, SV.refsL, SV.refs, thaw, fzAll, loA, hiA, elemOf, partsA, buildA, putCells, ↓reduceIte, reduceCtorEq, okCell, Nat.reduceAdd, Nat.reduceEqDiff, Nat.reduceSub, Nat.reduceMul, Nat.reduceLeDiff, Nat.reduceLT, Nat.reduceBEq, PV.scal, PV.scalL, SV.scal, SV.scalL, Ob.scal, PV.isCell, pure', resO]
        refine hR _ _ _ (by intro h; cases h) ?_
        simp only [↓SP, SQ, Gam.add, stepM, callC, argC, lendO, nmBy, nmC, likeL, likeB, plainOb, offs, X, F, trP, trO, stepD, stepW, newA, SV.tr, SV.trL, fz, allP, Ob.tr, loadA, cellsA, SV.cells, binA, binI, eqOut, isSl, isPt, natOf, callee, snap, SV.refsL, SV.refs, thaw, fzAll, loA, hiA, elemOf, partsA, buildA, putCells, ↓reduceIte, reduceCtorEq, okCell, Nat.reduceAdd, Nat.reduceEqDiff, Nat.reduceSub, Nat.reduceMul, Nat.reduceLeDiff, Nat.reduceLT, Nat.reduceBEq, PV.scal, PV.scalL, SV.scal, SV.scalL, Ob.scal, PV.isCell, pure', resO]
        subst he
        exact finA_val (by simp [retA, rvA, List.mapM_cons, List.mapM_nil, Option.pure_def, Option.bind_eq_bind, Option.bind_some, Option.map_some, mkE_cons, mk_nil, mkO_cons, mkO_nil, loadA, ↓reduceIte, List.take_succ_cons, List.take_zero, List.drop_zero, List.drop_succ_cons, List.length_cons, List.length_nil, Nat.reduceAdd, Nat.reduceEqDiff, Nat.reduceLeDiff, Nat.zero_add, Nat.le_refl, reduceCtorEq, SV.tr, SV.trL, nmF, rn_nil, rn_cons1, rn_cons2, List.map_cons, List.map_nil, List.all_cons, List.all_nil, plainOb, SV.refsL, SV.refs, Ob.refs, X, F, List.range_succ, List.range_zero, List.nil_append, List.cons_append, List.isEmpty_nil, decide_true, Nat.reduceLT, Bool.and_self, Bool.and_true, and_self, and_true, List.getElem?_cons_zero, List.getElem?_cons_succ, List.nodup_cons, List.nodup_nil, List.mem_cons, List.not_mem_nil, not_false_eq_true, or_false, List.append_nil, mkO, setO_mk, List.mem_singleton]) (by simp [SV.tr, SV.trL])
end Go.Proofs.Ytmbljmolegalhaa.Pam
