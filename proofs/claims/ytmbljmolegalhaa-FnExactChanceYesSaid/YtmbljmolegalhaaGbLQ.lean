/- A part of the proof that stands in this folder: a small machine whose steps are shown to be the steps of the model, or walks of functions by it. No condition of its own. -/
import Derived.Test.YtmbljmolegalhaaGbLP
set_option linter.unusedVariables false
set_option linter.unusedSimpArgs false
namespace Go.Proofs.Ytmbljmolegalhaa.Pam
open Go
/-- The share of the numbers that a question asks of, of the first i. -/
def inI (p : List Int) (v : Int) : Nat → Int
  | 0 => 0
  | i + 1 => if (bitW v (i : Nat) == 1) = true then inI p v i + p.getD i 0 else inI p v i
theorem inI_fit {p : List Int} (h : fitL p) (v : Int) : ∀ i, 0 ≤ inI p v i ∧ inI p v i ≤ 1000000000000 * (i : Int)
  | 0 => by simp [inI]
  | i + 1 => by
    have h1 := inI_fit h v i
    have h2 := fit_get h i
    simp only [inI]
    split <;> omega
def a_within (f_has : FuncId) : AFn := ⟨2, 
  .seq (.reg [⟨some 4, none, .d (.mv (.c (.int .i64 0)))⟩])
  (.seq (.reg [⟨some 5, none, .d (.mv (.c (.int .i64 0)))⟩])
  (.seq (.seq (.reg [⟨some 8, none, .d (.mv (.t 0))⟩,
    ⟨some 9, none, .d (.len (.t 8))⟩,
    ⟨some 10, none, .d (.mv (.c (.int .i64 0)))⟩])
  (.block 0 (.loop (.seq (.reg [⟨some 11, none, .d (.bin .arith .lss (.t 10) (.t 9))⟩])
    (.seq (.cond (.t 11) (.skip) (.exit 0))
    (.seq (.block 1 (.seq (.reg [⟨some 12, none, .d (.mv (.t 10))⟩,
       ⟨some 13, none, .d (.ia 1 (.t 8) (.t 10))⟩,
       ⟨some 14, none, .d (.load false 1 (.t 13))⟩,
       ⟨some 6, none, .d (.mv (.t 12))⟩,
       ⟨some 7, none, .d (.mv (.t 14))⟩])
     (.seq (.reg [⟨some 15, none, .d (.mv (.t 1))⟩,
       ⟨some 16, none, .d (.mv (.t 6))⟩,
       ⟨some 17, none, .d (.call (.f f_has) [(.t 15), (.t 16)])⟩])
     (.cond (.t 17) (.reg [⟨some 18, none, .d (.mv (.t 5))⟩,
        ⟨some 19, none, .d (.mv (.t 7))⟩,
        ⟨some 20, none, .d (.bin .arith .add (.t 18) (.t 19))⟩,
        ⟨some 5, none, .d (.mv (.t 20))⟩]) (.skip)))))
    (.reg [⟨some 21, none, .d (.bin .arith .add (.t 10) (.c (.int .i64 1)))⟩,
      ⟨some 10, none, .d (.mv (.t 21))⟩])))))))
  (.seq (.reg [⟨some 22, none, .d (.mv (.t 5))⟩,
    ⟨some 4, none, .d (.mv (.t 22))⟩])
  (.ret)))), [.tmp 4]⟩
def n_within : Nat → Option Ann := fun _ => none
abbrev k_within : List Nat := [0, 1, 4, 5, 6, 7, 8, 9, 10, 11, 17]
abbrev o_within : List Nat := []
def a_l7In : AFn := ⟨2, 
  .seq (.reg [⟨some 4, none, .d (.mv (.c (.int .i64 0)))⟩])
  (.seq (.reg [⟨some 5, none, .d (.mv (.c (.int .i64 0)))⟩])
  (.seq (.seq (.reg [⟨some 6, none, .d (.mv (.c (.int .i64 0)))⟩])
  (.block 0 (.loop (.seq (.seq (.reg [⟨some 7, none, .d (.mv (.t 6))⟩,
      ⟨some 8, none, .d (.mv (.t 0))⟩,
      ⟨some 9, none, .d (.len (.t 8))⟩,
      ⟨some 10, none, .d (.bin .arith .lss (.t 7) (.t 9))⟩])
    (.cond (.t 10) (.skip) (.exit 0)))
    (.seq (.block 1 (.seq (.reg [⟨some 13, none, .d (.mv (.t 1))⟩,
       ⟨some 14, none, .d (.mv (.t 6))⟩,
       ⟨some 15, none, .d (.bin .arith .shr (.t 13) (.t 14))⟩,
       ⟨some 16, none, .d (.bin .arith .and (.t 15) (.c (.int .i64 1)))⟩,
       ⟨some 17, none, .d (.bin .arith .eql (.t 16) (.c (.int .i64 1)))⟩])
     (.cond (.t 17) (.reg [⟨some 18, none, .d (.mv (.t 5))⟩,
        ⟨some 19, none, .d (.mv (.t 0))⟩,
        ⟨some 20, none, .d (.mv (.t 6))⟩,
        ⟨some 21, none, .d (.ia 1 (.t 19) (.t 20))⟩,
        ⟨some 22, none, .d (.load false 1 (.t 21))⟩,
        ⟨some 23, none, .d (.bin .arith .add (.t 18) (.t 22))⟩,
        ⟨some 5, none, .d (.mv (.t 23))⟩]) (.skip))))
    (.reg [⟨some 11, none, .d (.mv (.t 6))⟩,
      ⟨some 12, none, .d (.bin .arith .add (.t 11) (.c (.int .i64 1)))⟩,
      ⟨some 6, none, .d (.mv (.t 12))⟩]))))))
  (.seq (.reg [⟨some 24, none, .d (.mv (.t 5))⟩,
    ⟨some 4, none, .d (.mv (.t 24))⟩])
  (.ret)))), [.tmp 4]⟩
def n_l7In : Nat → Option Ann := fun _ => none
abbrev k_l7In : List Nat := [0, 1, 4, 5, 6, 10, 17]
abbrev o_l7In : List Nat := []
def c_within : Con := pure' fun
  | [.p (.sl 1 p_), .p (.int .i64 v)] => if isI p_ = true ∧ ((ofI p_).length ≤ 4096 ∧ fitL (ofI p_)) then some (.p (.int .i64 (inI (ofI p_) v (ofI p_).length)), []) else none
  | _ => none
theorem s_within {P : Program} (hm : P.follows .mixedOrders = true) {Γ : Gam} (hΓ : GS P Γ) {n : FuncId} {f_has : FuncId} (is : Is P n (a_within f_has)) (h_has : Γ f_has = c_has)  : Says P n c_within := by
  refine Says.pure fun args r fs h => ?_
  split at h
  case h_2 => cases h
  rename_i p_ v
  split at h
  case isFalse => cases h
  rename_i hc
  obtain ⟨hp_, hc⟩ := hc
  obtain ⟨p, rfl⟩ := isI_out hp_
  simp only [ofI_ints, ofBo_bools, ofAs_asks, Option.some.injEq, Prod.mk.injEq] at h hc
  obtain ⟨rfl, rfl⟩ := h
  obtain ⟨hl, hf⟩ := hc
  refine is.go hm hΓ k_within o_within (by simp [a_within]) ?_
  simp only [a_within, h_has, c_has, List.zipIdx_cons, List.zipIdx_nil, ↓SP, SQ, Gam.add, stepM, callC, argC, lendO, nmBy, nmC, likeL, likeB, plainOb, offs, X, F, trP, trO, stepD, stepW, newA, SV.tr, SV.trL, fz, allP, Ob.tr, loadA, cellsA, SV.cells, binA, binI, eqOut, isSl, isPt, natOf, callee, snap, SV.refsL, SV.refs, thaw, fzAll, loA, hiA, elemOf, partsA, buildA, putCells, ↓reduceIte, reduceCtorEq, okCell, Nat.reduceAdd, Nat.reduceEqDiff, Nat.reduceSub, Nat.reduceMul, Nat.reduceLeDiff, Nat.reduceLT, Nat.reduceBEq, PV.scal, PV.scalL, SV.scal, SV.scalL, Ob.scal, PV.isCell, pure', resO]
  refine loop_at (fun s : Nat × SV × SV × SV × SV => mkEnv [(0, .p (.sl 1 (ints p))), (1, si v), (4, si 0), (5, si (inI p v s.1)), (6, s.2.1), (7, s.2.2.1), (8, .p (.sl 1 (ints p))), (9, si p.length), (10, si s.1), (11, s.2.2.2.1), (17, s.2.2.2.2)]) (fun s => mkO []) (fun s => s.1 ≤ p.length) (fun s => p.length - s.1) (0, .junk, .junk, .junk, .junk) (by simp) rfl rfl ?_
  rintro ⟨i, c1, c2, c3, c4⟩ hi R hR hN
  simp only at hi
  by_cases h : i < p.length
  · have h1 : (i : Int) < p.length := by omega
    have hw := wrap_one (i := i) (by omega)
    have hg := ints_get h
    have hi0 : (0 : Int) ≤ i := by omega
    have hif := inI_fit hf v i
    have hgf := fit_get hf i
    cases hb : (bitW v (i : Nat) == 1) with
    | true =>
      have hs : IntKind.i64.wrap (inI p v i + p.getD i 0) = inI p v (i + 1) := by
        simp only [inI, hb, if_true]
        exact wrap64 (by omega) (by omega)
      simp only [h1, hw, hg, hi0, hb, hs, h_has, c_has, ↓SP, SQ, Gam.add, stepM, callC, argC, lendO, nmBy, nmC, likeL, likeB, plainOb, offs, X, F, trP, trO, stepD, stepW, newA, SV.tr, SV.trL, fz, allP, Ob.tr, loadA, cellsA, SV.cells, binA, binI, eqOut, isSl, isPt, natOf, callee, snap, SV.refsL, SV.refs, thaw, fzAll, loA, hiA, elemOf, partsA, buildA, putCells, ↓reduceIte, reduceCtorEq, okCell, Nat.reduceAdd, Nat.reduceEqDiff, Nat.reduceSub, Nat.reduceMul, Nat.reduceLeDiff, Nat.reduceLT, Nat.reduceBEq, PV.scal, PV.scalL, SV.scal, SV.scalL, Ob.scal, PV.isCell, pure', resO]
      exact hN (i + 1, _, _, _, _) _ _ (by simp only; omega) (by simp only; omega) rfl rfl
    | false =>
      have hs : inI p v (i + 1) = inI p v i := by simp only [inI, hb, Bool.false_eq_true, if_false]
      simp only [h1, hw, hg, hi0, hb, h_has, c_has, ↓SP, SQ, Gam.add, stepM, callC, argC, lendO, nmBy, nmC, likeL, likeB, plainOb, offs, X, F, trP, trO, stepD, stepW, newA, SV.tr, SV.trL, fz, allP, Ob.tr, loadA, cellsA, SV.cells, binA, binI, eqOut, isSl, isPt, natOf, callee, snap, SV.refsL, SV.refs, thaw, fzAll, loA, hiA, elemOf, partsA, buildA, putCells, ↓reduceIte, reduceCtorEq, okCell, Nat.reduceAdd, Nat.reduceEqDiff, Nat.reduceSub, Nat.reduceMul, Nat.reduceLeDiff, Nat.reduceLT, Nat.reduceBEq, PV.scal, PV.scalL, SV.scal, SV.scalL, Ob.scal, PV.isCell, pure', resO]
      exact hN (i + 1, _, _, _, _) _ _ (by simp only; omega) (by simp only; omega) (by rw [hs]) rfl
  · have he : i = p.length := by omega
    have h1 : ¬ (i : Int) < p.length := by omega
    simp only [h1, ↓SP, SQ, Gam.add, stepM, callC, argC, lendO, nmBy, nmC, likeL, likeB, plainOb, offs, X, F, trP, trO, stepD, stepW, newA, SV.tr, SV.trL, fz, allP, Ob.tr, loadA, cellsA, SV.cells, binA, binI, eqOut, isSl, isPt, natOf, callee, snap, SV.refsL, SV.refs, thaw, fzAll, loA, hiA, elemOf, partsA, buildA, putCells, ↓reduceIte, reduceCtorEq, okCell, Nat.reduceAdd, Nat.reduceEqDiff, Nat.reduceSub, Nat.reduceMul, Nat.reduceLeDiff, Nat.reduceLT, Nat.reduceBEq, PV.scal, PV.scalL, SV.scal, SV.scalL, Ob.scal, PV.isCell, pure', resO]
    refine hR _ _ _ (by intro h; cases h) ?_
    simp only [↓SP, SQ, Gam.add, stepM, callC, argC, lendO, nmBy, nmC, likeL, likeB, plainOb, offs, X, F, trP, trO, stepD, stepW, newA, SV.tr, SV.trL, fz, allP, Ob.tr, loadA, cellsA, SV.cells, binA, binI, eqOut, isSl, isPt, natOf, callee, snap, SV.refsL, SV.refs, thaw, fzAll, loA, hiA, elemOf, partsA, buildA, putCells, ↓reduceIte, reduceCtorEq, okCell, Nat.reduceAdd, Nat.reduceEqDiff, Nat.reduceSub, Nat.reduceMul, Nat.reduceLeDiff, Nat.reduceLT, Nat.reduceBEq, PV.scal, PV.scalL, SV.scal, SV.scalL, Ob.scal, PV.isCell, pure', resO]
    subst he
    exact finA_val (by simp [retA, rvA, List.mapM_cons, List.mapM_nil, Option.pure_def, Option.bind_eq_bind, Option.bind_some, Option.map_some, mkE_cons, mk_nil, mkO_cons, mkO_nil, loadA, ↓reduceIte, List.take_succ_cons, List.take_zero, List.drop_zero, List.drop_succ_cons, List.length_cons, List.length_nil, Nat.reduceAdd, Nat.reduceEqDiff, Nat.reduceLeDiff, Nat.zero_add, Nat.le_refl, reduceCtorEq, SV.tr, SV.trL, nmF, rn_nil, rn_cons1, rn_cons2, List.map_cons, List.map_nil, List.all_cons, List.all_nil, plainOb, SV.refsL, SV.refs, Ob.refs, X, F, List.range_succ, List.range_zero, List.nil_append, List.cons_append, List.isEmpty_nil, decide_true, Nat.reduceLT, Bool.and_self, Bool.and_true, and_self, and_true, List.getElem?_cons_zero, List.getElem?_cons_succ, List.nodup_cons, List.nodup_nil, List.mem_cons, List.not_mem_nil, not_false_eq_true, or_false, List.append_nil, mkO, setO_mk, List.mem_singleton]) (by simp [SV.tr, SV.trL])
theorem s_l7In {P : Program} (hm : P.follows .mixedOrders = true) {Γ : Gam} (hΓ : GS P Γ) {n : FuncId} (is : Is P n a_l7In)  : Says P n c_within := by
  refine Says.pure fun args r fs h => ?_
  split at h
  case h_2 => cases h
  rename_i p_ v
  split at h
  case isFalse => cases h
  rename_i hc
  obtain ⟨hp_, hc⟩ := hc
  obtain ⟨p, rfl⟩ := isI_out hp_
  simp only [ofI_ints, ofBo_bools, ofAs_asks, Option.some.injEq, Prod.mk.injEq] at h hc
  obtain ⟨rfl, rfl⟩ := h
  obtain ⟨hl, hf⟩ := hc
  refine is.go hm hΓ k_l7In o_l7In (by simp [a_l7In]) ?_
  simp only [a_l7In, List.zipIdx_cons, List.zipIdx_nil, ↓SP, SQ, Gam.add, stepM, callC, argC, lendO, nmBy, nmC, likeL, likeB, plainOb, offs, X, F, trP, trO, stepD, stepW, newA, SV.tr, SV.trL, fz, allP, Ob.tr, loadA, cellsA, SV.cells, binA, binI, eqOut, isSl, isPt, natOf, callee, snap, SV.refsL, SV.refs, thaw, fzAll, loA, hiA, elemOf, partsA, buildA, putCells, ↓reduceIte, reduceCtorEq, okCell, Nat.reduceAdd, Nat.reduceEqDiff, Nat.reduceSub, Nat.reduceMul, Nat.reduceLeDiff, Nat.reduceLT, Nat.reduceBEq, PV.scal, PV.scalL, SV.scal, SV.scalL, Ob.scal, PV.isCell, pure', resO]
  refine loop_at (fun s : Nat × SV × SV => mkEnv [(0, .p (.sl 1 (ints p))), (1, si v), (4, si 0), (5, si (inI p v s.1)), (6, si s.1), (10, s.2.1), (17, s.2.2)]) (fun s => mkO []) (fun s => s.1 ≤ p.length) (fun s => p.length - s.1) (0, .junk, .junk) (by simp) rfl rfl ?_
  rintro ⟨i, c1, c2⟩ hi R hR hN
  simp only at hi
  by_cases h : i < p.length
  · have h1 : (i : Int) < p.length := by omega
    have hw := wrap_one (i := i) (by omega)
    have hg := ints_get h
    have hi0 : ¬ (i : Int) < 0 := by omega
    have hif := inI_fit hf v i
    have hgf := fit_get hf i
    cases hb : (bitW v (i : Nat) == 1) with
    | true =>
      have hs : IntKind.i64.wrap (inI p v i + p.getD i 0) = inI p v (i + 1) := by
        simp only [inI, hb, if_true]
        exact wrap64 (by omega) (by omega)
      simp only [h1, hw, hg, hi0, bitA_and, bitW_nat, hb, hs, ↓SP, SQ, Gam.add, stepM, callC, argC, lendO, nmBy, nmC, likeL, likeB, plainOb, offs, X, F, trP, trO, stepD, stepW, newA, SV.tr, SV.trL, fz, allP, Ob.tr, loadA, cellsA, SV.cells, binA, binI, eqOut, isSl, isPt, natOf, callee, snap, SV.refsL, SV.refs, thaw, fzAll, loA, hiA, elemOf, partsA, buildA, putCells, ↓reduceIte, reduceCtorEq, okCell, Nat.reduceAdd, Nat.reduceEqDiff, Nat.reduceSub, Nat.reduceMul, Nat.reduceLeDiff, Nat.reduceLT, Nat.reduceBEq, PV.scal, PV.scalL, SV.scal, SV.scalL, Ob.scal, PV.isCell, pure', resO]
      exact hN (i + 1, _, _) _ _ (by simp only; omega) (by simp only; omega) rfl rfl
    | false =>
      have hs : inI p v (i + 1) = inI p v i := by simp only [inI, hb, Bool.false_eq_true, if_false]
      simp only [h1, hw, hg, hi0, bitA_and, bitW_nat, hb, ↓SP, SQ, Gam.add, stepM, callC, argC, lendO, nmBy, nmC, likeL, likeB, plainOb, offs, X, F, trP, trO, stepD, stepW, newA, SV.tr, SV.trL, fz, allP, Ob.tr, loadA, cellsA, SV.cells, binA, binI, eqOut, isSl, isPt, natOf, callee, snap, SV.refsL, SV.refs, thaw, fzAll, loA, hiA, elemOf, partsA, buildA, putCells, ↓reduceIte, reduceCtorEq, okCell, Nat.reduceAdd, Nat.reduceEqDiff, Nat.reduceSub, Nat.reduceMul, Nat.reduceLeDiff, Nat.reduceLT, Nat.reduceBEq, PV.scal, PV.scalL, SV.scal, SV.scalL, Ob.scal, PV.isCell, pure', resO]
      exact hN (i + 1, _, _) _ _ (by simp only; omega) (by simp only; omega) (by rw [hs]) rfl
  · have he : i = p.length := by omega
    have h1 : ¬ (i : Int) < p.length := by omega
    simp only [h1, ↓SP, SQ, Gam.add, stepM, callC, argC, lendO, nmBy, nmC, likeL, likeB, plainOb, offs, X, F, trP, trO, stepD, stepW, newA, SV.tr, SV.trL, fz, allP, Ob.tr, loadA, cellsA, SV.cells, binA, binI, eqOut, isSl, isPt, natOf, callee, snap, SV.refsL, SV.refs, thaw, fzAll, loA, hiA, elemOf, partsA, buildA, putCells, ↓reduceIte, reduceCtorEq, okCell, Nat.reduceAdd, Nat.reduceEqDiff, Nat.reduceSub, Nat.reduceMul, Nat.reduceLeDiff, Nat.reduceLT, Nat.reduceBEq, PV.scal, PV.scalL, SV.scal, SV.scalL, Ob.scal, PV.isCell, pure', resO]
    refine hR _ _ _ (by intro h; cases h) ?_
    simp only [↓SP, SQ, Gam.add, stepM, callC, argC, lendO, nmBy, nmC, likeL, likeB, plainOb, offs, X, F, trP, trO, stepD, stepW, newA, SV.tr, SV.trL, fz, allP, Ob.tr, loadA, cellsA, SV.cells, binA, binI, eqOut, isSl, isPt, natOf, callee, snap, SV.refsL, SV.refs, thaw, fzAll, loA, hiA, elemOf, partsA, buildA, putCells, ↓reduceIte, reduceCtorEq, okCell, Nat.reduceAdd, Nat.reduceEqDiff, Nat.reduceSub, Nat.reduceMul, Nat.reduceLeDiff, Nat.reduceLT, Nat.reduceBEq, PV.scal, PV.scalL, SV.scal, SV.scalL, Ob.scal, PV.isCell, pure', resO]
    subst he
    exact finA_val (by simp [retA, rvA, List.mapM_cons, List.mapM_nil, Option.pure_def, Option.bind_eq_bind, Option.bind_some, Option.map_some, mkE_cons, mk_nil, mkO_cons, mkO_nil, loadA, ↓reduceIte, List.take_succ_cons, List.take_zero, List.drop_zero, List.drop_succ_cons, List.length_cons, List.length_nil, Nat.reduceAdd, Nat.reduceEqDiff, Nat.reduceLeDiff, Nat.zero_add, Nat.le_refl, reduceCtorEq, SV.tr, SV.trL, nmF, rn_nil, rn_cons1, rn_cons2, List.map_cons, List.map_nil, List.all_cons, List.all_nil, plainOb, SV.refsL, SV.refs, Ob.refs, X, F, List.range_succ, List.range_zero, List.nil_append, List.cons_append, List.isEmpty_nil, decide_true, Nat.reduceLT, Bool.and_self, Bool.and_true, and_self, and_true, List.getElem?_cons_zero, List.getElem?_cons_succ, List.nodup_cons, List.nodup_nil, List.mem_cons, List.not_mem_nil, not_false_eq_true, or_false, List.append_nil, mkO, setO_mk, List.mem_singleton]) (by simp [SV.tr, SV.trL])
def a_l1Most : AFn := ⟨2, 
  .seq (.reg [⟨some 4, none, .d (.mv (.c (.int .i64 0)))⟩])
  (.seq (.seq (.reg [⟨some 5, none, .d (.mv (.t 0))⟩,
    ⟨some 6, none, .d (.mv (.t 1))⟩,
    ⟨some 7, none, .d (.bin .arith .gtr (.t 5) (.t 6))⟩])
  (.cond (.t 7) (.seq (.reg [⟨some 8, none, .d (.mv (.t 0))⟩,
     ⟨some 4, none, .d (.mv (.t 8))⟩])
   (.ret)) (.skip)))
  (.seq (.reg [⟨some 9, none, .d (.mv (.t 1))⟩,
    ⟨some 4, none, .d (.mv (.t 9))⟩])
  (.ret))), [.tmp 4]⟩
def n_l1Most : Nat → Option Ann := fun _ => none
abbrev k_l1Most : List Nat := [0, 1, 4, 7]
abbrev o_l1Most : List Nat := []
def c_l1Most : Con := pure' fun
  | [.p (.int .i64 a), .p (.int .i64 b)] => if (True) then some (.p (.int .i64 (if a > b then a else b)), []) else none
  | _ => none
theorem s_l1Most {P : Program} (hm : P.follows .mixedOrders = true) {Γ : Gam} (hΓ : GS P Γ) {n : FuncId} (is : Is P n a_l1Most)  : Says P n c_l1Most := by
  refine Says.pure fun args r fs h => ?_
  split at h
  case h_2 => cases h
  rename_i a b
  split at h
  case isFalse => cases h
  rename_i hc
  simp only [ofI_ints, ofBo_bools, ofAs_asks, Option.some.injEq, Prod.mk.injEq] at h hc
  obtain ⟨rfl, rfl⟩ := h
  by_cases h : a > b
  · refine is.go hm hΓ k_l1Most o_l1Most (by simp [a_l1Most]) ?_
    simp only [a_l1Most, h, List.zipIdx_cons, List.zipIdx_nil, ↓SP, SQ, Gam.add, stepM, callC, argC, lendO, nmBy, nmC, likeL, likeB, plainOb, offs, X, F, trP, trO, stepD, stepW, newA, SV.tr, SV.trL, fz, allP, Ob.tr, loadA, cellsA, SV.cells, binA, binI, eqOut, isSl, isPt, natOf, callee, snap, SV.refsL, SV.refs, thaw, fzAll, loA, hiA, elemOf, partsA, buildA, putCells, ↓reduceIte, reduceCtorEq, okCell, Nat.reduceAdd, Nat.reduceEqDiff, Nat.reduceSub, Nat.reduceMul, Nat.reduceLeDiff, Nat.reduceLT, Nat.reduceBEq, PV.scal, PV.scalL, SV.scal, SV.scalL, Ob.scal, PV.isCell, pure', resO]
    exact finA_val (by simp [retA, rvA, List.mapM_cons, List.mapM_nil, Option.pure_def, Option.bind_eq_bind, Option.bind_some, Option.map_some, mkE_cons, mk_nil, mkO_cons, mkO_nil, loadA, ↓reduceIte, List.take_succ_cons, List.take_zero, List.drop_zero, List.drop_succ_cons, List.length_cons, List.length_nil, Nat.reduceAdd, Nat.reduceEqDiff, Nat.reduceLeDiff, Nat.zero_add, Nat.le_refl, reduceCtorEq, SV.tr, SV.trL, nmF, rn_nil, rn_cons1, rn_cons2, List.map_cons, List.map_nil, List.all_cons, List.all_nil, plainOb, SV.refsL, SV.refs, Ob.refs, X, F, List.range_succ, List.range_zero, List.nil_append, List.cons_append, List.isEmpty_nil, decide_true, Nat.reduceLT, Bool.and_self, Bool.and_true, and_self, and_true, List.getElem?_cons_zero, List.getElem?_cons_succ, List.nodup_cons, List.nodup_nil, List.mem_cons, List.not_mem_nil, not_false_eq_true, or_false, List.append_nil, mkO, setO_mk, List.mem_singleton]) (by simp [SV.tr, SV.trL])
  · refine is.go hm hΓ k_l1Most o_l1Most (by simp [a_l1Most]) ?_
    simp only [a_l1Most, h, List.zipIdx_cons, List.zipIdx_nil, ↓SP, SQ, Gam.add, stepM, callC, argC, lendO, nmBy, nmC, likeL, likeB, plainOb, offs, X, F, trP, trO, stepD, stepW, newA, SV.tr, SV.trL, fz, allP, Ob.tr, loadA, cellsA, SV.cells, binA, binI, eqOut, isSl, isPt, natOf, callee, snap, SV.refsL, SV.refs, thaw, fzAll, loA, hiA, elemOf, partsA, buildA, putCells, ↓reduceIte, reduceCtorEq, okCell, Nat.reduceAdd, Nat.reduceEqDiff, Nat.reduceSub, Nat.reduceMul, Nat.reduceLeDiff, Nat.reduceLT, Nat.reduceBEq, PV.scal, PV.scalL, SV.scal, SV.scalL, Ob.scal, PV.isCell, pure', resO]
    exact finA_val (by simp [retA, rvA, List.mapM_cons, List.mapM_nil, Option.pure_def, Option.bind_eq_bind, Option.bind_some, Option.map_some, mkE_cons, mk_nil, mkO_cons, mkO_nil, loadA, ↓reduceIte, List.take_succ_cons, List.take_zero, List.drop_zero, List.drop_succ_cons, List.length_cons, List.length_nil, Nat.reduceAdd, Nat.reduceEqDiff, Nat.reduceLeDiff, Nat.zero_add, Nat.le_refl, reduceCtorEq, SV.tr, SV.trL, nmF, rn_nil, rn_cons1, rn_cons2, List.map_cons, List.map_nil, List.all_cons, List.all_nil, plainOb, SV.refsL, SV.refs, Ob.refs, X, F, List.range_succ, List.range_zero, List.nil_append, List.cons_append, List.isEmpty_nil, decide_true, Nat.reduceLT, Bool.and_self, Bool.and_true, and_self, and_true, List.getElem?_cons_zero, List.getElem?_cons_succ, List.nodup_cons, List.nodup_nil, List.mem_cons, List.not_mem_nil, not_false_eq_true, or_false, List.append_nil, mkO, setO_mk, List.mem_singleton]) (by simp [SV.tr, SV.trL])
end Go.Proofs.Ytmbljmolegalhaa.Pam
