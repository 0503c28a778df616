/- A part of the proof that stands in this folder: a small machine whose steps are shown to be the steps of the model, or walks of functions by it. No condition of its own. -/
import Derived.Test.YtnonkjcklgihhaaLH
set_option linter.unusedVariables false
set_option linter.unusedSimpArgs false
namespace Go.Proofs.Ytnonkjcklgihhaa.Pam
open Go
/-! choices -/
/-- Whether the i-th of some choices is right. -/
def chOK (n : Int) (l : List Int) (i : Nat) : Bool := isQ n (l.getD i 0) && (decide (i = 0) || decide (l.getD (i - 1) 0 < l.getD i 0))
def chA (n : Int) (l : List Int) : Bool := (List.range l.length).all (chOK n l) && (decide (1 ≤ (l.length : Int)) && decide ((l.length : Int) ≤ 5))
theorem chA_bad {n : Int} {l : List Int} {i : Nat} (h : i < l.length) (hb : chOK n l i = false) : chA n l = false := by
  have : (List.range l.length).all (chOK n l) = false := by
    rw [Bool.eq_false_iff]; intro e
    have := List.all_eq_true.1 e i (List.mem_range.2 h)
    rw [hb] at this; cases this
  simp [chA, this]
theorem chA_good {n : Int} {l : List Int} (hb : ∀ i, i < l.length → chOK n l i = true) : chA n l = (decide (1 ≤ (l.length : Int)) && decide ((l.length : Int) ≤ 5)) := by
  have : (List.range l.length).all (chOK n l) = true := List.all_eq_true.2 fun i hi => hb i (List.mem_range.1 hi)
  simp [chA, this]
theorem wrap_pred {k : Nat} (h : k ≤ 1100000) : IntKind.i64.wrap (((k + 1 : Nat) : Int) - 1) = (k : Int) := by rw [wrap64 (by omega) (by omega)]; omega
def a_areChoices (f_isQuestion : FuncId) (f_in : FuncId) : AFn := ⟨2, 
  .seq (.reg [⟨some 4, none, .d (.mv (.c (.bool false)))⟩])
  (.seq (.seq (.reg [⟨some 7, none, .d (.mv (.t 1))⟩,
    ⟨some 8, none, .d (.len (.t 7))⟩,
    ⟨some 9, none, .d (.mv (.c (.int .i64 0)))⟩])
  (.block 0 (.loop (.seq (.reg [⟨some 10, none, .d (.bin .arith .lss (.t 9) (.t 8))⟩])
    (.seq (.cond (.t 10) (.skip) (.exit 0))
    (.seq (.block 1 (.seq (.reg [⟨some 11, none, .d (.mv (.t 9))⟩,
       ⟨some 12, none, .d (.ia 1 (.t 7) (.t 9))⟩,
       ⟨some 13, none, .d (.load false 1 (.t 12))⟩,
       ⟨some 5, none, .d (.mv (.t 11))⟩,
       ⟨some 6, none, .d (.mv (.t 13))⟩])
     (.seq (.reg [⟨some 14, none, .d (.mv (.t 0))⟩,
       ⟨some 15, none, .d (.mv (.t 6))⟩,
       ⟨some 16, none, .d (.call (.f f_isQuestion) [(.t 14), (.t 15)])⟩,
       ⟨some 17, none, .d (.not (.t 16))⟩,
       ⟨some 18, none, .d (.mv (.t 17))⟩,
       ⟨some 19, some (18, false), .d (.mv (.t 5))⟩,
       ⟨some 20, some (18, false), .d (.bin .arith .gtr (.t 19) (.c (.int .i64 0)))⟩,
       ⟨some 21, some (18, false), .d (.mv (.t 20))⟩,
       ⟨some 22, some (21, true), .d (.mv (.t 1))⟩,
       ⟨some 23, some (21, true), .d (.mv (.t 5))⟩,
       ⟨some 24, some (21, true), .d (.bin .arith .sub (.t 23) (.c (.int .i64 1)))⟩,
       ⟨some 25, some (21, true), .d (.ia 1 (.t 22) (.t 24))⟩,
       ⟨some 26, some (21, true), .d (.load false 1 (.t 25))⟩,
       ⟨some 27, some (21, true), .d (.mv (.t 6))⟩,
       ⟨some 28, some (21, true), .d (.bin .arith .geq (.t 26) (.t 27))⟩,
       ⟨some 29, some (18, false), .d (.pick (.t 21) (.t 28) (.c (.bool false)))⟩,
       ⟨some 30, none, .d (.pick (.t 18) (.c (.bool true)) (.t 29))⟩])
     (.cond (.t 30) (.seq (.reg [⟨some 4, none, .d (.mv (.c (.bool false)))⟩])
      (.ret)) (.skip)))))
    (.reg [⟨some 31, none, .d (.bin .arith .add (.t 9) (.c (.int .i64 1)))⟩,
      ⟨some 9, none, .d (.mv (.t 31))⟩])))))))
  (.seq (.reg [⟨some 32, none, .d (.mv (.t 1))⟩,
    ⟨some 33, none, .d (.len (.t 32))⟩,
    ⟨some 34, none, .d (.call (.f f_in) [(.t 33), (.c (.int .i64 1)), (.c (.int .i64 5))])⟩,
    ⟨some 4, none, .d (.mv (.t 34))⟩])
  (.ret))), [.tmp 4]⟩
def n_areChoices : Nat → Option Ann := fun _ => none
abbrev k_areChoices : List Nat := [0, 1, 4, 5, 6, 7, 8, 9, 10, 30]
abbrev o_areChoices : List Nat := []
def c_areChoices : Con := pure' fun
  | [.p (.int .i64 n), .p (.sl 1 l_)] => if isI l_ = true ∧ ((ofI l_).length ≤ 1100000) then some (.p (.bool (chA n (ofI l_))), []) else none
  | _ => none
theorem s_areChoices {P : Program} (hm : P.follows .mixedOrders = true) {Γ : Gam} (hΓ : GS P Γ) {n : FuncId} {f_isQuestion : FuncId} {f_in : FuncId} (is : Is P n (a_areChoices f_isQuestion f_in)) (h_isQuestion : Γ f_isQuestion = c_isQuestion) (h_in : Γ f_in = c_in)  : Says P n c_areChoices := by
  refine Says.pure fun args r fs h => ?_
  split at h
  case h_2 => cases h
  rename_i n l_
  split at h
  case isFalse => cases h
  rename_i hc
  obtain ⟨hl_, hc⟩ := hc
  obtain ⟨l, rfl⟩ := isI_out hl_
  simp only [ofI_ints, ofBo_bools, ofAs_asks, Option.some.injEq, Prod.mk.injEq] at h hc
  obtain ⟨rfl, rfl⟩ := h
  refine is.go hm hΓ k_areChoices o_areChoices (by simp [a_areChoices]) ?_
  simp only [a_areChoices, h_isQuestion, c_isQuestion, h_in, c_in, List.zipIdx_cons, List.zipIdx_nil, ↓SP, SQ, Gam.add, stepM, callC, argC, lendO, nmBy, nmC, likeL, likeB, plainOb, offs, X, F, trP, trO, stepD, stepW, newA, SV.tr, SV.trL, fz, allP, Ob.tr, loadA, cellsA, SV.cells, binA, binI, eqOut, isSl, isPt, natOf, callee, snap, SV.refsL, SV.refs, thaw, fzAll, loA, hiA, elemOf, partsA, buildA, putCells, ↓reduceIte, reduceCtorEq, okCell, Nat.reduceAdd, Nat.reduceEqDiff, Nat.reduceSub, Nat.reduceMul, Nat.reduceLeDiff, Nat.reduceLT, Nat.reduceBEq, PV.scal, PV.scalL, SV.scal, SV.scalL, Ob.scal, PV.isCell, pure', resO]
  refine loop_at (fun s : Nat × SV × SV × SV × SV => mkEnv [(0, si n), (1, .p (.sl 1 (ints l))), (4, sb false), (5, s.2.1), (6, s.2.2.1), (7, .p (.sl 1 (ints l))), (8, si l.length), (9, si s.1), (10, s.2.2.2.1), (30, s.2.2.2.2)]) (fun s => mkO []) (fun s => s.1 ≤ l.length ∧ ∀ j, j < s.1 → chOK n l j = true) (fun s => l.length - s.1) (0, .junk, .junk, .junk, .junk) (by simp) rfl rfl ?_
  rintro ⟨i, c1, c2, c3, c4⟩ ⟨hi, hp⟩ R hR hN
  simp only at hi hp
  by_cases h : i < l.length
  · have h1 : (i : Int) < l.length := by omega
    have hw := wrap_one (i := i) (by omega)
    have hg := ints_get h
    have hnext : chOK n l i = true → ∀ j, j < i + 1 → chOK n l j = true := fun hb j hj => by
      by_cases hji : j = i
      · rw [hji]; exact hb
      · exact hp j (by omega)
    cases hq : isQ n (l.getD i 0) with
    | false =>
      have hb := chA_bad (n := n) h (by simp only [chOK, hq, Bool.false_and])
      simp only [h1, hw, hg, hq, hb, h_isQuestion, c_isQuestion, ↓SP, SQ, Gam.add, stepM, callC, argC, lendO, nmBy, nmC, likeL, likeB, plainOb, offs, X, F, trP, trO, stepD, stepW, newA, SV.tr, SV.trL, fz, allP, Ob.tr, loadA, cellsA, SV.cells, binA, binI, eqOut, isSl, isPt, natOf, callee, snap, SV.refsL, SV.refs, thaw, fzAll, loA, hiA, elemOf, partsA, buildA, putCells, ↓reduceIte, reduceCtorEq, okCell, Nat.reduceAdd, Nat.reduceEqDiff, Nat.reduceSub, Nat.reduceMul, Nat.reduceLeDiff, Nat.reduceLT, Nat.reduceBEq, PV.scal, PV.scalL, SV.scal, SV.scalL, Ob.scal, PV.isCell, pure', resO]
      refine hR _ _ _ (by intro h; cases h) ?_
      simp only [hb, ↓SP, SQ, Gam.add, stepM, callC, argC, lendO, nmBy, nmC, likeL, likeB, plainOb, offs, X, F, trP, trO, stepD, stepW, newA, SV.tr, SV.trL, fz, allP, Ob.tr, loadA, cellsA, SV.cells, binA, binI, eqOut, isSl, isPt, natOf, callee, snap, SV.refsL, SV.refs, thaw, fzAll, loA, hiA, elemOf, partsA, buildA, putCells, ↓reduceIte, reduceCtorEq, okCell, Nat.reduceAdd, Nat.reduceEqDiff, Nat.reduceSub, Nat.reduceMul, Nat.reduceLeDiff, Nat.reduceLT, Nat.reduceBEq, PV.scal, PV.scalL, SV.scal, SV.scalL, Ob.scal, PV.isCell, pure', resO]
      exact finA_val (by simp [retA, rvA, List.mapM_cons, List.mapM_nil, Option.pure_def, Option.bind_eq_bind, Option.bind_some, Option.map_some, mkE_cons, mk_nil, mkO_cons, mkO_nil, loadA, ↓reduceIte, List.take_succ_cons, List.take_zero, List.drop_zero, List.drop_succ_cons, List.length_cons, List.length_nil, Nat.reduceAdd, Nat.reduceEqDiff, Nat.reduceLeDiff, Nat.zero_add, Nat.le_refl, reduceCtorEq, SV.tr, SV.trL, nmF, rn_nil, rn_cons1, rn_cons2, List.map_cons, List.map_nil, List.all_cons, List.all_nil, plainOb, SV.refsL, SV.refs, Ob.refs, X, F, List.range_succ, List.range_zero, List.nil_append, List.cons_append, List.isEmpty_nil, decide_true, Nat.reduceLT, Bool.and_self, Bool.and_true, and_self, and_true, List.getElem?_cons_zero, List.getElem?_cons_succ, List.nodup_cons, List.nodup_nil, List.mem_cons, List.not_mem_nil, not_false_eq_true, or_false, List.append_nil, mkO, setO_mk, List.mem_singleton]) (by simp [SV.tr, SV.trL])
    | true =>
      cases i with
      | zero =>
        have hok : chOK n l 0 = true := by simp only [chOK, hq, Bool.true_and, decide_true, Bool.true_or]
        have h00 : ¬ ((0 : Nat) : Int) > 0 := by omega
        simp only [h1, hw, hg, hq, h00, h_isQuestion, c_isQuestion, ↓SP, SQ, Gam.add, stepM, callC, argC, lendO, nmBy, nmC, likeL, likeB, plainOb, offs, X, F, trP, trO, stepD, stepW, newA, SV.tr, SV.trL, fz, allP, Ob.tr, loadA, cellsA, SV.cells, binA, binI, eqOut, isSl, isPt, natOf, callee, snap, SV.refsL, SV.refs, thaw, fzAll, loA, hiA, elemOf, partsA, buildA, putCells, ↓reduceIte, reduceCtorEq, okCell, Nat.reduceAdd, Nat.reduceEqDiff, Nat.reduceSub, Nat.reduceMul, Nat.reduceLeDiff, Nat.reduceLT, Nat.reduceBEq, PV.scal, PV.scalL, SV.scal, SV.scalL, Ob.scal, PV.isCell, pure', resO]
        refine hN (0 + 1, _, _, _, _) _ _ ⟨by simp only; omega, hnext hok⟩ (by simp only; omega) rfl rfl
      | succ k =>
        have hgt : ((k + 1 : Nat) : Int) > 0 := by omega
        have hwp := wrap_pred (k := k) (by omega)
        have hg2 := ints_get (l := l) (i := k) (by omega)
        by_cases hge : l.getD (k + 1) 0 ≤ l.getD k 0
        · have hb := chA_bad (n := n) h (by simp only [chOK, hq, Bool.true_and, Nat.add_sub_cancel, dec_f (show ¬ k + 1 = 0 by omega), Bool.false_or]; exact dec_f (by omega))
          have hge' : l.getD k 0 ≥ l.getD (k + 1) 0 := hge
          simp only [h1, hw, hg, hq, hb, hgt, hwp, hg2, hge, hge', h_isQuestion, c_isQuestion, ↓SP, SQ, Gam.add, stepM, callC, argC, lendO, nmBy, nmC, likeL, likeB, plainOb, offs, X, F, trP, trO, stepD, stepW, newA, SV.tr, SV.trL, fz, allP, Ob.tr, loadA, cellsA, SV.cells, binA, binI, eqOut, isSl, isPt, natOf, callee, snap, SV.refsL, SV.refs, thaw, fzAll, loA, hiA, elemOf, partsA, buildA, putCells, ↓reduceIte, reduceCtorEq, okCell, Nat.reduceAdd, Nat.reduceEqDiff, Nat.reduceSub, Nat.reduceMul, Nat.reduceLeDiff, Nat.reduceLT, Nat.reduceBEq, PV.scal, PV.scalL, SV.scal, SV.scalL, Ob.scal, PV.isCell, pure', resO]
          refine hR _ _ _ (by intro h; cases h) ?_
          simp only [hb, ↓SP, SQ, Gam.add, stepM, callC, argC, lendO, nmBy, nmC, likeL, likeB, plainOb, offs, X, F, trP, trO, stepD, stepW, newA, SV.tr, SV.trL, fz, allP, Ob.tr, loadA, cellsA, SV.cells, binA, binI, eqOut, isSl, isPt, natOf, callee, snap, SV.refsL, SV.refs, thaw, fzAll, loA, hiA, elemOf, partsA, buildA, putCells, ↓reduceIte, reduceCtorEq, okCell, Nat.reduceAdd, Nat.reduceEqDiff, Nat.reduceSub, Nat.reduceMul, Nat.reduceLeDiff, Nat.reduceLT, Nat.reduceBEq, PV.scal, PV.scalL, SV.scal, SV.scalL, Ob.scal, PV.isCell, pure', resO]
          exact finA_val (by simp [retA, rvA, List.mapM_cons, List.mapM_nil, Option.pure_def, Option.bind_eq_bind, Option.bind_some, Option.map_some, mkE_cons, mk_nil, mkO_cons, mkO_nil, loadA, ↓reduceIte, List.take_succ_cons, List.take_zero, List.drop_zero, List.drop_succ_cons, List.length_cons, List.length_nil, Nat.reduceAdd, Nat.reduceEqDiff, Nat.reduceLeDiff, Nat.zero_add, Nat.le_refl, reduceCtorEq, SV.tr, SV.trL, nmF, rn_nil, rn_cons1, rn_cons2, List.map_cons, List.map_nil, List.all_cons, List.all_nil, plainOb, SV.refsL, SV.refs, Ob.refs, X, F, List.range_succ, List.range_zero, List.nil_append, List.cons_append, List.isEmpty_nil, decide_true, Nat.reduceLT, Bool.and_self, Bool.and_true, and_self, and_true, List.getElem?_cons_zero, List.getElem?_cons_succ, List.nodup_cons, List.nodup_nil, List.mem_cons, List.not_mem_nil, not_false_eq_true, or_false, List.append_nil, mkO, setO_mk, List.mem_singleton]) (by simp [SV.tr, SV.trL])
        · have hge' : ¬ l.getD k 0 ≥ l.getD (k + 1) 0 := hge
          have hok : chOK n l (k + 1) = true := by simp only [chOK, hq, Bool.true_and, Nat.add_sub_cancel, dec_f (show ¬ k + 1 = 0 by omega), Bool.false_or]; exact dec_t (by omega)
          simp only [h1, hw, hg, hq, hgt, hwp, hg2, hge, hge', h_isQuestion, c_isQuestion, ↓SP, SQ, Gam.add, stepM, callC, argC, lendO, nmBy, nmC, likeL, likeB, plainOb, offs, X, F, trP, trO, stepD, stepW, newA, SV.tr, SV.trL, fz, allP, Ob.tr, loadA, cellsA, SV.cells, binA, binI, eqOut, isSl, isPt, natOf, callee, snap, SV.refsL, SV.refs, thaw, fzAll, loA, hiA, elemOf, partsA, buildA, putCells, ↓reduceIte, reduceCtorEq, okCell, Nat.reduceAdd, Nat.reduceEqDiff, Nat.reduceSub, Nat.reduceMul, Nat.reduceLeDiff, Nat.reduceLT, Nat.reduceBEq, PV.scal, PV.scalL, SV.scal, SV.scalL, Ob.scal, PV.isCell, pure', resO]
          refine hN (k + 1 + 1, _, _, _, _) _ _ ⟨by simp only; omega, hnext hok⟩ (by simp only; omega) rfl rfl
  · have he : i = l.length := by omega
    have h1 : ¬ (i : Int) < l.length := by omega
    have hb := chA_good (n := n) (l := l) fun j hj => hp j (by omega)
    simp only [h1, ↓SP, SQ, Gam.add, stepM, callC, argC, lendO, nmBy, nmC, likeL, likeB, plainOb, offs, X, F, trP, trO, stepD, stepW, newA, SV.tr, SV.trL, fz, allP, Ob.tr, loadA, cellsA, SV.cells, binA, binI, eqOut, isSl, isPt, natOf, callee, snap, SV.refsL, SV.refs, thaw, fzAll, loA, hiA, elemOf, partsA, buildA, putCells, ↓reduceIte, reduceCtorEq, okCell, Nat.reduceAdd, Nat.reduceEqDiff, Nat.reduceSub, Nat.reduceMul, Nat.reduceLeDiff, Nat.reduceLT, Nat.reduceBEq, PV.scal, PV.scalL, SV.scal, SV.scalL, Ob.scal, PV.isCell, pure', resO]
    refine hR _ _ _ (by intro h; cases h) ?_
    simp only [h_in, c_in, ints_len, ↓SP, SQ, Gam.add, stepM, callC, argC, lendO, nmBy, nmC, likeL, likeB, plainOb, offs, X, F, trP, trO, stepD, stepW, newA, SV.tr, SV.trL, fz, allP, Ob.tr, loadA, cellsA, SV.cells, binA, binI, eqOut, isSl, isPt, natOf, callee, snap, SV.refsL, SV.refs, thaw, fzAll, loA, hiA, elemOf, partsA, buildA, putCells, ↓reduceIte, reduceCtorEq, okCell, Nat.reduceAdd, Nat.reduceEqDiff, Nat.reduceSub, Nat.reduceMul, Nat.reduceLeDiff, Nat.reduceLT, Nat.reduceBEq, PV.scal, PV.scalL, SV.scal, SV.scalL, Ob.scal, PV.isCell, pure', resO]
    exact finA_val (by simp [hb, retA, rvA, List.mapM_cons, List.mapM_nil, Option.pure_def, Option.bind_eq_bind, Option.bind_some, Option.map_some, mkE_cons, mk_nil, mkO_cons, mkO_nil, loadA, ↓reduceIte, List.take_succ_cons, List.take_zero, List.drop_zero, List.drop_succ_cons, List.length_cons, List.length_nil, Nat.reduceAdd, Nat.reduceEqDiff, Nat.reduceLeDiff, Nat.zero_add, Nat.le_refl, reduceCtorEq, SV.tr, SV.trL, nmF, rn_nil, rn_cons1, rn_cons2, List.map_cons, List.map_nil, List.all_cons, List.all_nil, plainOb, SV.refsL, SV.refs, Ob.refs, X, F, List.range_succ, List.range_zero, List.nil_append, List.cons_append, List.isEmpty_nil, decide_true, Nat.reduceLT, Bool.and_self, Bool.and_true, and_self, and_true, List.getElem?_cons_zero, List.getElem?_cons_succ, List.nodup_cons, List.nodup_nil, List.mem_cons, List.not_mem_nil, not_false_eq_true, or_false, List.append_nil, mkO, setO_mk, List.mem_singleton]) (by simp [SV.tr, SV.trL])
def a_l11Choice (f_l2Question : FuncId) (f_l1In : FuncId) : AFn := ⟨2, 
  .seq (.reg [⟨some 2, none, .w (.box 2 (.t 0))⟩,
    ⟨some 4, none, .d (.mv (.c (.bool false)))⟩])
  (.seq (.seq (.reg [⟨some 5, none, .d (.mv (.c (.int .i64 0)))⟩])
  (.block 0 (.loop (.seq (.seq (.reg [⟨some 6, none, .d (.mv (.t 5))⟩,
      ⟨some 7, none, .d (.mv (.t 1))⟩,
      ⟨some 8, none, .d (.len (.t 7))⟩,
      ⟨some 9, none, .d (.bin .arith .lss (.t 6) (.t 8))⟩,
      ⟨some 10, none, .d (.mv (.t 9))⟩,
      ⟨some 11, some (10, true), .d (.mv (.t 5))⟩,
      ⟨some 12, some (10, true), .d (.bin .arith .leq (.t 11) (.c (.int .i64 5)))⟩,
      ⟨some 13, none, .d (.pick (.t 10) (.t 12) (.c (.bool false)))⟩])
    (.cond (.t 13) (.skip) (.exit 0)))
    (.seq (.block 1 (.seq (.dreg [] [([], ⟨some 16, none, .d (.load true 2 (.t 2))⟩),
       ([], ⟨some 17, none, .d (.mv (.t 1))⟩),
       ([], ⟨some 18, none, .d (.mv (.t 5))⟩),
       ([], ⟨some 19, none, .d (.ia 1 (.t 17) (.t 18))⟩),
       ([], ⟨some 20, none, .d (.load false 1 (.t 19))⟩),
       ([], ⟨some 21, none, .d (.call (.f f_l2Question) [(.t 16), (.t 20)])⟩),
       ([], ⟨some 22, none, .d (.not (.t 21))⟩),
       ([], ⟨some 23, none, .d (.mv (.t 22))⟩),
       ([], ⟨some 24, some (23, false), .d (.mv (.t 5))⟩),
       ([], ⟨some 25, some (23, false), .d (.bin .arith .gtr (.t 24) (.c (.int .i64 0)))⟩),
       ([], ⟨some 26, some (23, false), .d (.mv (.t 25))⟩),
       ([], ⟨some 27, some (26, true), .d (.mv (.t 1))⟩),
       ([], ⟨some 28, some (26, true), .d (.mv (.t 5))⟩),
       ([], ⟨some 29, some (26, true), .d (.bin .arith .sub (.t 28) (.c (.int .i64 1)))⟩),
       ([], ⟨some 30, some (26, true), .d (.ia 1 (.t 27) (.t 29))⟩),
       ([], ⟨some 31, some (26, true), .d (.load false 1 (.t 30))⟩),
       ([], ⟨some 32, some (26, true), .d (.mv (.t 1))⟩),
       ([], ⟨some 33, some (26, true), .d (.mv (.t 5))⟩),
       ([], ⟨some 34, some (26, true), .d (.ia 1 (.t 32) (.t 33))⟩),
       ([], ⟨some 35, some (26, true), .d (.load false 1 (.t 34))⟩)] [⟨some 36, some (26, true), .d (.bin .arith .geq (.t 31) (.t 35))⟩,
       ⟨some 37, some (23, false), .d (.pick (.t 26) (.t 36) (.c (.bool false)))⟩,
       ⟨some 38, none, .d (.pick (.t 23) (.c (.bool true)) (.t 37))⟩])
     (.cond (.t 38) (.seq (.reg [⟨some 4, none, .d (.mv (.c (.bool false)))⟩])
      (.ret)) (.skip))))
    (.reg [⟨some 14, none, .d (.mv (.t 5))⟩,
      ⟨some 15, none, .d (.bin .arith .add (.t 14) (.c (.int .i64 1)))⟩,
      ⟨some 5, none, .d (.mv (.t 15))⟩]))))))
  (.seq (.reg [⟨some 39, none, .d (.mv (.t 1))⟩,
    ⟨some 40, none, .d (.len (.t 39))⟩,
    ⟨some 41, none, .d (.call (.f f_l1In) [(.t 40), (.c (.int .i64 1)), (.c (.int .i64 5))])⟩,
    ⟨some 4, none, .d (.mv (.t 41))⟩])
  (.ret))), [.tmp 4]⟩
def n_l11Choice : Nat → Option Ann := fun _ => none
abbrev k_l11Choice : List Nat := [0, 1, 2, 4, 5, 13, 38]
abbrev o_l11Choice : List Nat := [2]
def c_l11Choice : Con := pure' fun
  | [.p (.agg [.sl 1 x_, .int .i64 m]), .p (.sl 1 l_)] => if isI x_ = true ∧ isI l_ = true ∧ ((ofI x_).length ≤ 1100000 ∧ (ofI l_).length ≤ 1100000) then some (.p (.bool (chA (ofI x_).length (ofI l_))), []) else none
  | _ => none
theorem s_l11Choice {P : Program} (hm : P.follows .mixedOrders = true) {Γ : Gam} (hΓ : GS P Γ) {n : FuncId} {f_l2Question : FuncId} {f_l1In : FuncId} (is : Is P n (a_l11Choice f_l2Question f_l1In)) (h_l2Question : Γ f_l2Question = c_l2Question) (h_l1In : Γ f_l1In = c_in)  : Says P n c_l11Choice := by
  refine Says.pure fun args r fs h => ?_
  split at h
  case h_2 => cases h
  rename_i x_ m l_
  split at h
  case isFalse => cases h
  rename_i hc
  obtain ⟨hx_, hc⟩ := hc
  obtain ⟨x, rfl⟩ := isI_out hx_
  obtain ⟨hl_, hc⟩ := hc
  obtain ⟨l, rfl⟩ := isI_out hl_
  simp only [ofI_ints, ofBo_bools, ofAs_asks, Option.some.injEq, Prod.mk.injEq] at h hc
  obtain ⟨rfl, rfl⟩ := h
  refine is.go hm hΓ k_l11Choice o_l11Choice (by simp [a_l11Choice]) ?_
  simp only [a_l11Choice, h_l2Question, c_l2Question, h_l1In, c_in, List.zipIdx_cons, List.zipIdx_nil, ↓SP, SQ, Gam.add, stepM, callC, argC, lendO, nmBy, nmC, likeL, likeB, plainOb, offs, X, F, trP, trO, stepD, stepW, newA, SV.tr, SV.trL, fz, allP, Ob.tr, loadA, cellsA, SV.cells, binA, binI, eqOut, isSl, isPt, natOf, callee, snap, SV.refsL, SV.refs, thaw, fzAll, loA, hiA, elemOf, partsA, buildA, putCells, ↓reduceIte, reduceCtorEq, okCell, Nat.reduceAdd, Nat.reduceEqDiff, Nat.reduceSub, Nat.reduceMul, Nat.reduceLeDiff, Nat.reduceLT, Nat.reduceBEq, PV.scal, PV.scalL, SV.scal, SV.scalL, Ob.scal, PV.isCell, pure', resO]
  refine loop_at (fun s : Nat × SV × SV => mkEnv [(0, .p (.agg [.sl 1 (ints x), .int .i64 m])), (1, .p (.sl 1 (ints l))), (2, .bx 2 0), (4, sb false), (5, si s.1), (13, s.2.1), (38, s.2.2)]) (fun s => mkO [(2, some (.box [.p (.sl 1 (ints x)), si m]))]) (fun s => s.1 ≤ l.length ∧ s.1 ≤ 6 ∧ ∀ j, j < s.1 → chOK x.length l j = true) (fun s => l.length - s.1) (0, .junk, .junk) (by simp) rfl rfl ?_
  rintro ⟨i, c1, c2⟩ ⟨hi, hi6, hp⟩ R hR hN
  simp only at hi hi6 hp
  by_cases h : i < l.length
  · have h1 : (i : Int) < l.length := by omega
    by_cases h5 : i ≤ 5
    · have h5' : (i : Int) ≤ 5 := by omega
      have hw := wrap_one (i := i) (by omega)
      have hg := ints_get h
      have hnext : chOK x.length l i = true → ∀ j, j < i + 1 → chOK x.length l j = true := fun hb j hj => by
        by_cases hji : j = i
        · rw [hji]; exact hb
        · exact hp j (by omega)
      cases hq : isQ x.length (l.getD i 0) with
      | false =>
        have hb := chA_bad (n := x.length) h (by simp only [chOK, hq, Bool.false_and])
        simp only [h1, h5', hw, hg, hq, hb, hc, h_l2Question, c_l2Question, ↓SP, SQ, Gam.add, stepM, callC, argC, lendO, nmBy, nmC, likeL, likeB, plainOb, offs, X, F, trP, trO, stepD, stepW, newA, SV.tr, SV.trL, fz, allP, Ob.tr, loadA, cellsA, SV.cells, binA, binI, eqOut, isSl, isPt, natOf, callee, snap, SV.refsL, SV.refs, thaw, fzAll, loA, hiA, elemOf, partsA, buildA, putCells, ↓reduceIte, reduceCtorEq, okCell, Nat.reduceAdd, Nat.reduceEqDiff, Nat.reduceSub, Nat.reduceMul, Nat.reduceLeDiff, Nat.reduceLT, Nat.reduceBEq, PV.scal, PV.scalL, SV.scal, SV.scalL, Ob.scal, PV.isCell, pure', resO]
        refine hR _ _ _ (by intro h; cases h) ?_
        simp only [hb, ↓SP, SQ, Gam.add, stepM, callC, argC, lendO, nmBy, nmC, likeL, likeB, plainOb, offs, X, F, trP, trO, stepD, stepW, newA, SV.tr, SV.trL, fz, allP, Ob.tr, loadA, cellsA, SV.cells, binA, binI, eqOut, isSl, isPt, natOf, callee, snap, SV.refsL, SV.refs, thaw, fzAll, loA, hiA, elemOf, partsA, buildA, putCells, ↓reduceIte, reduceCtorEq, okCell, Nat.reduceAdd, Nat.reduceEqDiff, Nat.reduceSub, Nat.reduceMul, Nat.reduceLeDiff, Nat.reduceLT, Nat.reduceBEq, PV.scal, PV.scalL, SV.scal, SV.scalL, Ob.scal, PV.isCell, pure', resO]
        exact finA_val (by simp [retA, rvA, List.mapM_cons, List.mapM_nil, Option.pure_def, Option.bind_eq_bind, Option.bind_some, Option.map_some, mkE_cons, mk_nil, mkO_cons, mkO_nil, loadA, ↓reduceIte, List.take_succ_cons, List.take_zero, List.drop_zero, List.drop_succ_cons, List.length_cons, List.length_nil, Nat.reduceAdd, Nat.reduceEqDiff, Nat.reduceLeDiff, Nat.zero_add, Nat.le_refl, reduceCtorEq, SV.tr, SV.trL, nmF, rn_nil, rn_cons1, rn_cons2, List.map_cons, List.map_nil, List.all_cons, List.all_nil, plainOb, SV.refsL, SV.refs, Ob.refs, X, F, List.range_succ, List.range_zero, List.nil_append, List.cons_append, List.isEmpty_nil, decide_true, Nat.reduceLT, Bool.and_self, Bool.and_true, and_self, and_true, List.getElem?_cons_zero, List.getElem?_cons_succ, List.nodup_cons, List.nodup_nil, List.mem_cons, List.not_mem_nil, not_false_eq_true, or_false, List.append_nil, mkO, setO_mk, List.mem_singleton]) (by simp [SV.tr, SV.trL])
      | true =>
        cases i with
        | zero =>
          have hok : chOK x.length l 0 = true := by simp only [chOK, hq, Bool.true_and, decide_true, Bool.true_or]
          have h00 : ¬ ((0 : Nat) : Int) > 0 := by omega
          simp only [h1, h5', hw, hg, hq, h00, hc, h_l2Question, c_l2Question, ↓SP, SQ, Gam.add, stepM, callC, argC, lendO, nmBy, nmC, likeL, likeB, plainOb, offs, X, F, trP, trO, stepD, stepW, newA, SV.tr, SV.trL, fz, allP, Ob.tr, loadA, cellsA, SV.cells, binA, binI, eqOut, isSl, isPt, natOf, callee, snap, SV.refsL, SV.refs, thaw, fzAll, loA, hiA, elemOf, partsA, buildA, putCells, ↓reduceIte, reduceCtorEq, okCell, Nat.reduceAdd, Nat.reduceEqDiff, Nat.reduceSub, Nat.reduceMul, Nat.reduceLeDiff, Nat.reduceLT, Nat.reduceBEq, PV.scal, PV.scalL, SV.scal, SV.scalL, Ob.scal, PV.isCell, pure', resO]
          refine hN (0 + 1, _, _) _ _ ⟨by simp only; omega, by simp only; omega, hnext hok⟩ (by simp only; omega) rfl rfl
        | succ k =>
          have hgt : ((k + 1 : Nat) : Int) > 0 := by omega
          have hwp := wrap_pred (k := k) (by omega)
          have hg2 := ints_get (l := l) (i := k) (by omega)
          by_cases hge : l.getD (k + 1) 0 ≤ l.getD k 0
          · have hb := chA_bad (n := x.length) h (by simp only [chOK, hq, Bool.true_and, Nat.add_sub_cancel, dec_f (show ¬ k + 1 = 0 by omega), Bool.false_or]; exact dec_f (by omega))
            have hge' : l.getD k 0 ≥ l.getD (k + 1) 0 := hge
            simp only [h1, h5', hw, hg, hq, hb, hgt, hwp, hg2, hge, hge', hc, h_l2Question, c_l2Question, ↓SP, SQ, Gam.add, stepM, callC, argC, lendO, nmBy, nmC, likeL, likeB, plainOb, offs, X, F, trP, trO, stepD, stepW, newA, SV.tr, SV.trL, fz, allP, Ob.tr, loadA, cellsA, SV.cells, binA, binI, eqOut, isSl, isPt, natOf, callee, snap, SV.refsL, SV.refs, thaw, fzAll, loA, hiA, elemOf, partsA, buildA, putCells, ↓reduceIte, reduceCtorEq, okCell, Nat.reduceAdd, Nat.reduceEqDiff, Nat.reduceSub, Nat.reduceMul, Nat.reduceLeDiff, Nat.reduceLT, Nat.reduceBEq, PV.scal, PV.scalL, SV.scal, SV.scalL, Ob.scal, PV.isCell, pure', resO]
            refine hR _ _ _ (by intro h; cases h) ?_
            simp only [hb, ↓SP, SQ, Gam.add, stepM, callC, argC, lendO, nmBy, nmC, likeL, likeB, plainOb, offs, X, F, trP, trO, stepD, stepW, newA, SV.tr, SV.trL, fz, allP, Ob.tr, loadA, cellsA, SV.cells, binA, binI, eqOut, isSl, isPt, natOf, callee, snap, SV.refsL, SV.refs, thaw, fzAll, loA, hiA, elemOf, partsA, buildA, putCells, ↓reduceIte, reduceCtorEq, okCell, Nat.reduceAdd, Nat.reduceEqDiff, Nat.reduceSub, Nat.reduceMul, Nat.reduceLeDiff, Nat.reduceLT, Nat.reduceBEq, PV.scal, PV.scalL, SV.scal, SV.scalL, Ob.scal, PV.isCell, pure', resO]
            exact finA_val (by simp [retA, rvA, List.mapM_cons, List.mapM_nil, Option.pure_def, Option.bind_eq_bind, Option.bind_some, Option.map_some, mkE_cons, mk_nil, mkO_cons, mkO_nil, loadA, ↓reduceIte, List.take_succ_cons, List.take_zero, List.drop_zero, List.drop_succ_cons, List.length_cons, List.length_nil, Nat.reduceAdd, Nat.reduceEqDiff, Nat.reduceLeDiff, Nat.zero_add, Nat.le_refl, reduceCtorEq, SV.tr, SV.trL, nmF, rn_nil, rn_cons1, rn_cons2, List.map_cons, List.map_nil, List.all_cons, List.all_nil, plainOb, SV.refsL, SV.refs, Ob.refs, X, F, List.range_succ, List.range_zero, List.nil_append, List.cons_append, List.isEmpty_nil, decide_true, Nat.reduceLT, Bool.and_self, Bool.and_true, and_self, and_true, List.getElem?_cons_zero, List.getElem?_cons_succ, List.nodup_cons, List.nodup_nil, List.mem_cons, List.not_mem_nil, not_false_eq_true, or_false, List.append_nil, mkO, setO_mk, List.mem_singleton]) (by simp [SV.tr, SV.trL])
          · have hge' : ¬ l.getD k 0 ≥ l.getD (k + 1) 0 := hge
            have hok : chOK x.length l (k + 1) = true := by simp only [chOK, hq, Bool.true_and, Nat.add_sub_cancel, dec_f (show ¬ k + 1 = 0 by omega), Bool.false_or]; exact dec_t (by omega)
            simp only [h1, h5', hw, hg, hq, hgt, hwp, hg2, hge, hge', hc, h_l2Question, c_l2Question, ↓SP, SQ, Gam.add, stepM, callC, argC, lendO, nmBy, nmC, likeL, likeB, plainOb, offs, X, F, trP, trO, stepD, stepW, newA, SV.tr, SV.trL, fz, allP, Ob.tr, loadA, cellsA, SV.cells, binA, binI, eqOut, isSl, isPt, natOf, callee, snap, SV.refsL, SV.refs, thaw, fzAll, loA, hiA, elemOf, partsA, buildA, putCells, ↓reduceIte, reduceCtorEq, okCell, Nat.reduceAdd, Nat.reduceEqDiff, Nat.reduceSub, Nat.reduceMul, Nat.reduceLeDiff, Nat.reduceLT, Nat.reduceBEq, PV.scal, PV.scalL, SV.scal, SV.scalL, Ob.scal, PV.isCell, pure', resO]
            refine hN (k + 1 + 1, _, _) _ _ ⟨by simp only; omega, by simp only; omega, hnext hok⟩ (by simp only; omega) rfl rfl
    · have h5' : ¬ (i : Int) ≤ 5 := by omega
      have h3 : ¬ (l.length : Int) ≤ 5 := by omega
      have hb : chA x.length l = false := by simp only [chA, dec_f h3, Bool.and_false]
      simp only [h1, h5', ↓SP, SQ, Gam.add, stepM, callC, argC, lendO, nmBy, nmC, likeL, likeB, plainOb, offs, X, F, trP, trO, stepD, stepW, newA, SV.tr, SV.trL, fz, allP, Ob.tr, loadA, cellsA, SV.cells, binA, binI, eqOut, isSl, isPt, natOf, callee, snap, SV.refsL, SV.refs, thaw, fzAll, loA, hiA, elemOf, partsA, buildA, putCells, ↓reduceIte, reduceCtorEq, okCell, Nat.reduceAdd, Nat.reduceEqDiff, Nat.reduceSub, Nat.reduceMul, Nat.reduceLeDiff, Nat.reduceLT, Nat.reduceBEq, PV.scal, PV.scalL, SV.scal, SV.scalL, Ob.scal, PV.isCell, pure', resO]
      refine hR _ _ _ (by intro h; cases h) ?_
      simp only [h_l1In, c_in, ints_len, ↓SP, SQ, Gam.add, stepM, callC, argC, lendO, nmBy, nmC, likeL, likeB, plainOb, offs, X, F, trP, trO, stepD, stepW, newA, SV.tr, SV.trL, fz, allP, Ob.tr, loadA, cellsA, SV.cells, binA, binI, eqOut, isSl, isPt, natOf, callee, snap, SV.refsL, SV.refs, thaw, fzAll, loA, hiA, elemOf, partsA, buildA, putCells, ↓reduceIte, reduceCtorEq, okCell, Nat.reduceAdd, Nat.reduceEqDiff, Nat.reduceSub, Nat.reduceMul, Nat.reduceLeDiff, Nat.reduceLT, Nat.reduceBEq, PV.scal, PV.scalL, SV.scal, SV.scalL, Ob.scal, PV.isCell, pure', resO]
      exact finA_val (by simp [hb, h3, retA, rvA, List.mapM_cons, List.mapM_nil, Option.pure_def, Option.bind_eq_bind, Option.bind_some, Option.map_some, mkE_cons, mk_nil, mkO_cons, mkO_nil, loadA, ↓reduceIte, List.take_succ_cons, List.take_zero, List.drop_zero, List.drop_succ_cons, List.length_cons, List.length_nil, Nat.reduceAdd, Nat.reduceEqDiff, Nat.reduceLeDiff, Nat.zero_add, Nat.le_refl, reduceCtorEq, SV.tr, SV.trL, nmF, rn_nil, rn_cons1, rn_cons2, List.map_cons, List.map_nil, List.all_cons, List.all_nil, plainOb, SV.refsL, SV.refs, Ob.refs, X, F, List.range_succ, List.range_zero, List.nil_append, List.cons_append, List.isEmpty_nil, decide_true, Nat.reduceLT, Bool.and_self, Bool.and_true, and_self, and_true, List.getElem?_cons_zero, List.getElem?_cons_succ, List.nodup_cons, List.nodup_nil, List.mem_cons, List.not_mem_nil, not_false_eq_true, or_false, List.append_nil, mkO, setO_mk, List.mem_singleton]) (by simp [SV.tr, SV.trL])
  · have he : i = l.length := by omega
    have h1 : ¬ (i : Int) < l.length := by omega
    have hb := chA_good (n := x.length) (l := l) fun j hj => hp j (by omega)
    simp only [h1, ↓SP, SQ, Gam.add, stepM, callC, argC, lendO, nmBy, nmC, likeL, likeB, plainOb, offs, X, F, trP, trO, stepD, stepW, newA, SV.tr, SV.trL, fz, allP, Ob.tr, loadA, cellsA, SV.cells, binA, binI, eqOut, isSl, isPt, natOf, callee, snap, SV.refsL, SV.refs, thaw, fzAll, loA, hiA, elemOf, partsA, buildA, putCells, ↓reduceIte, reduceCtorEq, okCell, Nat.reduceAdd, Nat.reduceEqDiff, Nat.reduceSub, Nat.reduceMul, Nat.reduceLeDiff, Nat.reduceLT, Nat.reduceBEq, PV.scal, PV.scalL, SV.scal, SV.scalL, Ob.scal, PV.isCell, pure', resO]
    refine hR _ _ _ (by intro h; cases h) ?_
    simp only [h_l1In, c_in, ints_len, ↓SP, SQ, Gam.add, stepM, callC, argC, lendO, nmBy, nmC, likeL, likeB, plainOb, offs, X, F, trP, trO, stepD, stepW, newA, SV.tr, SV.trL, fz, allP, Ob.tr, loadA, cellsA, SV.cells, binA, binI, eqOut, isSl, isPt, natOf, callee, snap, SV.refsL, SV.refs, thaw, fzAll, loA, hiA, elemOf, partsA, buildA, putCells, ↓reduceIte, reduceCtorEq, okCell, Nat.reduceAdd, Nat.reduceEqDiff, Nat.reduceSub, Nat.reduceMul, Nat.reduceLeDiff, Nat.reduceLT, Nat.reduceBEq, PV.scal, PV.scalL, SV.scal, SV.scalL, Ob.scal, PV.isCell, pure', resO]
    exact finA_val (by simp [hb, retA, rvA, List.mapM_cons, List.mapM_nil, Option.pure_def, Option.bind_eq_bind, Option.bind_some, Option.map_some, mkE_cons, mk_nil, mkO_cons, mkO_nil, loadA, ↓reduceIte, List.take_succ_cons, List.take_zero, List.drop_zero, List.drop_succ_cons, List.length_cons, List.length_nil, Nat.reduceAdd, Nat.reduceEqDiff, Nat.reduceLeDiff, Nat.zero_add, Nat.le_refl, reduceCtorEq, SV.tr, SV.trL, nmF, rn_nil, rn_cons1, rn_cons2, List.map_cons, List.map_nil, List.all_cons, List.all_nil, plainOb, SV.refsL, SV.refs, Ob.refs, X, F, List.range_succ, List.range_zero, List.nil_append, List.cons_append, List.isEmpty_nil, decide_true, Nat.reduceLT, Bool.and_self, Bool.and_true, and_self, and_true, List.getElem?_cons_zero, List.getElem?_cons_succ, List.nodup_cons, List.nodup_nil, List.mem_cons, List.not_mem_nil, not_false_eq_true, or_false, List.append_nil, mkO, setO_mk, List.mem_singleton]) (by simp [SV.tr, SV.trL])
def a_IsChoice (f_IsState : FuncId) (f_areChoices : FuncId) : AFn := ⟨2, 
  .seq (.reg [⟨some 2, none, .w (.box 2 (.t 0))⟩,
    ⟨some 4, none, .d (.mv (.c (.bool false)))⟩,
    ⟨some 5, none, .d (.mv (.c (.bool false)))⟩])
  (.seq (.seq (.reg [⟨some 6, none, .d (.load true 2 (.t 2))⟩,
    ⟨some 7, none, .d (.call (.f f_IsState) [(.t 6)])⟩,
    ⟨some 8, none, .d (.not (.t 7))⟩])
  (.cond (.t 8) (.seq (.reg [⟨some 4, none, .d (.mv (.c (.bool false)))⟩,
     ⟨some 5, none, .d (.mv (.c (.bool false)))⟩])
   (.ret)) (.skip)))
  (.seq (.reg [⟨some 9, none, .d (.fa 0 (.t 2))⟩,
    ⟨some 10, none, .d (.load false 1 (.t 9))⟩,
    ⟨some 11, none, .d (.len (.t 10))⟩,
    ⟨some 12, none, .d (.mv (.t 1))⟩,
    ⟨some 13, none, .d (.call (.f f_areChoices) [(.t 11), (.t 12)])⟩,
    ⟨some 4, none, .d (.mv (.t 13))⟩,
    ⟨some 5, none, .d (.mv (.c (.bool true)))⟩])
  (.ret))), [.tmp 4, .tmp 5]⟩
def n_IsChoice : Nat → Option Ann := fun _ => none
abbrev k_IsChoice : List Nat := [0, 1, 2, 4, 5, 8]
abbrev o_IsChoice : List Nat := [2]
def a_s_IsChoice (f_l2State : FuncId) (f_l11Choice : FuncId) : AFn := ⟨2, 
  .seq (.reg [⟨some 2, none, .w (.box 2 (.t 0))⟩,
    ⟨some 4, none, .d (.mv (.c (.bool false)))⟩,
    ⟨some 5, none, .d (.mv (.c (.bool false)))⟩])
  (.seq (.seq (.reg [⟨some 6, none, .d (.load true 2 (.t 2))⟩,
    ⟨some 7, none, .d (.call (.f f_l2State) [(.t 6)])⟩,
    ⟨some 8, none, .d (.not (.t 7))⟩])
  (.cond (.t 8) (.seq (.reg [⟨some 4, none, .d (.mv (.c (.bool false)))⟩,
     ⟨some 5, none, .d (.mv (.c (.bool false)))⟩])
   (.ret)) (.skip)))
  (.seq (.reg [⟨some 9, none, .d (.load true 2 (.t 2))⟩,
    ⟨some 10, none, .d (.mv (.t 1))⟩,
    ⟨some 11, none, .d (.call (.f f_l11Choice) [(.t 9), (.t 10)])⟩,
    ⟨some 4, none, .d (.mv (.t 11))⟩,
    ⟨some 5, none, .d (.mv (.c (.bool true)))⟩])
  (.ret))), [.tmp 4, .tmp 5]⟩
def n_s_IsChoice : Nat → Option Ann := fun _ => none
abbrev k_s_IsChoice : List Nat := [0, 1, 2, 4, 5, 8]
abbrev o_s_IsChoice : List Nat := [2]
def c_IsChoice : Con := pure' fun
  | [.p (.agg [.sl 1 x_, .int .i64 m]), .p (.sl 1 l_)] => if isI x_ = true ∧ isI l_ = true ∧ ((ofI x_).length ≤ 1100000 ∧ (ofI l_).length ≤ 1100000) then some (.tp [.p (.bool (isSt (ofI x_) m && chA (ofI x_).length (ofI l_))), .p (.bool (isSt (ofI x_) m))], []) else none
  | _ => none
theorem s_IsChoice {P : Program} (hm : P.follows .mixedOrders = true) {Γ : Gam} (hΓ : GS P Γ) {n : FuncId} {f_IsState : FuncId} {f_areChoices : FuncId} (is : Is P n (a_IsChoice f_IsState f_areChoices)) (h_IsState : Γ f_IsState = c_IsState) (h_areChoices : Γ f_areChoices = c_areChoices)  : Says P n c_IsChoice := by
  refine Says.pure fun args r fs h => ?_
  split at h
  case h_2 => cases h
  rename_i x_ m l_
  split at h
  case isFalse => cases h
  rename_i hc
  obtain ⟨hx_, hc⟩ := hc
  obtain ⟨x, rfl⟩ := isI_out hx_
  obtain ⟨hl_, hc⟩ := hc
  obtain ⟨l, rfl⟩ := isI_out hl_
  simp only [ofI_ints, ofBo_bools, ofAs_asks, Option.some.injEq, Prod.mk.injEq] at h hc
  obtain ⟨rfl, rfl⟩ := h
  cases hs : isSt x m with
  | false =>
    refine is.go hm hΓ k_IsChoice o_IsChoice (by simp [a_IsChoice]) ?_
    simp only [a_IsChoice, h_IsState, c_IsState, h_areChoices, c_areChoices, hc, hs, ints_len, List.zipIdx_cons, List.zipIdx_nil, ↓SP, SQ, Gam.add, stepM, callC, argC, lendO, nmBy, nmC, likeL, likeB, plainOb, offs, X, F, trP, trO, stepD, stepW, newA, SV.tr, SV.trL, fz, allP, Ob.tr, loadA, cellsA, SV.cells, binA, binI, eqOut, isSl, isPt, natOf, callee, snap, SV.refsL, SV.refs, thaw, fzAll, loA, hiA, elemOf, partsA, buildA, putCells, ↓reduceIte, reduceCtorEq, okCell, Nat.reduceAdd, Nat.reduceEqDiff, Nat.reduceSub, Nat.reduceMul, Nat.reduceLeDiff, Nat.reduceLT, Nat.reduceBEq, PV.scal, PV.scalL, SV.scal, SV.scalL, Ob.scal, PV.isCell, pure', resO]
    exact finA_val (by simp [retA, rvA, List.mapM_cons, List.mapM_nil, Option.pure_def, Option.bind_eq_bind, Option.bind_some, Option.map_some, mkE_cons, mk_nil, mkO_cons, mkO_nil, loadA, ↓reduceIte, List.take_succ_cons, List.take_zero, List.drop_zero, List.drop_succ_cons, List.length_cons, List.length_nil, Nat.reduceAdd, Nat.reduceEqDiff, Nat.reduceLeDiff, Nat.zero_add, Nat.le_refl, reduceCtorEq, SV.tr, SV.trL, nmF, rn_nil, rn_cons1, rn_cons2, List.map_cons, List.map_nil, List.all_cons, List.all_nil, plainOb, SV.refsL, SV.refs, Ob.refs, X, F, List.range_succ, List.range_zero, List.nil_append, List.cons_append, List.isEmpty_nil, decide_true, Nat.reduceLT, Bool.and_self, Bool.and_true, and_self, and_true, List.getElem?_cons_zero, List.getElem?_cons_succ, List.nodup_cons, List.nodup_nil, List.mem_cons, List.not_mem_nil, not_false_eq_true, or_false, List.append_nil, mkO, setO_mk, List.mem_singleton]) (by simp [SV.tr, SV.trL])
  | true =>
    refine is.go hm hΓ k_IsChoice o_IsChoice (by simp [a_IsChoice]) ?_
    simp only [a_IsChoice, h_IsState, c_IsState, h_areChoices, c_areChoices, hc, hs, ints_len, List.zipIdx_cons, List.zipIdx_nil, ↓SP, SQ, Gam.add, stepM, callC, argC, lendO, nmBy, nmC, likeL, likeB, plainOb, offs, X, F, trP, trO, stepD, stepW, newA, SV.tr, SV.trL, fz, allP, Ob.tr, loadA, cellsA, SV.cells, binA, binI, eqOut, isSl, isPt, natOf, callee, snap, SV.refsL, SV.refs, thaw, fzAll, loA, hiA, elemOf, partsA, buildA, putCells, ↓reduceIte, reduceCtorEq, okCell, Nat.reduceAdd, Nat.reduceEqDiff, Nat.reduceSub, Nat.reduceMul, Nat.reduceLeDiff, Nat.reduceLT, Nat.reduceBEq, PV.scal, PV.scalL, SV.scal, SV.scalL, Ob.scal, PV.isCell, pure', resO]
    exact finA_val (by simp [retA, rvA, List.mapM_cons, List.mapM_nil, Option.pure_def, Option.bind_eq_bind, Option.bind_some, Option.map_some, mkE_cons, mk_nil, mkO_cons, mkO_nil, loadA, ↓reduceIte, List.take_succ_cons, List.take_zero, List.drop_zero, List.drop_succ_cons, List.length_cons, List.length_nil, Nat.reduceAdd, Nat.reduceEqDiff, Nat.reduceLeDiff, Nat.zero_add, Nat.le_refl, reduceCtorEq, SV.tr, SV.trL, nmF, rn_nil, rn_cons1, rn_cons2, List.map_cons, List.map_nil, List.all_cons, List.all_nil, plainOb, SV.refsL, SV.refs, Ob.refs, X, F, List.range_succ, List.range_zero, List.nil_append, List.cons_append, List.isEmpty_nil, decide_true, Nat.reduceLT, Bool.and_self, Bool.and_true, and_self, and_true, List.getElem?_cons_zero, List.getElem?_cons_succ, List.nodup_cons, List.nodup_nil, List.mem_cons, List.not_mem_nil, not_false_eq_true, or_false, List.append_nil, mkO, setO_mk, List.mem_singleton]) (by simp [SV.tr, SV.trL])
theorem s_s_IsChoice {P : Program} (hm : P.follows .mixedOrders = true) {Γ : Gam} (hΓ : GS P Γ) {n : FuncId} {f_l2State : FuncId} {f_l11Choice : FuncId} (is : Is P n (a_s_IsChoice f_l2State f_l11Choice)) (h_l2State : Γ f_l2State = c_IsState) (h_l11Choice : Γ f_l11Choice = c_l11Choice)  : Says P n c_IsChoice := by
  refine Says.pure fun args r fs h => ?_
  split at h
  case h_2 => cases h
  rename_i x_ m l_
  split at h
  case isFalse => cases h
  rename_i hc
  obtain ⟨hx_, hc⟩ := hc
  obtain ⟨x, rfl⟩ := isI_out hx_
  obtain ⟨hl_, hc⟩ := hc
  obtain ⟨l, rfl⟩ := isI_out hl_
  simp only [ofI_ints, ofBo_bools, ofAs_asks, Option.some.injEq, Prod.mk.injEq] at h hc
  obtain ⟨rfl, rfl⟩ := h
  cases hs : isSt x m with
  | false =>
    refine is.go hm hΓ k_s_IsChoice o_s_IsChoice (by simp [a_s_IsChoice]) ?_
    simp only [a_s_IsChoice, h_l2State, c_IsState, h_l11Choice, c_l11Choice, hc, hs, ints_len, List.zipIdx_cons, List.zipIdx_nil, ↓SP, SQ, Gam.add, stepM, callC, argC, lendO, nmBy, nmC, likeL, likeB, plainOb, offs, X, F, trP, trO, stepD, stepW, newA, SV.tr, SV.trL, fz, allP, Ob.tr, loadA, cellsA, SV.cells, binA, binI, eqOut, isSl, isPt, natOf, callee, snap, SV.refsL, SV.refs, thaw, fzAll, loA, hiA, elemOf, partsA, buildA, putCells, ↓reduceIte, reduceCtorEq, okCell, Nat.reduceAdd, Nat.reduceEqDiff, Nat.reduceSub, Nat.reduceMul, Nat.reduceLeDiff, Nat.reduceLT, Nat.reduceBEq, PV.scal, PV.scalL, SV.scal, SV.scalL, Ob.scal, PV.isCell, pure', resO]
    exact finA_val (by simp [retA, rvA, List.mapM_cons, List.mapM_nil, Option.pure_def, Option.bind_eq_bind, Option.bind_some, Option.map_some, mkE_cons, mk_nil, mkO_cons, mkO_nil, loadA, ↓reduceIte, List.take_succ_cons, List.take_zero, List.drop_zero, List.drop_succ_cons, List.length_cons, List.length_nil, Nat.reduceAdd, Nat.reduceEqDiff, Nat.reduceLeDiff, Nat.zero_add, Nat.le_refl, reduceCtorEq, SV.tr, SV.trL, nmF, rn_nil, rn_cons1, rn_cons2, List.map_cons, List.map_nil, List.all_cons, List.all_nil, plainOb, SV.refsL, SV.refs, Ob.refs, X, F, List.range_succ, List.range_zero, List.nil_append, List.cons_append, List.isEmpty_nil, decide_true, Nat.reduceLT, Bool.and_self, Bool.and_true, and_self, and_true, List.getElem?_cons_zero, List.getElem?_cons_succ, List.nodup_cons, List.nodup_nil, List.mem_cons, List.not_mem_nil, not_false_eq_true, or_false, List.append_nil, mkO, setO_mk, List.mem_singleton]) (by simp [SV.tr, SV.trL])
  | true =>
    refine is.go hm hΓ k_s_IsChoice o_s_IsChoice (by simp [a_s_IsChoice]) ?_
    simp only [a_s_IsChoice, h_l2State, c_IsState, h_l11Choice, c_l11Choice, hc, hs, ints_len, List.zipIdx_cons, List.zipIdx_nil, ↓SP, SQ, Gam.add, stepM, callC, argC, lendO, nmBy, nmC, likeL, likeB, plainOb, offs, X, F, trP, trO, stepD, stepW, newA, SV.tr, SV.trL, fz, allP, Ob.tr, loadA, cellsA, SV.cells, binA, binI, eqOut, isSl, isPt, natOf, callee, snap, SV.refsL, SV.refs, thaw, fzAll, loA, hiA, elemOf, partsA, buildA, putCells, ↓reduceIte, reduceCtorEq, okCell, Nat.reduceAdd, Nat.reduceEqDiff, Nat.reduceSub, Nat.reduceMul, Nat.reduceLeDiff, Nat.reduceLT, Nat.reduceBEq, PV.scal, PV.scalL, SV.scal, SV.scalL, Ob.scal, PV.isCell, pure', resO]
    exact finA_val (by simp [retA, rvA, List.mapM_cons, List.mapM_nil, Option.pure_def, Option.bind_eq_bind, Option.bind_some, Option.map_some, mkE_cons, mk_nil, mkO_cons, mkO_nil, loadA, ↓reduceIte, List.take_succ_cons, List.take_zero, List.drop_zero, List.drop_succ_cons, List.length_cons, List.length_nil, Nat.reduceAdd, Nat.reduceEqDiff, Nat.reduceLeDiff, Nat.zero_add, Nat.le_refl, reduceCtorEq, SV.tr, SV.trL, nmF, rn_nil, rn_cons1, rn_cons2, List.map_cons, List.map_nil, List.all_cons, List.all_nil, plainOb, SV.refsL, SV.refs, Ob.refs, X, F, List.range_succ, List.range_zero, List.nil_append, List.cons_append, List.isEmpty_nil, decide_true, Nat.reduceLT, Bool.and_self, Bool.and_true, and_self, and_true, List.getElem?_cons_zero, List.getElem?_cons_succ, List.nodup_cons, List.nodup_nil, List.mem_cons, List.not_mem_nil, not_false_eq_true, or_false, List.append_nil, mkO, setO_mk, List.mem_singleton]) (by simp [SV.tr, SV.trL])
def a_x_IsChoice (f_szState : FuncId) (f_toState : FuncId) (f_toIntS : FuncId) (f_s_IsChoice : FuncId) (f_IsChoice : FuncId) (f_eqState : FuncId) (f_eqIntS : FuncId) : AFn := ⟨2, 
  .seq (.reg [⟨some 2, none, .w (.box 2 (.t 0))⟩,
    ⟨some 4, none, .d (.mv (.c (.bool false)))⟩])
  (.seq (.seq (.reg [⟨some 12, none, .d (.mv (.t 1))⟩,
    ⟨some 13, none, .d (.len (.t 12))⟩,
    ⟨some 14, none, .d (.bin .arith .gtr (.t 13) (.c (.int .i64 1048576)))⟩])
  (.cond (.t 14) (.seq (.reg [⟨some 4, none, .d (.mv (.c (.bool true)))⟩])
   (.ret)) (.skip)))
  (.seq (.reg [⟨some 5, none, .d (.mv (.c (.int .i64 1048576)))⟩])
  (.seq (.reg [⟨some 15, none, .d (.load true 2 (.t 2))⟩,
    ⟨some 16, none, .d (.mv (.t 5))⟩,
    ⟨some 17, none, .d (.call (.f f_szState) [(.t 15), (.t 16)])⟩,
    ⟨some 5, none, .d (.mv (.t 17))⟩])
  (.seq (.seq (.reg [⟨some 18, none, .d (.mv (.t 5))⟩,
    ⟨some 19, none, .d (.bin .arith .lss (.t 18) (.c (.int .i64 0)))⟩])
  (.cond (.t 19) (.seq (.reg [⟨some 4, none, .d (.mv (.c (.bool true)))⟩])
   (.ret)) (.skip)))
  (.seq (.reg [⟨some 21, none, .d (.load true 2 (.t 2))⟩,
    ⟨some 22, none, .d (.call (.f f_toState) [(.t 21)])⟩,
    ⟨some 23, none, .d (.mv (.t 1))⟩,
    ⟨some 24, none, .d (.call (.f f_toIntS) [(.t 23)])⟩,
    ⟨some 25, none, .d (.call (.f f_s_IsChoice) [(.t 22), (.t 24)])⟩,
    ⟨some 20, none, .d (.mv (.t 25))⟩,
    ⟨some 26, none, .d (.extract (.t 20) 0)⟩,
    ⟨some 27, none, .d (.extract (.t 20) 1)⟩,
    ⟨some 6, none, .d (.mv (.t 26))⟩,
    ⟨some 7, none, .d (.mv (.t 27))⟩])
  (.seq (.reg [⟨some 28, none, .d (.load true 2 (.t 2))⟩,
    ⟨some 29, none, .d (.call (.f f_toState) [(.t 28)])⟩,
    ⟨some 8, none, .w (.alloc [.nilsl, .int .i64 0])⟩,
    ⟨none, none, .w (.store 2 (.t 8) (.t 29))⟩])
  (.seq (.reg [⟨some 30, none, .d (.mv (.t 1))⟩,
    ⟨some 31, none, .d (.call (.f f_toIntS) [(.t 30)])⟩,
    ⟨some 9, none, .d (.mv (.t 31))⟩])
  (.seq (.reg [⟨some 33, none, .d (.load true 2 (.t 8))⟩,
    ⟨some 34, none, .d (.mv (.t 9))⟩,
    ⟨some 35, none, .d (.call (.f f_IsChoice) [(.t 33), (.t 34)])⟩,
    ⟨some 32, none, .d (.mv (.t 35))⟩,
    ⟨some 36, none, .d (.extract (.t 32) 0)⟩,
    ⟨some 37, none, .d (.extract (.t 32) 1)⟩,
    ⟨some 10, none, .d (.mv (.t 36))⟩,
    ⟨some 11, none, .d (.mv (.t 37))⟩])
  (.seq (.seq (.reg [⟨some 38, none, .d (.mv (.t 10))⟩,
    ⟨some 39, none, .d (.mv (.t 6))⟩,
    ⟨some 40, none, .d (.bin .bool .neq (.t 38) (.t 39))⟩,
    ⟨some 41, none, .d (.mv (.t 40))⟩,
    ⟨some 42, some (41, false), .d (.mv (.t 11))⟩,
    ⟨some 43, some (41, false), .d (.mv (.t 7))⟩,
    ⟨some 44, some (41, false), .d (.bin .bool .neq (.t 42) (.t 43))⟩,
    ⟨some 45, none, .d (.pick (.t 41) (.c (.bool true)) (.t 44))⟩])
  (.cond (.t 45) (.seq (.reg [⟨some 4, none, .d (.mv (.c (.bool false)))⟩])
   (.ret)) (.skip)))
  (.seq (.seq (.dreg [] [([], ⟨some 46, none, .d (.load true 2 (.t 8))⟩),
    ([], ⟨some 47, none, .d (.load true 2 (.t 2))⟩),
    ([], ⟨some 48, none, .d (.call (.f f_toState) [(.t 47)])⟩)] [⟨some 49, none, .d (.call (.f f_eqState) [(.t 46), (.t 48)])⟩,
    ⟨some 50, none, .d (.not (.t 49))⟩])
  (.cond (.t 50) (.seq (.reg [⟨some 4, none, .d (.mv (.c (.bool false)))⟩])
   (.ret)) (.skip)))
  (.seq (.seq (.reg [⟨some 51, none, .d (.mv (.t 9))⟩,
    ⟨some 52, none, .d (.mv (.t 1))⟩,
    ⟨some 53, none, .d (.call (.f f_toIntS) [(.t 52)])⟩,
    ⟨some 54, none, .d (.call (.f f_eqIntS) [(.t 51), (.t 53)])⟩,
    ⟨some 55, none, .d (.not (.t 54))⟩])
  (.cond (.t 55) (.seq (.reg [⟨some 4, none, .d (.mv (.c (.bool false)))⟩])
   (.ret)) (.skip)))
  (.seq (.reg [⟨some 4, none, .d (.mv (.c (.bool true)))⟩])
  (.ret))))))))))))), [.tmp 4]⟩
def n_x_IsChoice : Nat → Option Ann := fun _ => none
abbrev k_x_IsChoice : List Nat := [0, 1, 2, 4, 5, 6, 7, 8, 9, 10, 11, 14, 19, 45, 50, 55]
abbrev o_x_IsChoice : List Nat := [2, 8]
def c_x_IsChoice : Con := pure' fun
  | [.p (.agg [v, .int .i64 m]), .p u] => match slI v, slI u with
    | some l, some k => if l.length ≤ 9223372036854775807 ∧ k.length ≤ 9223372036854775807 then some (.p (.bool true), []) else none
    | _, _ => none
  | _ => none
set_option maxRecDepth 100000 in
theorem s_x_IsChoice {P : Program} (hm : P.follows .mixedOrders = true) {Γ : Gam} (hΓ : GS P Γ) {n : FuncId} {f_szState : FuncId} {f_toState : FuncId} {f_toIntS : FuncId} {f_s_IsChoice : FuncId} {f_IsChoice : FuncId} {f_eqState : FuncId} {f_eqIntS : FuncId} (is : Is P n (a_x_IsChoice f_szState f_toState f_toIntS f_s_IsChoice f_IsChoice f_eqState f_eqIntS)) (h_szState : Γ f_szState = c_szState) (h_toState : Γ f_toState = c_toState) (h_toIntS : Γ f_toIntS = c_toIntS) (h_s_IsChoice : Γ f_s_IsChoice = c_IsChoice) (h_IsChoice : Γ f_IsChoice = c_IsChoice) (h_eqState : Γ f_eqState = c_eqState) (h_eqIntS : Γ f_eqIntS = c_eqIntS)  : Says P n c_x_IsChoice := by
  refine Says.pure fun args r fs h => ?_
  split at h
  case h_2 => cases h
  rename_i v m u
  split at h
  case h_2 => cases h
  rename_i l k hl hu
  split at h
  case isFalse => cases h
  rename_i hc
  simp only [Option.some.injEq, Prod.mk.injEq] at h
  obtain ⟨rfl, rfl⟩ := h
  have hlp := slI_lenP hl
  have hlu := slI_len hu
  by_cases hku : (k.length : Int) > 1048576
  · refine is.go hm hΓ k_x_IsChoice o_x_IsChoice (by simp [a_x_IsChoice]) ?_
    simp only [a_x_IsChoice, h_szState, c_szState, h_toState, c_toState, h_toIntS, c_toIntS, h_s_IsChoice, c_IsChoice, h_IsChoice, c_IsChoice, h_eqState, c_eqState, h_eqIntS, c_eqIntS, hlp, hlu, hc, hku, Int.reduceLE, Int.reduceNeg, Int.reduceLT, List.zipIdx_cons, List.zipIdx_nil, ↓SP, SQ, Gam.add, stepM, callC, argC, lendO, nmBy, nmC, likeL, likeB, plainOb, offs, X, F, trP, trO, stepD, stepW, newA, SV.tr, SV.trL, fz, allP, Ob.tr, loadA, cellsA, SV.cells, binA, binI, eqOut, isSl, isPt, natOf, callee, snap, SV.refsL, SV.refs, thaw, fzAll, loA, hiA, elemOf, partsA, buildA, putCells, ↓reduceIte, reduceCtorEq, okCell, Nat.reduceAdd, Nat.reduceEqDiff, Nat.reduceSub, Nat.reduceMul, Nat.reduceLeDiff, Nat.reduceLT, Nat.reduceBEq, PV.scal, PV.scalL, SV.scal, SV.scalL, Ob.scal, PV.isCell, pure', resO]
    exact finA_val (by simp [retA, rvA, List.mapM_cons, List.mapM_nil, Option.pure_def, Option.bind_eq_bind, Option.bind_some, Option.map_some, mkE_cons, mk_nil, mkO_cons, mkO_nil, loadA, ↓reduceIte, List.take_succ_cons, List.take_zero, List.drop_zero, List.drop_succ_cons, List.length_cons, List.length_nil, Nat.reduceAdd, Nat.reduceEqDiff, Nat.reduceLeDiff, Nat.zero_add, Nat.le_refl, reduceCtorEq, SV.tr, SV.trL, nmF, rn_nil, rn_cons1, rn_cons2, List.map_cons, List.map_nil, List.all_cons, List.all_nil, plainOb, SV.refsL, SV.refs, Ob.refs, X, F, List.range_succ, List.range_zero, List.nil_append, List.cons_append, List.isEmpty_nil, decide_true, Nat.reduceLT, Bool.and_self, Bool.and_true, and_self, and_true, List.getElem?_cons_zero, List.getElem?_cons_succ, List.nodup_cons, List.nodup_nil, List.mem_cons, List.not_mem_nil, not_false_eq_true, or_false, List.append_nil, mkO, setO_mk, List.mem_singleton]) (by simp [SV.tr, SV.trL])
  · by_cases hk : (1048576 : Int) - (l.length : Int) < 0
    · refine is.go hm hΓ k_x_IsChoice o_x_IsChoice (by simp [a_x_IsChoice]) ?_
      simp only [a_x_IsChoice, h_szState, c_szState, h_toState, c_toState, h_toIntS, c_toIntS, h_s_IsChoice, c_IsChoice, h_IsChoice, c_IsChoice, h_eqState, c_eqState, h_eqIntS, c_eqIntS, hlp, hlu, hc, hk, hku, Int.reduceLE, Int.reduceNeg, Int.reduceLT, List.zipIdx_cons, List.zipIdx_nil, ↓SP, SQ, Gam.add, stepM, callC, argC, lendO, nmBy, nmC, likeL, likeB, plainOb, offs, X, F, trP, trO, stepD, stepW, newA, SV.tr, SV.trL, fz, allP, Ob.tr, loadA, cellsA, SV.cells, binA, binI, eqOut, isSl, isPt, natOf, callee, snap, SV.refsL, SV.refs, thaw, fzAll, loA, hiA, elemOf, partsA, buildA, putCells, ↓reduceIte, reduceCtorEq, okCell, Nat.reduceAdd, Nat.reduceEqDiff, Nat.reduceSub, Nat.reduceMul, Nat.reduceLeDiff, Nat.reduceLT, Nat.reduceBEq, PV.scal, PV.scalL, SV.scal, SV.scalL, Ob.scal, PV.isCell, pure', resO]
      exact finA_val (by simp [retA, rvA, List.mapM_cons, List.mapM_nil, Option.pure_def, Option.bind_eq_bind, Option.bind_some, Option.map_some, mkE_cons, mk_nil, mkO_cons, mkO_nil, loadA, ↓reduceIte, List.take_succ_cons, List.take_zero, List.drop_zero, List.drop_succ_cons, List.length_cons, List.length_nil, Nat.reduceAdd, Nat.reduceEqDiff, Nat.reduceLeDiff, Nat.zero_add, Nat.le_refl, reduceCtorEq, SV.tr, SV.trL, nmF, rn_nil, rn_cons1, rn_cons2, List.map_cons, List.map_nil, List.all_cons, List.all_nil, plainOb, SV.refsL, SV.refs, Ob.refs, X, F, List.range_succ, List.range_zero, List.nil_append, List.cons_append, List.isEmpty_nil, decide_true, Nat.reduceLT, Bool.and_self, Bool.and_true, and_self, and_true, List.getElem?_cons_zero, List.getElem?_cons_succ, List.nodup_cons, List.nodup_nil, List.mem_cons, List.not_mem_nil, not_false_eq_true, or_false, List.append_nil, mkO, setO_mk, List.mem_singleton]) (by simp [SV.tr, SV.trL])
    · have hlen : l.length ≤ 1048576 := by omega
      have hlen2 : l.length ≤ 1100000 := by omega
      have hlen3 : k.length ≤ 1048576 := by omega
      have hlen4 : k.length ≤ 1100000 := by omega
      generalize hg1 : (isSt l m && chA l.length k) = b1 at *
      generalize hg2 : isSt l m = b2 at *
      refine is.go hm hΓ k_x_IsChoice o_x_IsChoice (by simp [a_x_IsChoice]) ?_
      simp only [a_x_IsChoice, h_szState, c_szState, h_toState, c_toState, h_toIntS, c_toIntS, h_s_IsChoice, c_IsChoice, h_IsChoice, c_IsChoice, h_eqState, c_eqState, h_eqIntS, c_eqIntS, hl, hu, hlp, hlu, hc, hk, hku, hlen, hlen2, hlen3, hlen4, hg1, hg2, slI_sl, beq_self_eq_true, Bool.not_true, Int.reduceLE, Int.reduceNeg, Int.reduceLT, bne_self_eq_false, List.zipIdx_cons, List.zipIdx_nil, ↓SP, SQ, Gam.add, stepM, callC, argC, lendO, nmBy, nmC, likeL, likeB, plainOb, offs, X, F, trP, trO, stepD, stepW, newA, SV.tr, SV.trL, fz, allP, Ob.tr, loadA, cellsA, SV.cells, binA, binI, eqOut, isSl, isPt, natOf, callee, snap, SV.refsL, SV.refs, thaw, fzAll, loA, hiA, elemOf, partsA, buildA, putCells, ↓reduceIte, reduceCtorEq, okCell, Nat.reduceAdd, Nat.reduceEqDiff, Nat.reduceSub, Nat.reduceMul, Nat.reduceLeDiff, Nat.reduceLT, Nat.reduceBEq, PV.scal, PV.scalL, SV.scal, SV.scalL, Ob.scal, PV.isCell, pure', resO]
      exact finA_val (by simp [retA, rvA, List.mapM_cons, List.mapM_nil, Option.pure_def, Option.bind_eq_bind, Option.bind_some, Option.map_some, mkE_cons, mk_nil, mkO_cons, mkO_nil, loadA, ↓reduceIte, List.take_succ_cons, List.take_zero, List.drop_zero, List.drop_succ_cons, List.length_cons, List.length_nil, Nat.reduceAdd, Nat.reduceEqDiff, Nat.reduceLeDiff, Nat.zero_add, Nat.le_refl, reduceCtorEq, SV.tr, SV.trL, nmF, rn_nil, rn_cons1, rn_cons2, List.map_cons, List.map_nil, List.all_cons, List.all_nil, plainOb, SV.refsL, SV.refs, Ob.refs, X, F, List.range_succ, List.range_zero, List.nil_append, List.cons_append, List.isEmpty_nil, decide_true, Nat.reduceLT, Bool.and_self, Bool.and_true, and_self, and_true, List.getElem?_cons_zero, List.getElem?_cons_succ, List.nodup_cons, List.nodup_nil, List.mem_cons, List.not_mem_nil, not_false_eq_true, or_false, List.append_nil, mkO, setO_mk, List.mem_singleton]) (by simp [SV.tr, SV.trL])
end Go.Proofs.Ytnonkjcklgihhaa.Pam
