/- A part of the proof that stands in this folder: a small machine whose steps are shown to be the steps of the model, or walks of functions by it. No condition of its own. -/
import Derived.Test.YticidepkeffkhaaGbLE
set_option linter.unusedVariables false
set_option linter.unusedSimpArgs false
namespace Go.Proofs.Yticidepkeffkhaa.Pam
open Go
/-- Whether the i-th of some choices is right. -/
def chOK (n : Int) (l : List Int) (i : Nat) : Bool := isQ n (l.getD i 0) && (decide (i = 0) || decide (l.getD (i - 1) 0 < l.getD i 0))
def chA (n : Int) (l : List Int) : Bool := (List.range l.length).all (chOK n l) && (decide (1 ≤ (l.length : Int)) && decide ((l.length : Int) ≤ 5))
theorem chA_bad {n : Int} {l : List Int} {i : Nat} (h : i < l.length) (hb : chOK n l i = false) : chA n l = false := by
  have : (List.range l.length).all (chOK n l) = false := by
    rw [Bool.eq_false_iff]; intro e
    have := List.all_eq_true.1 e i (List.mem_range.2 h)
    rw [hb] at this; cases this
  simp [chA, this]
theorem chA_good {n : Int} {l : List Int} (hb : ∀ i, i < l.length → chOK n l i = true) : chA n l = (decide (1 ≤ (l.length : Int)) && decide ((l.length : Int) ≤ 5)) := by
  have : (List.range l.length).all (chOK n l) = true := List.all_eq_true.2 fun i hi => hb i (List.mem_range.1 hi)
  simp [chA, this]
theorem wrap_pred {k : Nat} (h : k ≤ 1100000) : IntKind.i64.wrap (((k + 1 : Nat) : Int) - 1) = (k : Int) := by rw [wrap64 (by omega) (by omega)]; omega
def a_areChoices (f_isQuestion : FuncId) (f_in : FuncId) : AFn := ⟨2, 
  .seq (.reg [⟨some 4, none, .d (.mv (.c (.bool false)))⟩])
  (.seq (.seq (.reg [⟨some 7, none, .d (.mv (.t 1))⟩,
    ⟨some 8, none, .d (.len (.t 7))⟩,
    ⟨some 9, none, .d (.mv (.c (.int .i64 0)))⟩])
  (.block 0 (.loop (.seq (.reg [⟨some 10, none, .d (.bin .arith .lss (.t 9) (.t 8))⟩])
    (.seq (.cond (.t 10) (.skip) (.exit 0))
    (.seq (.block 1 (.seq (.reg [⟨some 11, none, .d (.mv (.t 9))⟩,
       ⟨some 12, none, .d (.ia 1 (.t 7) (.t 9))⟩,
       ⟨some 13, none, .d (.load false 1 (.t 12))⟩,
       ⟨some 5, none, .d (.mv (.t 11))⟩,
       ⟨some 6, none, .d (.mv (.t 13))⟩])
     (.seq (.reg [⟨some 14, none, .d (.mv (.t 0))⟩,
       ⟨some 15, none, .d (.mv (.t 6))⟩,
       ⟨some 16, none, .d (.call (.f f_isQuestion) [(.t 14), (.t 15)])⟩,
       ⟨some 17, none, .d (.not (.t 16))⟩,
       ⟨some 18, none, .d (.mv (.t 17))⟩,
       ⟨some 19, some (18, false), .d (.mv (.t 5))⟩,
       ⟨some 20, some (18, false), .d (.bin .arith .gtr (.t 19) (.c (.int .i64 0)))⟩,
       ⟨some 21, some (18, false), .d (.mv (.t 20))⟩,
       ⟨some 22, some (21, true), .d (.mv (.t 1))⟩,
       ⟨some 23, some (21, true), .d (.mv (.t 5))⟩,
       ⟨some 24, some (21, true), .d (.bin .arith .sub (.t 23) (.c (.int .i64 1)))⟩,
       ⟨some 25, some (21, true), .d (.ia 1 (.t 22) (.t 24))⟩,
       ⟨some 26, some (21, true), .d (.load false 1 (.t 25))⟩,
       ⟨some 27, some (21, true), .d (.mv (.t 6))⟩,
       ⟨some 28, some (21, true), .d (.bin .arith .geq (.t 26) (.t 27))⟩,
       ⟨some 29, some (18, false), .d (.pick (.t 21) (.t 28) (.c (.bool false)))⟩,
       ⟨some 30, none, .d (.pick (.t 18) (.c (.bool true)) (.t 29))⟩])
     (.cond (.t 30) (.seq (.reg [⟨some 4, none, .d (.mv (.c (.bool false)))⟩])
      (.ret)) (.skip)))))
    (.reg [⟨some 31, none, .d (.bin .arith .add (.t 9) (.c (.int .i64 1)))⟩,
      ⟨some 9, none, .d (.mv (.t 31))⟩])))))))
  (.seq (.reg [⟨some 32, none, .d (.mv (.t 1))⟩,
    ⟨some 33, none, .d (.len (.t 32))⟩,
    ⟨some 34, none, .d (.call (.f f_in) [(.t 33), (.c (.int .i64 1)), (.c (.int .i64 5))])⟩,
    ⟨some 4, none, .d (.mv (.t 34))⟩])
  (.ret))), [.tmp 4]⟩
def n_areChoices : Nat → Option Ann := fun _ => none
abbrev k_areChoices : List Nat := [0, 1, 4, 5, 6, 7, 8, 9, 10, 30]
abbrev o_areChoices : List Nat := []
def c_areChoices : Con := pure' fun
  | [.p (.int .i64 n), .p (.sl 1 l_)] => if isI l_ = true ∧ ((ofI l_).length ≤ 1100000) then some (.p (.bool (chA n (ofI l_))), []) else none
  | _ => none
theorem s_areChoices {P : Program} (hm : P.follows .mixedOrders = true) {Γ : Gam} (hΓ : GS P Γ) {n : FuncId} {f_isQuestion : FuncId} {f_in : FuncId} (is : Is P n (a_areChoices f_isQuestion f_in)) (h_isQuestion : Γ f_isQuestion = c_isQuestion) (h_in : Γ f_in = c_in)  : Says P n c_areChoices := by
  refine Says.pure fun args r fs h => ?_
  split at h
  case h_2 => cases h
  rename_i n l_
  split at h
  case isFalse => cases h
  rename_i hc
  obtain ⟨hl_, hc⟩ := hc
  obtain ⟨l, rfl⟩ := isI_out hl_
  simp only [ofI_ints, ofBo_bools, ofAs_asks, Option.some.injEq, Prod.mk.injEq] at h hc
  obtain ⟨rfl, rfl⟩ := h
  refine is.go hm hΓ k_areChoices o_areChoices (by simp [a_areChoices]) ?_
  simp only [a_areChoices, h_isQuestion, c_isQuestion, h_in, c_in, List.zipIdx_cons, List.zipIdx_nil, ↓SP, SQ, Gam.add, stepM, callC, argC, lendO, nmBy, nmC, likeL, likeB, plainOb, offs, X, F, trP, trO, stepD, stepW, newA, SV.tr, SV.trL, fz, allP, Ob.tr, loadA, cellsA, SV.cells, binA, binI, eqOut, isSl, isPt, natOf, callee, snap, SV.refsL, SV.refs, thaw, fzAll, loA, hiA, elemOf, partsA, buildA, putCells, ↓reduceIte, reduceCtorEq, okCell, Nat.reduceAdd, Nat.reduceEqDiff, Nat.reduceSub, Nat.reduceMul, Nat.reduceLeDiff, Nat.reduceLT, Nat.reduceBEq, PV.scal, PV.scalL, SV.scal, SV.scalL, Ob.scal, PV.isCell, pure', resO]
  refine loop_at (fun s : Nat × SV × SV × SV × SV => mkEnv [(0, si n), (1, .p (.sl 1 (ints l))), (4, sb false), (5, s.2.1), (6, s.2.2.1), (7, .p (.sl 1 (ints l))), (8, si l.length), (9, si s.1), (10, s.2.2.2.1), (30, s.2.2.2.2)]) (fun s => mkO []) (fun s => s.1 ≤ l.length ∧ ∀ j, j < s.1 → chOK n l j = true) (fun s => l.length - s.1) (0, .junk, .junk, .junk, .junk) (by simp) rfl rfl ?_
  rintro ⟨i, c1, c2, c3, c4⟩ ⟨hi, hp⟩ R hR hN
  simp only at hi hp
  by_cases h : i < l.length
  · have h1 : (i : Int) < l.length := by omega
    have hw := wrap_one (i := i) (by omega)
    have hg := ints_get h
    have hnext : chOK n l i = true → ∀ j, j < i + 1 → chOK n l j = true := fun hb j hj => by
      by_cases hji : j = i
      · rw [hji]; exact hb
      · exact hp j (by omega)
    cases hq : isQ n (l.getD i 0) with
    | false =>
      have hb := chA_bad (n := n) h (by simp only [chOK, hq, Bool.false_and])
      simp only [h1, hw, hg, hq, hb, h_isQuestion, c_isQuestion, ↓SP, SQ, Gam.add, stepM, callC, argC, lendO, nmBy, nmC, likeL, likeB, plainOb, offs, X, F, trP, trO, stepD, stepW, newA, SV.tr, SV.trL, fz, allP, Ob.tr, loadA, cellsA, SV.cells, binA, binI, eqOut, isSl, isPt, natOf, callee, snap, SV.refsL, SV.refs, thaw, fzAll, loA, hiA, elemOf, partsA, buildA, putCells, ↓reduceIte, reduceCtorEq, okCell, Nat.reduceAdd, Nat.reduceEqDiff, Nat.reduceSub, Nat.reduceMul, Nat.reduceLeDiff, Nat.reduceLT, Nat.reduceBEq, PV.scal, PV.scalL, SV.scal, SV.scalL, Ob.scal, PV.isCell, pure', resO]
      refine hR _ _ _ (by intro h; cases h) ?_
      simp only [hb, ↓SP, SQ, Gam.add, stepM, callC, argC, lendO, nmBy, nmC, likeL, likeB, plainOb, offs, X, F, trP, trO, stepD, stepW, newA, SV.tr, SV.trL, fz, allP, Ob.tr, loadA, cellsA, SV.cells, binA, binI, eqOut, isSl, isPt, natOf, callee, snap, SV.refsL, SV.refs, thaw, fzAll, loA, hiA, elemOf, partsA, buildA, putCells, ↓reduceIte, reduceCtorEq, okCell, Nat.reduceAdd, Nat.reduceEqDiff, Nat.reduceSub, Nat.reduceMul, Nat.reduceLeDiff, Nat.reduceLT, Nat.reduceBEq, PV.scal, PV.scalL, SV.scal, SV.scalL, Ob.scal, PV.isCell, pure', resO]
      exact finA_val (by simp [retA, rvA, List.mapM_cons, List.mapM_nil, Option.pure_def, Option.bind_eq_bind, Option.bind_some, Option.map_some, mkE_cons, mk_nil, mkO_cons, mkO_nil, loadA, ↓reduceIte, List.take_succ_cons, List.take_zero, List.drop_zero, List.drop_succ_cons, List.length_cons, List.length_nil, Nat.reduceAdd, Nat.reduceEqDiff, Nat.reduceLeDiff, Nat.zero_add, Nat.le_refl, reduceCtorEq, SV.tr, SV.trL, nmF, rn_nil, rn_cons1, rn_cons2, List.map_cons, List.map_nil, List.all_cons, List.all_nil, plainOb, SV.refsL, SV.refs, Ob.refs, X, F, List.range_succ, List.range_zero, List.nil_append, List.cons_append, List.isEmpty_nil, decide_true, Nat.reduceLT, Bool.and_self, Bool.and_true, and_self, and_true, List.getElem?_cons_zero, List.getElem?_cons_succ, List.nodup_cons, List.nodup_nil, List.mem_cons, List.not_mem_nil, not_false_eq_true, or_false, List.append_nil, mkO, setO_mk, List.mem_singleton]) (by simp [SV.tr, SV.trL])
    | true =>
      cases i with
      | zero =>
        have hok : chOK n l 0 = true := by simp only [chOK, hq, Bool.true_and, decide_true, Bool.true_or]
        have h00 : ¬ ((0 : Nat) : Int) > 0 := by omega
        simp only [h1, hw, hg, hq, h00, h_isQuestion, c_isQuestion, ↓SP, SQ, Gam.add, stepM, callC, argC, lendO, nmBy, nmC, likeL, likeB, plainOb, offs, X, F, trP, trO, stepD, stepW, newA, SV.tr, SV.trL, fz, allP, Ob.tr, loadA, cellsA, SV.cells, binA, binI, eqOut, isSl, isPt, natOf, callee, snap, SV.refsL, SV.refs, thaw, fzAll, loA, hiA, elemOf, partsA, buildA, putCells, ↓reduceIte, reduceCtorEq, okCell, Nat.reduceAdd, Nat.reduceEqDiff, Nat.reduceSub, Nat.reduceMul, Nat.reduceLeDiff, Nat.reduceLT, Nat.reduceBEq, PV.scal, PV.scalL, SV.scal, SV.scalL, Ob.scal, PV.isCell, pure', resO]
        refine hN (0 + 1, _, _, _, _) _ _ ⟨by simp only; omega, hnext hok⟩ (by simp only; omega) rfl rfl
      | succ k =>
        have hgt : ((k + 1 : Nat) : Int) > 0 := by omega
        have hwp := wrap_pred (k := k) (by omega)
        have hg2 := ints_get (l := l) (i := k) (by omega)
        by_cases hge : l.getD (k + 1) 0 ≤ l.getD k 0
        · have hb := chA_bad (n := n) h (by simp only [chOK, hq, Bool.true_and, Nat.add_sub_cancel, dec_f (show ¬ k + 1 = 0 by omega), Bool.false_or]; exact dec_f (by omega))
          have hge' : l.getD k 0 ≥ l.getD (k + 1) 0 := hge
          simp only [h1, hw, hg, hq, hb, hgt, hwp, hg2, hge, hge', h_isQuestion, c_isQuestion, ↓SP, SQ, Gam.add, stepM, callC, argC, lendO, nmBy, nmC, likeL, likeB, plainOb, offs, X, F, trP, trO, stepD, stepW, newA, SV.tr, SV.trL, fz, allP, Ob.tr, loadA, cellsA, SV.cells, binA, binI, eqOut, isSl, isPt, natOf, callee, snap, SV.refsL, SV.refs, thaw, fzAll, loA, hiA, elemOf, partsA, buildA, putCells, ↓reduceIte, reduceCtorEq, okCell, Nat.reduceAdd, Nat.reduceEqDiff, Nat.reduceSub, Nat.reduceMul, Nat.reduceLeDiff, Nat.reduceLT, Nat.reduceBEq, PV.scal, PV.scalL, SV.scal, SV.scalL, Ob.scal, PV.isCell, pure', resO]
          refine hR _ _ _ (by intro h; cases h) ?_
          simp only [hb, ↓SP, SQ, Gam.add, stepM, callC, argC, lendO, nmBy, nmC, likeL, likeB, plainOb, offs, X, F, trP, trO, stepD, stepW, newA, SV.tr, SV.trL, fz, allP, Ob.tr, loadA, cellsA, SV.cells, binA, binI, eqOut, isSl, isPt, natOf, callee, snap, SV.refsL, SV.refs, thaw, fzAll, loA, hiA, elemOf, partsA, buildA, putCells, ↓reduceIte, reduceCtorEq, okCell, Nat.reduceAdd, Nat.reduceEqDiff, Nat.reduceSub, Nat.reduceMul, Nat.reduceLeDiff, Nat.reduceLT, Nat.reduceBEq, PV.scal, PV.scalL, SV.scal, SV.scalL, Ob.scal, PV.isCell, pure', resO]
          exact finA_val (by simp [retA, rvA, List.mapM_cons, List.mapM_nil, Option.pure_def, Option.bind_eq_bind, Option.bind_some, Option.map_some, mkE_cons, mk_nil, mkO_cons, mkO_nil, loadA, ↓reduceIte, List.take_succ_cons, List.take_zero, List.drop_zero, List.drop_succ_cons, List.length_cons, List.length_nil, Nat.reduceAdd, Nat.reduceEqDiff, Nat.reduceLeDiff, Nat.zero_add, Nat.le_refl, reduceCtorEq, SV.tr, SV.trL, nmF, rn_nil, rn_cons1, rn_cons2, List.map_cons, List.map_nil, List.all_cons, List.all_nil, plainOb, SV.refsL, SV.refs, Ob.refs, X, F, List.range_succ, List.range_zero, List.nil_append, List.cons_append, List.isEmpty_nil, decide_true, Nat.reduceLT, Bool.and_self, Bool.and_true, and_self, and_true, List.getElem?_cons_zero, List.getElem?_cons_succ, List.nodup_cons, List.nodup_nil, List.mem_cons, List.not_mem_nil, not_false_eq_true, or_false, List.append_nil, mkO, setO_mk, List.mem_singleton]) (by simp [SV.tr, SV.trL])
        · have hge' : ¬ l.getD k 0 ≥ l.getD (k + 1) 0 := hge
          have hok : chOK n l (k + 1) = true := by simp only [chOK, hq, Bool.true_and, Nat.add_sub_cancel, dec_f (show ¬ k + 1 = 0 by omega), Bool.false_or]; exact dec_t (by omega)
          simp only [h1, hw, hg, hq, hgt, hwp, hg2, hge, hge', h_isQuestion, c_isQuestion, ↓SP, SQ, Gam.add, stepM, callC, argC, lendO, nmBy, nmC, likeL, likeB, plainOb, offs, X, F, trP, trO, stepD, stepW, newA, SV.tr, SV.trL, fz, allP, Ob.tr, loadA, cellsA, SV.cells, binA, binI, eqOut, isSl, isPt, natOf, callee, snap, SV.refsL, SV.refs, thaw, fzAll, loA, hiA, elemOf, partsA, buildA, putCells, ↓reduceIte, reduceCtorEq, okCell, Nat.reduceAdd, Nat.reduceEqDiff, Nat.reduceSub, Nat.reduceMul, Nat.reduceLeDiff, Nat.reduceLT, Nat.reduceBEq, PV.scal, PV.scalL, SV.scal, SV.scalL, Ob.scal, PV.isCell, pure', resO]
          refine hN (k + 1 + 1, _, _, _, _) _ _ ⟨by simp only; omega, hnext hok⟩ (by simp only; omega) rfl rfl
  · have he : i = l.length := by omega
    have h1 : ¬ (i : Int) < l.length := by omega
    have hb := chA_good (n := n) (l := l) fun j hj => hp j (by omega)
    simp only [h1, ↓SP, SQ, Gam.add, stepM, callC, argC, lendO, nmBy, nmC, likeL, likeB, plainOb, offs, X, F, trP, trO, stepD, stepW, newA, SV.tr, SV.trL, fz, allP, Ob.tr, loadA, cellsA, SV.cells, binA, binI, eqOut, isSl, isPt, natOf, callee, snap, SV.refsL, SV.refs, thaw, fzAll, loA, hiA, elemOf, partsA, buildA, putCells, ↓reduceIte, reduceCtorEq, okCell, Nat.reduceAdd, Nat.reduceEqDiff, Nat.reduceSub, Nat.reduceMul, Nat.reduceLeDiff, Nat.reduceLT, Nat.reduceBEq, PV.scal, PV.scalL, SV.scal, SV.scalL, Ob.scal, PV.isCell, pure', resO]
    refine hR _ _ _ (by intro h; cases h) ?_
    simp only [h_in, c_in, ints_len, ↓SP, SQ, Gam.add, stepM, callC, argC, lendO, nmBy, nmC, likeL, likeB, plainOb, offs, X, F, trP, trO, stepD, stepW, newA, SV.tr, SV.trL, fz, allP, Ob.tr, loadA, cellsA, SV.cells, binA, binI, eqOut, isSl, isPt, natOf, callee, snap, SV.refsL, SV.refs, thaw, fzAll, loA, hiA, elemOf, partsA, buildA, putCells, ↓reduceIte, reduceCtorEq, okCell, Nat.reduceAdd, Nat.reduceEqDiff, Nat.reduceSub, Nat.reduceMul, Nat.reduceLeDiff, Nat.reduceLT, Nat.reduceBEq, PV.scal, PV.scalL, SV.scal, SV.scalL, Ob.scal, PV.isCell, pure', resO]
    exact finA_val (by simp [hb, retA, rvA, List.mapM_cons, List.mapM_nil, Option.pure_def, Option.bind_eq_bind, Option.bind_some, Option.map_some, mkE_cons, mk_nil, mkO_cons, mkO_nil, loadA, ↓reduceIte, List.take_succ_cons, List.take_zero, List.drop_zero, List.drop_succ_cons, List.length_cons, List.length_nil, Nat.reduceAdd, Nat.reduceEqDiff, Nat.reduceLeDiff, Nat.zero_add, Nat.le_refl, reduceCtorEq, SV.tr, SV.trL, nmF, rn_nil, rn_cons1, rn_cons2, List.map_cons, List.map_nil, List.all_cons, List.all_nil, plainOb, SV.refsL, SV.refs, Ob.refs, X, F, List.range_succ, List.range_zero, List.nil_append, List.cons_append, List.isEmpty_nil, decide_true, Nat.reduceLT, Bool.and_self, Bool.and_true, and_self, and_true, List.getElem?_cons_zero, List.getElem?_cons_succ, List.nodup_cons, List.nodup_nil, List.mem_cons, List.not_mem_nil, not_false_eq_true, or_false, List.append_nil, mkO, setO_mk, List.mem_singleton]) (by simp [SV.tr, SV.trL])
def a_l11Choice (f_l2Question : FuncId) (f_l1In : FuncId) : AFn := ⟨2, 
  .seq (.reg [⟨some 2, none, .w (.box 2 (.t 0))⟩,
    ⟨some 4, none, .d (.mv (.c (.bool false)))⟩])
  (.seq (.seq (.reg [⟨some 5, none, .d (.mv (.c (.int .i64 0)))⟩])
  (.block 0 (.loop (.seq (.seq (.reg [⟨some 6, none, .d (.mv (.t 5))⟩,
      ⟨some 7, none, .d (.mv (.t 1))⟩,
      ⟨some 8, none, .d (.len (.t 7))⟩,
      ⟨some 9, none, .d (.bin .arith .lss (.t 6) (.t 8))⟩,
      ⟨some 10, none, .d (.mv (.t 9))⟩,
      ⟨some 11, some (10, true), .d (.mv (.t 5))⟩,
      ⟨some 12, some (10, true), .d (.bin .arith .leq (.t 11) (.c (.int .i64 5)))⟩,
      ⟨some 13, none, .d (.pick (.t 10) (.t 12) (.c (.bool false)))⟩])
    (.cond (.t 13) (.skip) (.exit 0)))
    (.seq (.block 1 (.seq (.dreg [] [([], ⟨some 16, none, .d (.load true 2 (.t 2))⟩),
       ([], ⟨some 17, none, .d (.mv (.t 1))⟩),
       ([], ⟨some 18, none, .d (.mv (.t 5))⟩),
       ([], ⟨some 19, none, .d (.ia 1 (.t 17) (.t 18))⟩),
       ([], ⟨some 20, none, .d (.load false 1 (.t 19))⟩),
       ([], ⟨some 21, none, .d (.call (.f f_l2Question) [(.t 16), (.t 20)])⟩),
       ([], ⟨some 22, none, .d (.not (.t 21))⟩),
       ([], ⟨some 23, none, .d (.mv (.t 22))⟩),
       ([], ⟨some 24, some (23, false), .d (.mv (.t 5))⟩),
       ([], ⟨some 25, some (23, false), .d (.bin .arith .gtr (.t 24) (.c (.int .i64 0)))⟩),
       ([], ⟨some 26, some (23, false), .d (.mv (.t 25))⟩),
       ([], ⟨some 27, some (26, true), .d (.mv (.t 1))⟩),
       ([], ⟨some 28, some (26, true), .d (.mv (.t 5))⟩),
       ([], ⟨some 29, some (26, true), .d (.bin .arith .sub (.t 28) (.c (.int .i64 1)))⟩),
       ([], ⟨some 30, some (26, true), .d (.ia 1 (.t 27) (.t 29))⟩),
       ([], ⟨some 31, some (26, true), .d (.load false 1 (.t 30))⟩),
       ([], ⟨some 32, some (26, true), .d (.mv (.t 1))⟩),
       ([], ⟨some 33, some (26, true), .d (.mv (.t 5))⟩),
       ([], ⟨some 34, some (26, true), .d (.ia 1 (.t 32) (.t 33))⟩),
       ([], ⟨some 35, some (26, true), .d (.load false 1 (.t 34))⟩)] [⟨some 36, some (26, true), .d (.bin .arith .geq (.t 31) (.t 35))⟩,
       ⟨some 37, some (23, false), .d (.pick (.t 26) (.t 36) (.c (.bool false)))⟩,
       ⟨some 38, none, .d (.pick (.t 23) (.c (.bool true)) (.t 37))⟩])
     (.cond (.t 38) (.seq (.reg [⟨some 4, none, .d (.mv (.c (.bool false)))⟩])
      (.ret)) (.skip))))
    (.reg [⟨some 14, none, .d (.mv (.t 5))⟩,
      ⟨some 15, none, .d (.bin .arith .add (.t 14) (.c (.int .i64 1)))⟩,
      ⟨some 5, none, .d (.mv (.t 15))⟩]))))))
  (.seq (.reg [⟨some 39, none, .d (.mv (.t 1))⟩,
    ⟨some 40, none, .d (.len (.t 39))⟩,
    ⟨some 41, none, .d (.call (.f f_l1In) [(.t 40), (.c (.int .i64 1)), (.c (.int .i64 5))])⟩,
    ⟨some 4, none, .d (.mv (.t 41))⟩])
  (.ret))), [.tmp 4]⟩
def n_l11Choice : Nat → Option Ann := fun _ => none
abbrev k_l11Choice : List Nat := [0, 1, 2, 4, 5, 13, 38]
abbrev o_l11Choice : List Nat := [2]
def c_l11Choice : Con := pure' fun
  | [.p (.agg [.sl 1 x_, .int .i64 m]), .p (.sl 1 l_)] => if isI x_ = true ∧ isI l_ = true ∧ ((ofI x_).length ≤ 1100000 ∧ (ofI l_).length ≤ 1100000) then some (.p (.bool (chA (ofI x_).length (ofI l_))), []) else none
  | _ => none
theorem s_l11Choice {P : Program} (hm : P.follows .mixedOrders = true) {Γ : Gam} (hΓ : GS P Γ) {n : FuncId} {f_l2Question : FuncId} {f_l1In : FuncId} (is : Is P n (a_l11Choice f_l2Question f_l1In)) (h_l2Question : Γ f_l2Question = c_l2Question) (h_l1In : Γ f_l1In = c_in)  : Says P n c_l11Choice := by
  refine Says.pure fun args r fs h => ?_
  split at h
  case h_2 => cases h
  rename_i x_ m l_
  split at h
  case isFalse => cases h
  rename_i hc
  obtain ⟨hx_, hc⟩ := hc
  obtain ⟨x, rfl⟩ := isI_out hx_
  obtain ⟨hl_, hc⟩ := hc
  obtain ⟨l, rfl⟩ := isI_out hl_
  simp only [ofI_ints, ofBo_bools, ofAs_asks, Option.some.injEq, Prod.mk.injEq] at h hc
  obtain ⟨rfl, rfl⟩ := h
  refine is.go hm hΓ k_l11Choice o_l11Choice (by simp [a_l11Choice]) ?_
  simp only [a_l11Choice, h_l2Question, c_l2Question, h_l1In, c_in, List.zipIdx_cons, List.zipIdx_nil, ↓SP, SQ, Gam.add, stepM, callC, argC, lendO, nmBy, nmC, likeL, likeB, plainOb, offs, X, F, trP, trO, stepD, stepW, newA, SV.tr, SV.trL, fz, allP, Ob.tr, loadA, cellsA, SV.cells, binA, binI, eqOut, isSl, isPt, natOf, callee, snap, SV.refsL, SV.refs, thaw, fzAll, loA, hiA, elemOf, partsA, buildA, putCells, ↓reduceIte, reduceCtorEq, okCell, Nat.reduceAdd, Nat.reduceEqDiff, Nat.reduceSub, Nat.reduceMul, Nat.reduceLeDiff, Nat.reduceLT, Nat.reduceBEq, PV.scal, PV.scalL, SV.scal, SV.scalL, Ob.scal, PV.isCell, pure', resO]
  refine loop_at (fun s : Nat × SV × SV => mkEnv [(0, .p (.agg [.sl 1 (ints x), .int .i64 m])), (1, .p (.sl 1 (ints l))), (2, .bx 2 0), (4, sb false), (5, si s.1), (13, s.2.1), (38, s.2.2)]) (fun s => mkO [(2, some (.box [.p (.sl 1 (ints x)), si m]))]) (fun s => s.1 ≤ l.length ∧ s.1 ≤ 6 ∧ ∀ j, j < s.1 → chOK x.length l j = true) (fun s => l.length - s.1) (0, .junk, .junk) (by simp) rfl rfl ?_
  rintro ⟨i, c1, c2⟩ ⟨hi, hi6, hp⟩ R hR hN
  simp only at hi hi6 hp
  by_cases h : i < l.length
  · have h1 : (i : Int) < l.length := by omega
    by_cases h5 : i ≤ 5
    · have h5' : (i : Int) ≤ 5 := by omega
      have hw := wrap_one (i := i) (by omega)
      have hg := ints_get h
      have hnext : chOK x.length l i = true → ∀ j, j < i + 1 → chOK x.length l j = true := fun hb j hj => by
        by_cases hji : j = i
        · rw [hji]; exact hb
        · exact hp j (by omega)
      cases hq : isQ x.length (l.getD i 0) with
      | false =>
        have hb := chA_bad (n := x.length) h (by simp only [chOK, hq, Bool.false_and])
        simp only [h1, h5', hw, hg, hq, hb, hc, h_l2Question, c_l2Question, ↓SP, SQ, Gam.add, stepM, callC, argC, lendO, nmBy, nmC, likeL, likeB, plainOb, offs, X, F, trP, trO, stepD, stepW, newA, SV.tr, SV.trL, fz, allP, Ob.tr, loadA, cellsA, SV.cells, binA, binI, eqOut, isSl, isPt, natOf, callee, snap, SV.refsL, SV.refs, thaw, fzAll, loA, hiA, elemOf, partsA, buildA, putCells, ↓reduceIte, reduceCtorEq, okCell, Nat.reduceAdd, Nat.reduceEqDiff, Nat.reduceSub, Nat.reduceMul, Nat.reduceLeDiff, Nat.reduceLT, Nat.reduceBEq, PV.scal, PV.scalL, SV.scal, SV.scalL, Ob.scal, PV.isCell, pure', resO]
        refine hR _ _ _ (by intro h; cases h) ?_
        simp only [hb, ↓SP, SQ, Gam.add, stepM, callC, argC, lendO, nmBy, nmC, likeL, likeB, plainOb, offs, X, F, trP, trO, stepD, stepW, newA, SV.tr, SV.trL, fz, allP, Ob.tr, loadA, cellsA, SV.cells, binA, binI, eqOut, isSl, isPt, natOf, callee, snap, SV.refsL, SV.refs, thaw, fzAll, loA, hiA, elemOf, partsA, buildA, putCells, ↓reduceIte, reduceCtorEq, okCell, Nat.reduceAdd, Nat.reduceEqDiff, Nat.reduceSub, Nat.reduceMul, Nat.reduceLeDiff, Nat.reduceLT, Nat.reduceBEq, PV.scal, PV.scalL, SV.scal, SV.scalL, Ob.scal, PV.isCell, pure', resO]
        exact finA_val (by simp [retA, rvA, List.mapM_cons, List.mapM_nil, Option.pure_def, Option.bind_eq_bind, Option.bind_some, Option.map_some, mkE_cons, mk_nil, mkO_cons, mkO_nil, loadA, ↓reduceIte, List.take_succ_cons, List.take_zero, List.drop_zero, List.drop_succ_cons, List.length_cons, List.length_nil, Nat.reduceAdd, Nat.reduceEqDiff, Nat.reduceLeDiff, Nat.zero_add, Nat.le_refl, reduceCtorEq, SV.tr, SV.trL, nmF, rn_nil, rn_cons1, rn_cons2, List.map_cons, List.map_nil, List.all_cons, List.all_nil, plainOb, SV.refsL, SV.refs, Ob.refs, X, F, List.range_succ, List.range_zero, List.nil_append, List.cons_append, List.isEmpty_nil, decide_true, Nat.reduceLT, Bool.and_self, Bool.and_true, and_self, and_true, List.getElem?_cons_zero, List.getElem?_cons_succ, List.nodup_cons, List.nodup_nil, List.mem_cons, List.not_mem_nil, not_false_eq_true, or_false, List.append_nil, mkO, setO_mk, List.mem_singleton]) (by simp [SV.tr, SV.trL])
      | true =>
        cases i with
        | zero =>
          have hok : chOK x.length l 0 = true := by simp only [chOK, hq, Bool.true_and, decide_true, Bool.true_or]
          have h00 : ¬ ((0 : Nat) : Int) > 0 := by omega
          simp only [h1, h5', hw, hg, hq, h00, hc, h_l2Question, c_l2Question, ↓SP, SQ, Gam.add, stepM, callC, argC, lendO, nmBy, nmC, likeL, likeB, plainOb, offs, X, F, trP, trO, stepD, stepW, newA, SV.tr, SV.trL, fz, allP, Ob.tr, loadA, cellsA, SV.cells, binA, binI, eqOut, isSl, isPt, natOf, callee, snap, SV.refsL, SV.refs, thaw, fzAll, loA, hiA, elemOf, partsA, buildA, putCells, ↓reduceIte, reduceCtorEq, okCell, Nat.reduceAdd, Nat.reduceEqDiff, Nat.reduceSub, Nat.reduceMul, Nat.reduceLeDiff, Nat.reduceLT, Nat.reduceBEq, PV.scal, PV.scalL, SV.scal, SV.scalL, Ob.scal, PV.isCell, pure', resO]
          refine hN (0 + 1, _, _) _ _ ⟨by simp only; omega, by simp only; omega, hnext hok⟩ (by simp only; omega) rfl rfl
        | succ k =>
          have hgt : ((k + 1 : Nat) : Int) > 0 := by omega
          have hwp := wrap_pred (k := k) (by omega)
          have hg2 := ints_get (l := l) (i := k) (by omega)
          by_cases hge : l.getD (k + 1) 0 ≤ l.getD k 0
          · have hb := chA_bad (n := x.length) h (by simp only [chOK, hq, Bool.true_and, Nat.add_sub_cancel, dec_f (show ¬ k + 1 = 0 by omega), Bool.false_or]; exact dec_f (by omega))
            have hge' : l.getD k 0 ≥ l.getD (k + 1) 0 := hge
            simp only [h1, h5', hw, hg, hq, hb, hgt, hwp, hg2, hge, hge', hc, h_l2Question, c_l2Question, ↓SP, SQ, Gam.add, stepM, callC, argC, lendO, nmBy, nmC, likeL, likeB, plainOb, offs, X, F, trP, trO, stepD, stepW, newA, SV.tr, SV.trL, fz, allP, Ob.tr, loadA, cellsA, SV.cells, binA, binI, eqOut, isSl, isPt, natOf, callee, snap, SV.refsL, SV.refs, thaw, fzAll, loA, hiA, elemOf, partsA, buildA, putCells, ↓reduceIte, reduceCtorEq, okCell, Nat.reduceAdd, Nat.reduceEqDiff, Nat.reduceSub, Nat.reduceMul, Nat.reduceLeDiff, Nat.reduceLT, Nat.reduceBEq, PV.scal, PV.scalL, SV.scal, SV.scalL, Ob.scal, PV.isCell, pure', resO]
            refine hR _ _ _ (by intro h; cases h) ?_
            simp only [hb, ↓SP, SQ, Gam.add, stepM, callC, argC, lendO, nmBy, nmC, likeL, likeB, plainOb, offs, X, F, trP, trO, stepD, stepW, newA, SV.tr, SV.trL, fz, allP, Ob.tr, loadA, cellsA, SV.cells, binA, binI, eqOut, isSl, isPt, natOf, callee, snap, SV.refsL, SV.refs, thaw, fzAll, loA, hiA, elemOf, partsA, buildA, putCells, ↓reduceIte, reduceCtorEq, okCell, Nat.reduceAdd, Nat.reduceEqDiff, Nat.reduceSub, Nat.reduceMul, Nat.reduceLeDiff, Nat.reduceLT, Nat.reduceBEq, PV.scal, PV.scalL, SV.scal, SV.scalL, Ob.scal, PV.isCell, pure', resO]
            exact finA_val (by simp [retA, rvA, List.mapM_cons, List.mapM_nil, Option.pure_def, Option.bind_eq_bind, Option.bind_some, Option.map_some, mkE_cons, mk_nil, mkO_cons, mkO_nil, loadA, ↓reduceIte, List.take_succ_cons, List.take_zero, List.drop_zero, List.drop_succ_cons, List.length_cons, List.length_nil, Nat.reduceAdd, Nat.reduceEqDiff, Nat.reduceLeDiff, Nat.zero_add, Nat.le_refl, reduceCtorEq, SV.tr, SV.trL, nmF, rn_nil, rn_cons1, rn_cons2, List.map_cons, List.map_nil, List.all_cons, List.all_nil, plainOb, SV.refsL, SV.refs, Ob.refs, X, F, List.range_succ, List.range_zero, List.nil_append, List.cons_append, List.isEmpty_nil, decide_true, Nat.reduceLT, Bool.and_self, Bool.and_true, and_self, and_true, List.getElem?_cons_zero, List.getElem?_cons_succ, List.nodup_cons, List.nodup_nil, List.mem_cons, List.not_mem_nil, not_false_eq_true, or_false, List.append_nil, mkO, setO_mk, List.mem_singleton]) (by simp [SV.tr, SV.trL])
          · have hge' : ¬ l.getD k 0 ≥ l.getD (k + 1) 0 := hge
            have hok : chOK x.length l (k + 1) = true := by simp only [chOK, hq, Bool.true_and, Nat.add_sub_cancel, dec_f (show ¬ k + 1 = 0 by omega), Bool.false_or]; exact dec_t (by omega)
            simp only [h1, h5', hw, hg, hq, hgt, hwp, hg2, hge, hge', hc, h_l2Question, c_l2Question, ↓SP, SQ, Gam.add, stepM, callC, argC, lendO, nmBy, nmC, likeL, likeB, plainOb, offs, X, F, trP, trO, stepD, stepW, newA, SV.tr, SV.trL, fz, allP, Ob.tr, loadA, cellsA, SV.cells, binA, binI, eqOut, isSl, isPt, natOf, callee, snap, SV.refsL, SV.refs, thaw, fzAll, loA, hiA, elemOf, partsA, buildA, putCells, ↓reduceIte, reduceCtorEq, okCell, Nat.reduceAdd, Nat.reduceEqDiff, Nat.reduceSub, Nat.reduceMul, Nat.reduceLeDiff, Nat.reduceLT, Nat.reduceBEq, PV.scal, PV.scalL, SV.scal, SV.scalL, Ob.scal, PV.isCell, pure', resO]
            refine hN (k + 1 + 1, _, _) _ _ ⟨by simp only; omega, by simp only; omega, hnext hok⟩ (by simp only; omega) rfl rfl
    · have h5' : ¬ (i : Int) ≤ 5 := by omega
      have h3 : ¬ (l.length : Int) ≤ 5 := by omega
      have hb : chA x.length l = false := by simp only [chA, dec_f h3, Bool.and_false]
      simp only [h1, h5', ↓SP, SQ, Gam.add, stepM, callC, argC, lendO, nmBy, nmC, likeL, likeB, plainOb, offs, X, F, trP, trO, stepD, stepW, newA, SV.tr, SV.trL, fz, allP, Ob.tr, loadA, cellsA, SV.cells, binA, binI, eqOut, isSl, isPt, natOf, callee, snap, SV.refsL, SV.refs, thaw, fzAll, loA, hiA, elemOf, partsA, buildA, putCells, ↓reduceIte, reduceCtorEq, okCell, Nat.reduceAdd, Nat.reduceEqDiff, Nat.reduceSub, Nat.reduceMul, Nat.reduceLeDiff, Nat.reduceLT, Nat.reduceBEq, PV.scal, PV.scalL, SV.scal, SV.scalL, Ob.scal, PV.isCell, pure', resO]
      refine hR _ _ _ (by intro h; cases h) ?_
      simp only [h_l1In, c_in, ints_len, ↓SP, SQ, Gam.add, stepM, callC, argC, lendO, nmBy, nmC, likeL, likeB, plainOb, offs, X, F, trP, trO, stepD, stepW, newA, SV.tr, SV.trL, fz, allP, Ob.tr, loadA, cellsA, SV.cells, binA, binI, eqOut, isSl, isPt, natOf, callee, snap, SV.refsL, SV.refs, thaw, fzAll, loA, hiA, elemOf, partsA, buildA, putCells, ↓reduceIte, reduceCtorEq, okCell, Nat.reduceAdd, Nat.reduceEqDiff, Nat.reduceSub, Nat.reduceMul, Nat.reduceLeDiff, Nat.reduceLT, Nat.reduceBEq, PV.scal, PV.scalL, SV.scal, SV.scalL, Ob.scal, PV.isCell, pure', resO]
      exact finA_val (by simp [hb, h3, retA, rvA, List.mapM_cons, List.mapM_nil, Option.pure_def, Option.bind_eq_bind, Option.bind_some, Option.map_some, mkE_cons, mk_nil, mkO_cons, mkO_nil, loadA, ↓reduceIte, List.take_succ_cons, List.take_zero, List.drop_zero, List.drop_succ_cons, List.length_cons, List.length_nil, Nat.reduceAdd, Nat.reduceEqDiff, Nat.reduceLeDiff, Nat.zero_add, Nat.le_refl, reduceCtorEq, SV.tr, SV.trL, nmF, rn_nil, rn_cons1, rn_cons2, List.map_cons, List.map_nil, List.all_cons, List.all_nil, plainOb, SV.refsL, SV.refs, Ob.refs, X, F, List.range_succ, List.range_zero, List.nil_append, List.cons_append, List.isEmpty_nil, decide_true, Nat.reduceLT, Bool.and_self, Bool.and_true, and_self, and_true, List.getElem?_cons_zero, List.getElem?_cons_succ, List.nodup_cons, List.nodup_nil, List.mem_cons, List.not_mem_nil, not_false_eq_true, or_false, List.append_nil, mkO, setO_mk, List.mem_singleton]) (by simp [SV.tr, SV.trL])
  · have he : i = l.length := by omega
    have h1 : ¬ (i : Int) < l.length := by omega
    have hb := chA_good (n := x.length) (l := l) fun j hj => hp j (by omega)
    simp only [h1, ↓SP, SQ, Gam.add, stepM, callC, argC, lendO, nmBy, nmC, likeL, likeB, plainOb, offs, X, F, trP, trO, stepD, stepW, newA, SV.tr, SV.trL, fz, allP, Ob.tr, loadA, cellsA, SV.cells, binA, binI, eqOut, isSl, isPt, natOf, callee, snap, SV.refsL, SV.refs, thaw, fzAll, loA, hiA, elemOf, partsA, buildA, putCells, ↓reduceIte, reduceCtorEq, okCell, Nat.reduceAdd, Nat.reduceEqDiff, Nat.reduceSub, Nat.reduceMul, Nat.reduceLeDiff, Nat.reduceLT, Nat.reduceBEq, PV.scal, PV.scalL, SV.scal, SV.scalL, Ob.scal, PV.isCell, pure', resO]
    refine hR _ _ _ (by intro h; cases h) ?_
    simp only [h_l1In, c_in, ints_len, ↓SP, SQ, Gam.add, stepM, callC, argC, lendO, nmBy, nmC, likeL, likeB, plainOb, offs, X, F, trP, trO, stepD, stepW, newA, SV.tr, SV.trL, fz, allP, Ob.tr, loadA, cellsA, SV.cells, binA, binI, eqOut, isSl, isPt, natOf, callee, snap, SV.refsL, SV.refs, thaw, fzAll, loA, hiA, elemOf, partsA, buildA, putCells, ↓reduceIte, reduceCtorEq, okCell, Nat.reduceAdd, Nat.reduceEqDiff, Nat.reduceSub, Nat.reduceMul, Nat.reduceLeDiff, Nat.reduceLT, Nat.reduceBEq, PV.scal, PV.scalL, SV.scal, SV.scalL, Ob.scal, PV.isCell, pure', resO]
    exact finA_val (by simp [hb, retA, rvA, List.mapM_cons, List.mapM_nil, Option.pure_def, Option.bind_eq_bind, Option.bind_some, Option.map_some, mkE_cons, mk_nil, mkO_cons, mkO_nil, loadA, ↓reduceIte, List.take_succ_cons, List.take_zero, List.drop_zero, List.drop_succ_cons, List.length_cons, List.length_nil, Nat.reduceAdd, Nat.reduceEqDiff, Nat.reduceLeDiff, Nat.zero_add, Nat.le_refl, reduceCtorEq, SV.tr, SV.trL, nmF, rn_nil, rn_cons1, rn_cons2, List.map_cons, List.map_nil, List.all_cons, List.all_nil, plainOb, SV.refsL, SV.refs, Ob.refs, X, F, List.range_succ, List.range_zero, List.nil_append, List.cons_append, List.isEmpty_nil, decide_true, Nat.reduceLT, Bool.and_self, Bool.and_true, and_self, and_true, List.getElem?_cons_zero, List.getElem?_cons_succ, List.nodup_cons, List.nodup_nil, List.mem_cons, List.not_mem_nil, not_false_eq_true, or_false, List.append_nil, mkO, setO_mk, List.mem_singleton]) (by simp [SV.tr, SV.trL])
end Go.Proofs.Yticidepkeffkhaa.Pam
