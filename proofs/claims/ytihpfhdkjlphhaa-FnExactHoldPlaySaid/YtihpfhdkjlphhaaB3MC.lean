/- A part of the proof that stands in this folder: a small machine whose steps are shown to be the steps of the model, or walks of functions by it. No condition of its own. -/
import Derived.Test.YtihpfhdkjlphhaaB3LN
set_option linter.unusedVariables false
set_option linter.unusedSimpArgs false
namespace Go.Proofs.Ytihpfhdkjlphhaa.Pam
open Go
theorem sum_step (l : List Int) {i : Nat} (h : i < l.length) : (l.take (i + 1)).sum = (l.take i).sum + l.getD i 0 := by
  rw [take_one l i 0 h, List.sum_append]; simp
/-- All numbers are in 0 .. 8. -/
def in8 (l : List Int) : Bool := l.all fun x => decide (0 ≤ x) && decide (x ≤ 8)
theorem in8_get {l : List Int} (h : in8 l = true) (j : Nat) : 0 ≤ l.getD j 0 ∧ l.getD j 0 ≤ 8 := by
  by_cases hj : j < l.length
  · have := List.all_eq_true.1 h (l.getD j 0) (by rw [getD_lt hj]; exact List.getElem_mem hj)
    simpa using this
  · rw [List.getD_eq_getElem?_getD, List.getElem?_eq_none (by omega)]; simp
theorem sum_bd {l : List Int} (h : in8 l = true) : ∀ i, i ≤ l.length → 0 ≤ (l.take i).sum ∧ (l.take i).sum ≤ 8 * i
  | 0, _ => by simp
  | i + 1, hi => by
    have ⟨h1, h2⟩ := sum_bd h i (by omega)
    have ⟨h3, h4⟩ := in8_get h i
    rw [sum_step l (by omega)]
    omega
/-- Whether a list is one of counts. -/
def okC (l : List Int) : Bool := decide (1 ≤ (l.length : Int)) && decide ((l.length : Int) ≤ 3) && in8 l && decide (l.sum ≤ 8)
theorem okC_out {l : List Int} (h : okC l = true) : (1 ≤ l.length ∧ l.length ≤ 3) ∧ in8 l = true ∧ l.sum ≤ 8 := by
  simp only [okC, Bool.and_eq_true, decide_eq_true_eq] at h
  exact ⟨⟨by omega, by omega⟩, h.1.2, h.2⟩
def c_AreCounts : Con := pure' fun
  | [.p (.sl 1 l_)] => if isI l_ = true ∧ ((ofI l_).length ≤ 1100000) then some (.p (.bool (okC (ofI l_))), []) else none
  | _ => none
def a_l4Counts (f_l1In : FuncId) : AFn := ⟨1, 
  .seq (.reg [⟨some 2, none, .d (.mv (.c (.bool false)))⟩])
  (.seq (.seq (.reg [⟨some 5, none, .d (.mv (.t 0))⟩,
    ⟨some 6, none, .d (.len (.t 5))⟩,
    ⟨some 7, none, .d (.call (.f f_l1In) [(.t 6), (.c (.int .i64 1)), (.c (.int .i64 3))])⟩,
    ⟨some 8, none, .d (.not (.t 7))⟩])
  (.cond (.t 8) (.seq (.reg [⟨some 2, none, .d (.mv (.c (.bool false)))⟩])
   (.ret)) (.skip)))
  (.seq (.reg [⟨some 3, none, .d (.mv (.c (.int .i64 0)))⟩])
  (.seq (.seq (.reg [⟨some 4, none, .d (.mv (.c (.int .i64 0)))⟩])
  (.block 0 (.loop (.seq (.seq (.reg [⟨some 9, none, .d (.mv (.t 4))⟩,
      ⟨some 10, none, .d (.mv (.t 0))⟩,
      ⟨some 11, none, .d (.len (.t 10))⟩,
      ⟨some 12, none, .d (.bin .arith .lss (.t 9) (.t 11))⟩])
    (.cond (.t 12) (.skip) (.exit 0)))
    (.seq (.block 1 (.seq (.seq (.reg [⟨some 15, none, .d (.mv (.t 0))⟩,
       ⟨some 16, none, .d (.mv (.t 4))⟩,
       ⟨some 17, none, .d (.ia 1 (.t 15) (.t 16))⟩,
       ⟨some 18, none, .d (.load false 1 (.t 17))⟩,
       ⟨some 19, none, .d (.call (.f f_l1In) [(.t 18), (.c (.int .i64 0)), (.c (.int .i64 8))])⟩,
       ⟨some 20, none, .d (.not (.t 19))⟩])
     (.cond (.t 20) (.seq (.reg [⟨some 2, none, .d (.mv (.c (.bool false)))⟩])
      (.ret)) (.skip)))
     (.reg [⟨some 21, none, .d (.mv (.t 3))⟩,
       ⟨some 22, none, .d (.mv (.t 0))⟩,
       ⟨some 23, none, .d (.mv (.t 4))⟩,
       ⟨some 24, none, .d (.ia 1 (.t 22) (.t 23))⟩,
       ⟨some 25, none, .d (.load false 1 (.t 24))⟩,
       ⟨some 26, none, .d (.bin .arith .add (.t 21) (.t 25))⟩,
       ⟨some 3, none, .d (.mv (.t 26))⟩])))
    (.reg [⟨some 13, none, .d (.mv (.t 4))⟩,
      ⟨some 14, none, .d (.bin .arith .add (.t 13) (.c (.int .i64 1)))⟩,
      ⟨some 4, none, .d (.mv (.t 14))⟩]))))))
  (.seq (.reg [⟨some 27, none, .d (.mv (.t 3))⟩,
    ⟨some 28, none, .d (.bin .arith .leq (.t 27) (.c (.int .i64 8)))⟩,
    ⟨some 2, none, .d (.mv (.t 28))⟩])
  (.ret))))), [.tmp 2]⟩
def n_l4Counts : Nat → Option Ann := fun _ => none
abbrev k_l4Counts : List Nat := [0, 2, 3, 4, 8, 12, 20]
abbrev o_l4Counts : List Nat := []
theorem s_l4Counts {P : Program} (hm : P.follows .mixedOrders = true) {Γ : Gam} (hΓ : GS P Γ) {n : FuncId} {f_l1In : FuncId} (is : Is P n (a_l4Counts f_l1In)) (h_l1In : Γ f_l1In = c_in)  : Says P n c_AreCounts := by
  refine Says.pure fun args r fs h => ?_
  split at h
  case h_2 => cases h
  rename_i l_
  split at h
  case isFalse => cases h
  rename_i hc
  obtain ⟨hl_, hc⟩ := hc
  obtain ⟨l, rfl⟩ := isI_out hl_
  simp only [ofI_ints, ofBo_bools, ofAs_asks, Option.some.injEq, Prod.mk.injEq] at h hc
  obtain ⟨rfl, rfl⟩ := h
  cases h1 : (decide (1 ≤ (l.length : Int)) && decide ((l.length : Int) ≤ 3)) with
  | false =>
    refine is.go hm hΓ k_l4Counts o_l4Counts (by simp [a_l4Counts]) ?_
    simp only [a_l4Counts, h_l1In, c_in, h1, List.zipIdx_cons, List.zipIdx_nil, ↓SP, SQ, Gam.add, stepM, callC, argC, lendO, nmBy, nmC, likeL, likeB, plainOb, offs, exL, X, F, trP, trO, stepD, stepW, newA, SV.tr, SV.trL, fz, allP, Ob.tr, loadA, cellsA, SV.cells, binA, binI, eqOut, isSl, isPt, natOf, callee, snap, SV.refsL, SV.refs, thaw, fzAll, loA, hiA, elemOf, partsA, buildA, putCells, ↓reduceIte, reduceCtorEq, okCell, Nat.reduceAdd, Nat.reduceEqDiff, Nat.reduceSub, Nat.reduceMul, Nat.reduceLeDiff, Nat.reduceLT, Nat.reduceBEq, PV.scal, PV.scalL, SV.scal, SV.scalL, Ob.scal, PV.isCell, pure', resO]
    exact finA_val (by simp only [okC, h1, Bool.false_and]; simp [retA, rvA, mkE_cons, mk_nil, mkO_cons, mkO_nil, loadA, SV.tr, SV.trL, nmF, rn_nil, rn_cons1, rn_cons2, plainOb, SV.refsL, SV.refs, Ob.refs, X, F, List.range_succ, mkO, setO_mk]) (by simp [SV.tr])
  | true =>
    have hl3 : l.length ≤ 3 := by simp only [Bool.and_eq_true, decide_eq_true_eq] at h1; omega
    refine is.go hm hΓ k_l4Counts o_l4Counts (by simp [a_l4Counts]) ?_
    simp only [a_l4Counts, h_l1In, c_in, h1, List.zipIdx_cons, List.zipIdx_nil, ↓SP, SQ, Gam.add, stepM, callC, argC, lendO, nmBy, nmC, likeL, likeB, plainOb, offs, exL, X, F, trP, trO, stepD, stepW, newA, SV.tr, SV.trL, fz, allP, Ob.tr, loadA, cellsA, SV.cells, binA, binI, eqOut, isSl, isPt, natOf, callee, snap, SV.refsL, SV.refs, thaw, fzAll, loA, hiA, elemOf, partsA, buildA, putCells, ↓reduceIte, reduceCtorEq, okCell, Nat.reduceAdd, Nat.reduceEqDiff, Nat.reduceSub, Nat.reduceMul, Nat.reduceLeDiff, Nat.reduceLT, Nat.reduceBEq, PV.scal, PV.scalL, SV.scal, SV.scalL, Ob.scal, PV.isCell, pure', resO]
    refine loop_at (fun s : Nat × SV × SV => mkEnv [(0, .p (.sl 1 (ints l))), (2, sb false), (3, si (l.take s.1).sum), (4, si s.1), (8, sb false), (12, s.2.1), (20, s.2.2)]) (fun s => mkO []) (fun s => s.1 ≤ l.length ∧ ∀ j, j < s.1 → (decide (0 ≤ l.getD j 0) && decide (l.getD j 0 ≤ 8)) = true) (fun s => l.length - s.1) (0, .junk, .junk) (by simp) rfl rfl ?_
    rintro ⟨i, c1, c2⟩ ⟨hi, hp⟩ R hR hN
    simp only at hi hp
    have hb0 : ∀ k, k ≤ i → 0 ≤ (l.take k).sum ∧ (l.take k).sum ≤ 8 * k := by
      intro k
      induction k with
      | zero => intro _; simp
      | succ k ih =>
        intro hk
        have h5 := ih (by omega)
        have h6 := hp k (by omega)
        simp only [Bool.and_eq_true, decide_eq_true_eq] at h6
        rw [sum_step l (by omega)]
        omega
    by_cases h : i < l.length
    · have h1' : (i : Int) < l.length := by omega
      have hw := wrap_one (i := i) (by omega)
      have hg := ints_get h
      cases hq : (decide (0 ≤ l.getD i 0) && decide (l.getD i 0 ≤ 8)) with
      | true =>
        have hb := hb0 i (Nat.le_refl _)
        have h6 := hq
        simp only [Bool.and_eq_true, decide_eq_true_eq] at h6
        have hws : IntKind.i64.wrap ((l.take i).sum + l.getD i 0) = (l.take (i + 1)).sum := by rw [sum_step l h]; exact wrap64 (by omega) (by omega)
        simp only [h1', hw, hg, hq, hws, h_l1In, c_in, ↓SP, SQ, Gam.add, stepM, callC, argC, lendO, nmBy, nmC, likeL, likeB, plainOb, offs, exL, X, F, trP, trO, stepD, stepW, newA, SV.tr, SV.trL, fz, allP, Ob.tr, loadA, cellsA, SV.cells, binA, binI, eqOut, isSl, isPt, natOf, callee, snap, SV.refsL, SV.refs, thaw, fzAll, loA, hiA, elemOf, partsA, buildA, putCells, ↓reduceIte, reduceCtorEq, okCell, Nat.reduceAdd, Nat.reduceEqDiff, Nat.reduceSub, Nat.reduceMul, Nat.reduceLeDiff, Nat.reduceLT, Nat.reduceBEq, PV.scal, PV.scalL, SV.scal, SV.scalL, Ob.scal, PV.isCell, pure', resO]
        refine hN (i + 1, _, _) _ _ ⟨by simp only; omega, fun j hj => ?_⟩ (by simp only; omega) rfl rfl
        simp only at hj
        by_cases hji : j = i
        · rw [hji]; exact hq
        · exact hp j (by omega)
      | false =>
        simp only [h1', hw, hg, hq, h_l1In, c_in, ↓SP, SQ, Gam.add, stepM, callC, argC, lendO, nmBy, nmC, likeL, likeB, plainOb, offs, exL, X, F, trP, trO, stepD, stepW, newA, SV.tr, SV.trL, fz, allP, Ob.tr, loadA, cellsA, SV.cells, binA, binI, eqOut, isSl, isPt, natOf, callee, snap, SV.refsL, SV.refs, thaw, fzAll, loA, hiA, elemOf, partsA, buildA, putCells, ↓reduceIte, reduceCtorEq, okCell, Nat.reduceAdd, Nat.reduceEqDiff, Nat.reduceSub, Nat.reduceMul, Nat.reduceLeDiff, Nat.reduceLT, Nat.reduceBEq, PV.scal, PV.scalL, SV.scal, SV.scalL, Ob.scal, PV.isCell, pure', resO]
        refine hR _ _ _ (by intro h; cases h) ?_
        simp only [↓SP, SQ, Gam.add, stepM, callC, argC, lendO, nmBy, nmC, likeL, likeB, plainOb, offs, exL, X, F, trP, trO, stepD, stepW, newA, SV.tr, SV.trL, fz, allP, Ob.tr, loadA, cellsA, SV.cells, binA, binI, eqOut, isSl, isPt, natOf, callee, snap, SV.refsL, SV.refs, thaw, fzAll, loA, hiA, elemOf, partsA, buildA, putCells, ↓reduceIte, reduceCtorEq, okCell, Nat.reduceAdd, Nat.reduceEqDiff, Nat.reduceSub, Nat.reduceMul, Nat.reduceLeDiff, Nat.reduceLT, Nat.reduceBEq, PV.scal, PV.scalL, SV.scal, SV.scalL, Ob.scal, PV.isCell, pure', resO]
        have h8 : in8 l = false := by
          rw [Bool.eq_false_iff]; intro e
          have := in8_get e i
          rw [dec_t this.1, dec_t this.2] at hq; cases hq
        exact finA_val (by simp only [okC, h8, Bool.and_false, Bool.false_and]; simp [retA, rvA, mkE_cons, mk_nil, mkO_cons, mkO_nil, loadA, SV.tr, SV.trL, nmF, rn_nil, rn_cons1, rn_cons2, plainOb, SV.refsL, SV.refs, Ob.refs, X, F, List.range_succ, mkO, setO_mk]) (by simp [SV.tr])
    · have he : i = l.length := by omega
      have h1' : ¬ (i : Int) < l.length := by omega
      have h8 : in8 l = true := by
        rw [in8, List.all_eq_true]; intro x hx
        obtain ⟨j, hj, e⟩ := List.getElem_of_mem hx
        have := hp j (by omega)
        rwa [getD_lt hj, e] at this
      simp only [h1', ↓SP, SQ, Gam.add, stepM, callC, argC, lendO, nmBy, nmC, likeL, likeB, plainOb, offs, exL, X, F, trP, trO, stepD, stepW, newA, SV.tr, SV.trL, fz, allP, Ob.tr, loadA, cellsA, SV.cells, binA, binI, eqOut, isSl, isPt, natOf, callee, snap, SV.refsL, SV.refs, thaw, fzAll, loA, hiA, elemOf, partsA, buildA, putCells, ↓reduceIte, reduceCtorEq, okCell, Nat.reduceAdd, Nat.reduceEqDiff, Nat.reduceSub, Nat.reduceMul, Nat.reduceLeDiff, Nat.reduceLT, Nat.reduceBEq, PV.scal, PV.scalL, SV.scal, SV.scalL, Ob.scal, PV.isCell, pure', resO]
      refine hR _ _ _ (by intro h; cases h) ?_
      simp only [↓SP, SQ, Gam.add, stepM, callC, argC, lendO, nmBy, nmC, likeL, likeB, plainOb, offs, exL, X, F, trP, trO, stepD, stepW, newA, SV.tr, SV.trL, fz, allP, Ob.tr, loadA, cellsA, SV.cells, binA, binI, eqOut, isSl, isPt, natOf, callee, snap, SV.refsL, SV.refs, thaw, fzAll, loA, hiA, elemOf, partsA, buildA, putCells, ↓reduceIte, reduceCtorEq, okCell, Nat.reduceAdd, Nat.reduceEqDiff, Nat.reduceSub, Nat.reduceMul, Nat.reduceLeDiff, Nat.reduceLT, Nat.reduceBEq, PV.scal, PV.scalL, SV.scal, SV.scalL, Ob.scal, PV.isCell, pure', resO]
      subst he
      exact finA_val (by simp only [okC, h1, h8, Bool.true_and, List.take_length]; simp [retA, rvA, mkE_cons, mk_nil, mkO_cons, mkO_nil, loadA, SV.tr, SV.trL, nmF, rn_nil, rn_cons1, rn_cons2, plainOb, SV.refsL, SV.refs, Ob.refs, X, F, List.range_succ, mkO, setO_mk]) (by simp [SV.tr])
/-- All numbers are within so much of nothing. -/
def bd (k : Int) (l : List Int) : Bool := l.all fun x => decide (-k ≤ x) && decide (x ≤ k)
theorem bd_get {k : Int} {l : List Int} (h : bd k l = true) (hk : 0 ≤ k) (j : Nat) : -k ≤ l.getD j 0 ∧ l.getD j 0 ≤ k := by
  by_cases hj : j < l.length
  · have := List.all_eq_true.1 h (l.getD j 0) (by rw [getD_lt hj]; exact List.getElem_mem hj)
    simpa using this
  · rw [List.getD_eq_getElem?_getD, List.getElem?_eq_none (by omega)]; simp; omega
theorem bd_of {k : Int} {l : List Int} (h : ∀ j, j < l.length → -k ≤ l.getD j 0 ∧ l.getD j 0 ≤ k) : bd k l = true := by
  rw [bd, List.all_eq_true]; intro x hx
  obtain ⟨j, hj, e⟩ := List.getElem_of_mem hx
  have := h j hj
  rw [getD_lt hj, e] at this
  simp [this]
theorem bd_in8 {l : List Int} (h : in8 l = true) {k : Int} (hk : 8 ≤ k) : bd k l = true := bd_of fun j _ => by have := in8_get h j; omega
/-- What a split leaves. -/
def restL (c s : List Int) : List Int := (List.range s.length).map fun j => c.getD j 0 - s.getD j 0
theorem restL_len (c s : List Int) : (restL c s).length = s.length := by simp [restL]
theorem restL_get {c s : List Int} {j : Nat} (h : j < s.length) : (restL c s).getD j 0 = c.getD j 0 - s.getD j 0 := by simp [restL, h]
theorem restL_one {c s : List Int} {i : Nat} (h : i < s.length) : (restL c s).take i ++ [c.getD i 0 - s.getD i 0] = (restL c s).take (i + 1) := by
  rw [take_one (restL c s) i 0 (by rw [restL_len]; exact h), restL_get h]
theorem restL_bd {c s : List Int} {k k' : Int} (hc : bd k c = true) (hs : bd k s = true) (hk : 0 ≤ k) (h2 : 2 * k ≤ k') : bd k' (restL c s) = true := bd_of fun j hj => by
  rw [restL_len] at hj
  rw [restL_get hj]
  have := bd_get hc hk j
  have := bd_get hs hk j
  omega
def a_left : AFn := ⟨2, 
  .seq (.reg [⟨some 4, none, .d (.mv (.c (.nilsl)))⟩])
  (.seq (.reg [⟨some 8, none, .w (.bslice 1 [] [])⟩,
    ⟨some 5, none, .d (.mv (.t 8))⟩])
  (.seq (.seq (.reg [⟨some 9, none, .d (.mv (.t 1))⟩,
    ⟨some 10, none, .d (.len (.t 9))⟩,
    ⟨some 11, none, .d (.mv (.c (.int .i64 0)))⟩])
  (.block 0 (.loop (.seq (.reg [⟨some 12, none, .d (.bin .arith .lss (.t 11) (.t 10))⟩])
    (.seq (.cond (.t 12) (.skip) (.exit 0))
    (.seq (.block 1 (.seq (.reg [⟨some 13, none, .d (.mv (.t 11))⟩,
       ⟨some 14, none, .d (.ia 1 (.t 9) (.t 11))⟩,
       ⟨some 15, none, .d (.load false 1 (.t 14))⟩,
       ⟨some 6, none, .d (.mv (.t 13))⟩,
       ⟨some 7, none, .d (.mv (.t 15))⟩])
     (.reg [⟨some 16, none, .d (.mv (.t 5))⟩,
       ⟨some 17, none, .d (.mv (.t 0))⟩,
       ⟨some 18, none, .d (.mv (.t 6))⟩,
       ⟨some 19, none, .d (.ia 1 (.t 17) (.t 18))⟩,
       ⟨some 20, none, .d (.load false 1 (.t 19))⟩,
       ⟨some 21, none, .d (.mv (.t 7))⟩,
       ⟨some 22, none, .d (.bin .arith .sub (.t 20) (.t 21))⟩,
       ⟨some 23, none, .w (.bslice 1 [.int .i64 0] [(0, (.t 22))])⟩,
       ⟨some 24, none, .w (.append 1 (.t 16) (.t 23))⟩,
       ⟨some 5, none, .d (.mv (.t 24))⟩])))
    (.reg [⟨some 25, none, .d (.bin .arith .add (.t 11) (.c (.int .i64 1)))⟩,
      ⟨some 11, none, .d (.mv (.t 25))⟩])))))))
  (.seq (.reg [⟨some 26, none, .d (.mv (.t 5))⟩,
    ⟨some 4, none, .d (.mv (.t 26))⟩])
  (.ret)))), [.tmp 4]⟩
def n_left : Nat → Option Ann := fun _ => none
abbrev k_left : List Nat := [0, 1, 4, 5, 6, 7, 9, 10, 11, 12]
abbrev o_left : List Nat := [8, 23, 24]
def a_l4Rest : AFn := ⟨2, 
  .seq (.reg [⟨some 4, none, .d (.mv (.c (.nilsl)))⟩])
  (.seq (.reg [⟨some 7, none, .w (.bslice 1 [] [])⟩,
    ⟨some 5, none, .d (.mv (.t 7))⟩])
  (.seq (.seq (.reg [⟨some 6, none, .d (.mv (.c (.int .i64 0)))⟩])
  (.block 0 (.loop (.seq (.seq (.reg [⟨some 8, none, .d (.mv (.t 6))⟩,
      ⟨some 9, none, .d (.mv (.t 0))⟩,
      ⟨some 10, none, .d (.len (.t 9))⟩,
      ⟨some 11, none, .d (.bin .arith .lss (.t 8) (.t 10))⟩])
    (.cond (.t 11) (.skip) (.exit 0)))
    (.seq (.block 1 (.dreg [24] [([24], ⟨some 14, none, .d (.mv (.t 5))⟩),
       ([24], ⟨some 15, none, .d (.mv (.t 0))⟩),
       ([24], ⟨some 16, none, .d (.mv (.t 6))⟩),
       ([24], ⟨some 17, none, .d (.ia 1 (.t 15) (.t 16))⟩),
       ([24], ⟨some 18, none, .d (.load false 1 (.t 17))⟩),
       ([24], ⟨some 19, none, .d (.mv (.t 1))⟩),
       ([24], ⟨some 20, none, .d (.mv (.t 6))⟩),
       ([24], ⟨some 21, none, .d (.ia 1 (.t 19) (.t 20))⟩),
       ([24], ⟨some 22, none, .d (.load false 1 (.t 21))⟩),
       ([24], ⟨some 23, none, .d (.bin .arith .sub (.t 18) (.t 22))⟩),
       ([], ⟨some 24, none, .w (.bslice 1 [.int .i64 0] [(0, (.t 23))])⟩)] [⟨some 25, none, .w (.append 1 (.t 14) (.t 24))⟩,
       ⟨some 5, none, .d (.mv (.t 25))⟩]))
    (.reg [⟨some 12, none, .d (.mv (.t 6))⟩,
      ⟨some 13, none, .d (.bin .arith .add (.t 12) (.c (.int .i64 1)))⟩,
      ⟨some 6, none, .d (.mv (.t 13))⟩]))))))
  (.seq (.reg [⟨some 26, none, .d (.mv (.t 5))⟩,
    ⟨some 4, none, .d (.mv (.t 26))⟩])
  (.ret)))), [.tmp 4]⟩
def n_l4Rest : Nat → Option Ann := fun _ => none
abbrev k_l4Rest : List Nat := [0, 1, 4, 5, 6, 11]
abbrev o_l4Rest : List Nat := [7, 24, 25]
def c_left : Con := pure' fun
  | [.p (.sl 1 c_), .p (.sl 1 s_)] => if isI c_ = true ∧ isI s_ = true ∧ ((ofI c_).length ≤ 1100000 ∧ (ofI s_).length = (ofI c_).length ∧ bd 10000 (ofI c_) = true ∧ bd 10000 (ofI s_) = true) then some (.ar 2000000, [.arr 1 (ints (restL (ofI c_) (ofI s_)))]) else none
  | _ => none
theorem s_left {P : Program} (hm : P.follows .mixedOrders = true) {Γ : Gam} (hΓ : GS P Γ) {n : FuncId} (is : Is P n a_left)  : Says P n c_left := by
  refine Says.pure fun args r fs h => ?_
  split at h
  case h_2 => cases h
  rename_i c_ s_
  split at h
  case isFalse => cases h
  rename_i hc
  obtain ⟨hc_, hc⟩ := hc
  obtain ⟨c, rfl⟩ := isI_out hc_
  obtain ⟨hs_, hc⟩ := hc
  obtain ⟨s, rfl⟩ := isI_out hs_
  simp only [ofI_ints, ofBo_bools, ofAs_asks, Option.some.injEq, Prod.mk.injEq] at h hc
  obtain ⟨rfl, rfl⟩ := h
  obtain ⟨h0, hl, hbc, hbs⟩ := hc
  refine is.go hm hΓ k_left o_left (by simp [a_left]) ?_
  simp only [a_left, List.zipIdx_cons, List.zipIdx_nil, ↓SP, SQ, Gam.add, stepM, callC, argC, lendO, nmBy, nmC, likeL, likeB, plainOb, offs, exL, X, F, trP, trO, stepD, stepW, newA, SV.tr, SV.trL, fz, allP, Ob.tr, loadA, cellsA, SV.cells, binA, binI, eqOut, isSl, isPt, natOf, callee, snap, SV.refsL, SV.refs, thaw, fzAll, loA, hiA, elemOf, partsA, buildA, putCells, ↓reduceIte, reduceCtorEq, okCell, Nat.reduceAdd, Nat.reduceEqDiff, Nat.reduceSub, Nat.reduceMul, Nat.reduceLeDiff, Nat.reduceLT, Nat.reduceBEq, PV.scal, PV.scalL, SV.scal, SV.scalL, Ob.scal, PV.isCell, pure', resO]
  refine loop_at (fun st : Nat × SV × SV × SV × Option Ob => mkEnv [(0, .p (.sl 1 (ints c))), (1, .p (.sl 1 (ints s))), (4, .p .nilsl), (5, .ar 8), (6, st.2.1), (7, st.2.2.1), (9, .p (.sl 1 (ints s))), (10, si s.length), (11, si st.1), (12, st.2.2.2.1)]) (fun st => mkO [(8, some (.arr 1 (ints ((restL c s).take st.1)))), (23, st.2.2.2.2), (24, none)]) (fun st => st.1 ≤ s.length) (fun st => s.length - st.1) (0, .junk, .junk, .junk, none) (by simp) rfl rfl ?_
  rintro ⟨i, k1, k2, k3, ob⟩ hi R hR hN
  simp only at hi
  by_cases h : i < s.length
  · have h1 : (i : Int) < s.length := by omega
    have hw := wrap_one (i := i) (by omega)
    have hg := ints_get h
    have hg2 := ints_get (l := c) (i := i) (by omega)
    have hb1 := bd_get hbc (by omega) i
    have hb2 := bd_get hbs (by omega) i
    have hws : IntKind.i64.wrap (c.getD i 0 - s.getD i 0) = c.getD i 0 - s.getD i 0 := wrap64 (by omega) (by omega)
    have hr : ((restL c s).take i).length + 1 ≤ roomA := by rw [List.length_take, restL_len]; unfold roomA; omega
    have hro := restL_one (c := c) h
    simp only [h1, hw, hg, hg2, hws, hr, hro, ints_len, ints_app1, ints_cell, ↓SP, SQ, Gam.add, stepM, callC, argC, lendO, nmBy, nmC, likeL, likeB, plainOb, offs, exL, X, F, trP, trO, stepD, stepW, newA, SV.tr, SV.trL, fz, allP, Ob.tr, loadA, cellsA, SV.cells, binA, binI, eqOut, isSl, isPt, natOf, callee, snap, SV.refsL, SV.refs, thaw, fzAll, loA, hiA, elemOf, partsA, buildA, putCells, ↓reduceIte, reduceCtorEq, okCell, Nat.reduceAdd, Nat.reduceEqDiff, Nat.reduceSub, Nat.reduceMul, Nat.reduceLeDiff, Nat.reduceLT, Nat.reduceBEq, PV.scal, PV.scalL, SV.scal, SV.scalL, Ob.scal, PV.isCell, pure', resO]
    exact hN (i + 1, _, _, _, _) _ _ (by simp only; omega) (by simp only; omega) rfl rfl
  · have he : i = s.length := by omega
    have h1 : ¬ (i : Int) < s.length := by omega
    simp only [h1, ↓SP, SQ, Gam.add, stepM, callC, argC, lendO, nmBy, nmC, likeL, likeB, plainOb, offs, exL, X, F, trP, trO, stepD, stepW, newA, SV.tr, SV.trL, fz, allP, Ob.tr, loadA, cellsA, SV.cells, binA, binI, eqOut, isSl, isPt, natOf, callee, snap, SV.refsL, SV.refs, thaw, fzAll, loA, hiA, elemOf, partsA, buildA, putCells, ↓reduceIte, reduceCtorEq, okCell, Nat.reduceAdd, Nat.reduceEqDiff, Nat.reduceSub, Nat.reduceMul, Nat.reduceLeDiff, Nat.reduceLT, Nat.reduceBEq, PV.scal, PV.scalL, SV.scal, SV.scalL, Ob.scal, PV.isCell, pure', resO]
    refine hR _ _ _ (by intro h; cases h) ?_
    simp only [↓SP, SQ, Gam.add, stepM, callC, argC, lendO, nmBy, nmC, likeL, likeB, plainOb, offs, exL, X, F, trP, trO, stepD, stepW, newA, SV.tr, SV.trL, fz, allP, Ob.tr, loadA, cellsA, SV.cells, binA, binI, eqOut, isSl, isPt, natOf, callee, snap, SV.refsL, SV.refs, thaw, fzAll, loA, hiA, elemOf, partsA, buildA, putCells, ↓reduceIte, reduceCtorEq, okCell, Nat.reduceAdd, Nat.reduceEqDiff, Nat.reduceSub, Nat.reduceMul, Nat.reduceLeDiff, Nat.reduceLT, Nat.reduceBEq, PV.scal, PV.scalL, SV.scal, SV.scalL, Ob.scal, PV.isCell, pure', resO]
    have ht : (restL c s).take i = restL c s := by rw [he, ← restL_len c s]; exact List.take_length
    refine finA_gen [8] trivial (by simp [retA, rvA, mkE_cons, mk_nil, mkO_cons, mkO_nil, loadA, SV.tr, SV.trL, nmF, rn_nil, rn_cons1, rn_cons2, plainOb, SV.refsL, SV.refs, Ob.refs, X, F, List.range_succ, mkO, setO_mk]; rfl) ?_ ?_ ?_ ?_ ?_ ?_ ?_ <;> simp [ht, retA, rvA, mkE_cons, mk_nil, mkO_cons, mkO_nil, loadA, SV.tr, SV.trL, nmF, rn_nil, rn_cons1, rn_cons2, plainOb, SV.refsL, SV.refs, Ob.refs, X, F, List.range_succ, mkO, setO_mk]
theorem s_l4Rest {P : Program} (hm : P.follows .mixedOrders = true) {Γ : Gam} (hΓ : GS P Γ) {n : FuncId} (is : Is P n a_l4Rest)  : Says P n c_left := by
  refine Says.pure fun args r fs h => ?_
  split at h
  case h_2 => cases h
  rename_i c_ s_
  split at h
  case isFalse => cases h
  rename_i hc
  obtain ⟨hc_, hc⟩ := hc
  obtain ⟨c, rfl⟩ := isI_out hc_
  obtain ⟨hs_, hc⟩ := hc
  obtain ⟨s, rfl⟩ := isI_out hs_
  simp only [ofI_ints, ofBo_bools, ofAs_asks, Option.some.injEq, Prod.mk.injEq] at h hc
  obtain ⟨rfl, rfl⟩ := h
  obtain ⟨h0, hl, hbc, hbs⟩ := hc
  refine is.go hm hΓ k_l4Rest o_l4Rest (by simp [a_l4Rest]) ?_
  simp only [a_l4Rest, List.zipIdx_cons, List.zipIdx_nil, ↓SP, SQ, Gam.add, stepM, callC, argC, lendO, nmBy, nmC, likeL, likeB, plainOb, offs, exL, X, F, trP, trO, stepD, stepW, newA, SV.tr, SV.trL, fz, allP, Ob.tr, loadA, cellsA, SV.cells, binA, binI, eqOut, isSl, isPt, natOf, callee, snap, SV.refsL, SV.refs, thaw, fzAll, loA, hiA, elemOf, partsA, buildA, putCells, ↓reduceIte, reduceCtorEq, okCell, Nat.reduceAdd, Nat.reduceEqDiff, Nat.reduceSub, Nat.reduceMul, Nat.reduceLeDiff, Nat.reduceLT, Nat.reduceBEq, PV.scal, PV.scalL, SV.scal, SV.scalL, Ob.scal, PV.isCell, pure', resO]
  refine loop_at (fun st : Nat × SV × Option Ob => mkEnv [(0, .p (.sl 1 (ints c))), (1, .p (.sl 1 (ints s))), (4, .p .nilsl), (5, .ar 7), (6, si st.1), (11, st.2.1)]) (fun st => mkO [(7, some (.arr 1 (ints ((restL c s).take st.1)))), (24, st.2.2), (25, none)]) (fun st => st.1 ≤ s.length) (fun st => s.length - st.1) (0, .junk, none) (by simp) rfl rfl ?_
  rintro ⟨i, k1, ob⟩ hi R hR hN
  simp only at hi
  by_cases h : i < s.length
  · have h1 : (i : Int) < c.length := by omega
    have hw := wrap_one (i := i) (by omega)
    have hg := ints_get h
    have hg2 := ints_get (l := c) (i := i) (by omega)
    have hb1 := bd_get hbc (by omega) i
    have hb2 := bd_get hbs (by omega) i
    have hws : IntKind.i64.wrap (c.getD i 0 - s.getD i 0) = c.getD i 0 - s.getD i 0 := wrap64 (by omega) (by omega)
    have hr : ((restL c s).take i).length + 1 ≤ roomA := by rw [List.length_take, restL_len]; unfold roomA; omega
    have hro := restL_one (c := c) h
    simp only [h1, hw, hg, hg2, hws, hr, hro, ints_len, ints_app1, ints_cell, ↓SP, SQ, Gam.add, stepM, callC, argC, lendO, nmBy, nmC, likeL, likeB, plainOb, offs, exL, X, F, trP, trO, stepD, stepW, newA, SV.tr, SV.trL, fz, allP, Ob.tr, loadA, cellsA, SV.cells, binA, binI, eqOut, isSl, isPt, natOf, callee, snap, SV.refsL, SV.refs, thaw, fzAll, loA, hiA, elemOf, partsA, buildA, putCells, ↓reduceIte, reduceCtorEq, okCell, Nat.reduceAdd, Nat.reduceEqDiff, Nat.reduceSub, Nat.reduceMul, Nat.reduceLeDiff, Nat.reduceLT, Nat.reduceBEq, PV.scal, PV.scalL, SV.scal, SV.scalL, Ob.scal, PV.isCell, pure', resO]
    exact hN (i + 1, _, _) _ _ (by simp only; omega) (by simp only; omega) rfl rfl
  · have he : i = s.length := by omega
    have h1 : ¬ (i : Int) < c.length := by omega
    simp only [h1, ↓SP, SQ, Gam.add, stepM, callC, argC, lendO, nmBy, nmC, likeL, likeB, plainOb, offs, exL, X, F, trP, trO, stepD, stepW, newA, SV.tr, SV.trL, fz, allP, Ob.tr, loadA, cellsA, SV.cells, binA, binI, eqOut, isSl, isPt, natOf, callee, snap, SV.refsL, SV.refs, thaw, fzAll, loA, hiA, elemOf, partsA, buildA, putCells, ↓reduceIte, reduceCtorEq, okCell, Nat.reduceAdd, Nat.reduceEqDiff, Nat.reduceSub, Nat.reduceMul, Nat.reduceLeDiff, Nat.reduceLT, Nat.reduceBEq, PV.scal, PV.scalL, SV.scal, SV.scalL, Ob.scal, PV.isCell, pure', resO]
    refine hR _ _ _ (by intro h; cases h) ?_
    simp only [↓SP, SQ, Gam.add, stepM, callC, argC, lendO, nmBy, nmC, likeL, likeB, plainOb, offs, exL, X, F, trP, trO, stepD, stepW, newA, SV.tr, SV.trL, fz, allP, Ob.tr, loadA, cellsA, SV.cells, binA, binI, eqOut, isSl, isPt, natOf, callee, snap, SV.refsL, SV.refs, thaw, fzAll, loA, hiA, elemOf, partsA, buildA, putCells, ↓reduceIte, reduceCtorEq, okCell, Nat.reduceAdd, Nat.reduceEqDiff, Nat.reduceSub, Nat.reduceMul, Nat.reduceLeDiff, Nat.reduceLT, Nat.reduceBEq, PV.scal, PV.scalL, SV.scal, SV.scalL, Ob.scal, PV.isCell, pure', resO]
    have ht : (restL c s).take i = restL c s := by rw [he, ← restL_len c s]; exact List.take_length
    refine finA_gen [7] trivial (by simp [retA, rvA, mkE_cons, mk_nil, mkO_cons, mkO_nil, loadA, SV.tr, SV.trL, nmF, rn_nil, rn_cons1, rn_cons2, plainOb, SV.refsL, SV.refs, Ob.refs, X, F, List.range_succ, mkO, setO_mk]; rfl) ?_ ?_ ?_ ?_ ?_ ?_ ?_ <;> simp [ht, retA, rvA, mkE_cons, mk_nil, mkO_cons, mkO_nil, loadA, SV.tr, SV.trL, nmF, rn_nil, rn_cons1, rn_cons2, plainOb, SV.refsL, SV.refs, Ob.refs, X, F, List.range_succ, mkO, setO_mk]
/-- Numbers, and behind them others, each one place further. -/
def movF (a b : List Int) (j : Nat) : Int := if j = 0 then a.getD 0 0 else a.getD j 0 + b.getD (j - 1) 0
def movL (a b : List Int) : List Int := (List.range a.length).map (movF a b)
theorem movL_len (a b : List Int) : (movL a b).length = a.length := by simp [movL]
theorem fill_1 (a b : List Int) (h : 1 ≤ a.length) : fillL (movF a b) a 1 = a := by
  cases a with
  | nil => simp at h
  | cons x r => simp [fillL, movF]
def a_moved (f_Clone : FuncId) : AFn := ⟨2, 
  .seq (.reg [⟨some 4, none, .d (.mv (.c (.nilsl)))⟩])
  (.seq (.reg [⟨some 7, none, .d (.mv (.t 0))⟩,
    ⟨some 8, none, .w (.callL (.f f_Clone) [(.t 7)] [] 1 false)⟩,
    ⟨some 5, none, .d (.mv (.t 8))⟩])
  (.seq (.seq (.reg [⟨some 6, none, .d (.mv (.c (.int .i64 1)))⟩])
  (.block 0 (.loop (.seq (.seq (.reg [⟨some 9, none, .d (.mv (.t 6))⟩,
      ⟨some 10, none, .d (.mv (.t 5))⟩,
      ⟨some 11, none, .d (.len (.t 10))⟩,
      ⟨some 12, none, .d (.bin .arith .lss (.t 9) (.t 11))⟩])
    (.cond (.t 12) (.skip) (.exit 0)))
    (.seq (.block 1 (.dreg [] [([], ⟨some 15, none, .d (.mv (.t 5))⟩),
       ([], ⟨some 16, none, .d (.mv (.t 6))⟩),
       ([], ⟨some 17, none, .d (.ia 1 (.t 15) (.t 16))⟩),
       ([], ⟨some 18, none, .d (.load false 1 (.t 17))⟩),
       ([], ⟨some 19, none, .d (.mv (.t 1))⟩),
       ([], ⟨some 20, none, .d (.mv (.t 6))⟩),
       ([], ⟨some 21, none, .d (.bin .arith .sub (.t 20) (.c (.int .i64 1)))⟩),
       ([], ⟨some 22, none, .d (.ia 1 (.t 19) (.t 21))⟩),
       ([], ⟨some 23, none, .d (.load false 1 (.t 22))⟩)] [⟨some 24, none, .d (.bin .arith .add (.t 18) (.t 23))⟩,
       ⟨some 25, none, .d (.ia 1 (.t 15) (.t 16))⟩,
       ⟨none, none, .w (.store 1 (.t 25) (.t 24))⟩]))
    (.reg [⟨some 13, none, .d (.mv (.t 6))⟩,
      ⟨some 14, none, .d (.bin .arith .add (.t 13) (.c (.int .i64 1)))⟩,
      ⟨some 6, none, .d (.mv (.t 14))⟩]))))))
  (.seq (.reg [⟨some 26, none, .d (.mv (.t 5))⟩,
    ⟨some 4, none, .d (.mv (.t 26))⟩])
  (.ret)))), [.tmp 4]⟩
def n_moved : Nat → Option Ann := fun d => if d = 8 then some ⟨[], 1, false⟩ else none
abbrev k_moved : List Nat := [0, 1, 4, 5, 6, 12]
abbrev o_moved : List Nat := [8]
def c_moved : Con := pure' fun
  | [.p (.sl 1 a_), .p (.sl 1 b_)] => if isI a_ = true ∧ isI b_ = true ∧ ((ofI a_).length ≤ 1100000 ∧ 1 ≤ (ofI a_).length ∧ (ofI b_).length = (ofI a_).length ∧ bd 100000 (ofI a_) = true ∧ bd 100000 (ofI b_) = true) then some (.ar 2000000, [.arr 1 (ints (movL (ofI a_) (ofI b_)))]) else none
  | _ => none
theorem s_moved {P : Program} (hm : P.follows .mixedOrders = true) {Γ : Gam} (hΓ : GS P Γ) {n : FuncId} {f_Clone : FuncId} (is : Is P n (a_moved f_Clone)) (h_Clone : Γ f_Clone = c_Clone)  : Says P n c_moved := by
  refine Says.pure fun args r fs h => ?_
  split at h
  case h_2 => cases h
  rename_i a_ b_
  split at h
  case isFalse => cases h
  rename_i hc
  obtain ⟨ha_, hc⟩ := hc
  obtain ⟨a, rfl⟩ := isI_out ha_
  obtain ⟨hb_, hc⟩ := hc
  obtain ⟨b, rfl⟩ := isI_out hb_
  simp only [ofI_ints, ofBo_bools, ofAs_asks, Option.some.injEq, Prod.mk.injEq] at h hc
  obtain ⟨rfl, rfl⟩ := h
  obtain ⟨h0, h1l, hl, hba, hbb⟩ := hc
  refine is.go hm hΓ k_moved o_moved (by simp [a_moved]) ?_
  simp only [a_moved, h_Clone, c_Clone, h0, List.zipIdx_cons, List.zipIdx_nil, ↓SP, SQ, Gam.add, stepM, callC, argC, lendO, nmBy, nmC, likeL, likeB, plainOb, offs, exL, X, F, trP, trO, stepD, stepW, newA, SV.tr, SV.trL, fz, allP, Ob.tr, loadA, cellsA, SV.cells, binA, binI, eqOut, isSl, isPt, natOf, callee, snap, SV.refsL, SV.refs, thaw, fzAll, loA, hiA, elemOf, partsA, buildA, putCells, ↓reduceIte, reduceCtorEq, okCell, Nat.reduceAdd, Nat.reduceEqDiff, Nat.reduceSub, Nat.reduceMul, Nat.reduceLeDiff, Nat.reduceLT, Nat.reduceBEq, PV.scal, PV.scalL, SV.scal, SV.scalL, Ob.scal, PV.isCell, pure', resO]
  refine loop_at (fun st : Nat × SV => mkEnv [(0, .p (.sl 1 (ints a))), (1, .p (.sl 1 (ints b))), (4, .p .nilsl), (5, .ar 8), (6, si st.1), (12, st.2)]) (fun st => mkO [(8, some (.arr 1 (ints (fillL (movF a b) a st.1))))]) (fun st => 1 ≤ st.1 ∧ st.1 ≤ a.length) (fun st => a.length - st.1) (1, .junk) (by simp only; omega) rfl (by simp only [fill_1 a b h1l]) ?_
  rintro ⟨i, k1⟩ ⟨hi1, hi⟩ R hR hN
  simp only at hi1 hi
  have hfl := fill_len (movF a b) a hi
  by_cases h : i < a.length
  · have h1 : (i : Int) < a.length := by omega
    have hw := wrap_one (i := i) (by omega)
    have hw2 : IntKind.i64.wrap ((i : Int) - 1) = ((i - 1 : Nat) : Int) := by rw [wrap64 (by omega) (by omega)]; omega
    have hg : (ints (fillL (movF a b) a i))[i]? = some (.int .i64 (a.getD i 0)) := by rw [ints_get (by omega), fill_get _ _ _ h]
    have hg2 := ints_get (l := b) (i := i - 1) (by omega)
    have hb1 := bd_get hba (by omega) i
    have hb2 := bd_get hbb (by omega) (i - 1)
    have hws : IntKind.i64.wrap (a.getD i 0 + b.getD (i - 1) 0) = a.getD i 0 + b.getD (i - 1) 0 := wrap64 (by omega) (by omega)
    have hs : (fillL (movF a b) a i).set i (a.getD i 0 + b.getD (i - 1) 0) = fillL (movF a b) a (i + 1) := fill_set _ _ h (by simp only [movF]; rw [if_neg (by omega)])
    simp only [h, h1, hw, hw2, hg, hg2, hws, hfl, ints_set, hs, ↓SP, SQ, Gam.add, stepM, callC, argC, lendO, nmBy, nmC, likeL, likeB, plainOb, offs, exL, X, F, trP, trO, stepD, stepW, newA, SV.tr, SV.trL, fz, allP, Ob.tr, loadA, cellsA, SV.cells, binA, binI, eqOut, isSl, isPt, natOf, callee, snap, SV.refsL, SV.refs, thaw, fzAll, loA, hiA, elemOf, partsA, buildA, putCells, ↓reduceIte, reduceCtorEq, okCell, Nat.reduceAdd, Nat.reduceEqDiff, Nat.reduceSub, Nat.reduceMul, Nat.reduceLeDiff, Nat.reduceLT, Nat.reduceBEq, PV.scal, PV.scalL, SV.scal, SV.scalL, Ob.scal, PV.isCell, pure', resO]
    exact hN (i + 1, _) _ _ (by simp only; omega) (by simp only; omega) rfl rfl
  · have he : i = a.length := by omega
    have h1 : ¬ (i : Int) < a.length := by omega
    simp only [h1, hfl, ↓SP, SQ, Gam.add, stepM, callC, argC, lendO, nmBy, nmC, likeL, likeB, plainOb, offs, exL, X, F, trP, trO, stepD, stepW, newA, SV.tr, SV.trL, fz, allP, Ob.tr, loadA, cellsA, SV.cells, binA, binI, eqOut, isSl, isPt, natOf, callee, snap, SV.refsL, SV.refs, thaw, fzAll, loA, hiA, elemOf, partsA, buildA, putCells, ↓reduceIte, reduceCtorEq, okCell, Nat.reduceAdd, Nat.reduceEqDiff, Nat.reduceSub, Nat.reduceMul, Nat.reduceLeDiff, Nat.reduceLT, Nat.reduceBEq, PV.scal, PV.scalL, SV.scal, SV.scalL, Ob.scal, PV.isCell, pure', resO]
    refine hR _ _ _ (by intro h; cases h) ?_
    simp only [↓SP, SQ, Gam.add, stepM, callC, argC, lendO, nmBy, nmC, likeL, likeB, plainOb, offs, exL, X, F, trP, trO, stepD, stepW, newA, SV.tr, SV.trL, fz, allP, Ob.tr, loadA, cellsA, SV.cells, binA, binI, eqOut, isSl, isPt, natOf, callee, snap, SV.refsL, SV.refs, thaw, fzAll, loA, hiA, elemOf, partsA, buildA, putCells, ↓reduceIte, reduceCtorEq, okCell, Nat.reduceAdd, Nat.reduceEqDiff, Nat.reduceSub, Nat.reduceMul, Nat.reduceLeDiff, Nat.reduceLT, Nat.reduceBEq, PV.scal, PV.scalL, SV.scal, SV.scalL, Ob.scal, PV.isCell, pure', resO]
    subst he
    have hfe : fillL (movF a b) a a.length = movL a b := fill_end _ _
    refine finA_gen [8] trivial (by simp [retA, rvA, mkE_cons, mk_nil, mkO_cons, mkO_nil, loadA, SV.tr, SV.trL, nmF, rn_nil, rn_cons1, rn_cons2, plainOb, SV.refsL, SV.refs, Ob.refs, X, F, List.range_succ, mkO, setO_mk]; rfl) ?_ ?_ ?_ ?_ ?_ ?_ ?_ <;> simp [hfe, retA, rvA, mkE_cons, mk_nil, mkO_cons, mkO_nil, loadA, SV.tr, SV.trL, nmF, rn_nil, rn_cons1, rn_cons2, plainOb, SV.refsL, SV.refs, Ob.refs, X, F, List.range_succ, mkO, setO_mk]
/-- The counts to which yes and no lead. -/
def yesL (c s : List Int) : List Int := movL s (restL c s)
def noL (c s : List Int) : List Int := movL (restL c s) s
theorem restL_rest {c s : List Int} (h : s.length = c.length) : restL c (restL c s) = s := by
  apply List.ext_getElem
  · simp [restL]
  · intro j h1 h2
    have hj : j < s.length := h2
    have e1 : (restL c (restL c s)).getD j 0 = s.getD j 0 := by rw [restL_get (by rw [restL_len]; exact hj), restL_get hj]; omega
    rw [getD_lt h1, getD_lt h2] at e1
    exact e1
theorem yesL_len (c s : List Int) : (yesL c s).length = s.length := movL_len _ _
theorem noL_len (c s : List Int) : (noL c s).length = s.length := by rw [noL, movL_len, restL_len]
def a_l4Yes (f_l4Rest : FuncId) (f_l1Own : FuncId) : AFn := ⟨2, 
  .seq (.reg [⟨some 4, none, .d (.mv (.c (.nilsl)))⟩])
  (.seq (.reg [⟨some 8, none, .d (.mv (.t 0))⟩,
    ⟨some 9, none, .d (.mv (.t 1))⟩,
    ⟨some 10, none, .d (.call (.f f_l4Rest) [(.t 8), (.t 9)])⟩,
    ⟨some 11, none, .d (.mv (.t 1))⟩,
    ⟨some 12, none, .w (.callL (.f f_l1Own) [(.t 11)] [] 1 false)⟩,
    ⟨some 5, none, .d (.mv (.t 10))⟩,
    ⟨some 6, none, .d (.mv (.t 12))⟩])
  (.seq (.seq (.reg [⟨some 7, none, .d (.mv (.c (.int .i64 1)))⟩])
  (.block 0 (.loop (.seq (.seq (.reg [⟨some 13, none, .d (.mv (.t 7))⟩,
      ⟨some 14, none, .d (.mv (.t 6))⟩,
      ⟨some 15, none, .d (.len (.t 14))⟩,
      ⟨some 16, none, .d (.bin .arith .lss (.t 13) (.t 15))⟩])
    (.cond (.t 16) (.skip) (.exit 0)))
    (.seq (.block 1 (.dreg [] [([], ⟨some 19, none, .d (.mv (.t 6))⟩),
       ([], ⟨some 20, none, .d (.mv (.t 7))⟩),
       ([], ⟨some 21, none, .d (.mv (.t 6))⟩),
       ([], ⟨some 22, none, .d (.mv (.t 7))⟩),
       ([], ⟨some 23, none, .d (.ia 1 (.t 21) (.t 22))⟩),
       ([], ⟨some 24, none, .d (.load false 1 (.t 23))⟩),
       ([], ⟨some 25, none, .d (.mv (.t 5))⟩),
       ([], ⟨some 26, none, .d (.mv (.t 7))⟩),
       ([], ⟨some 27, none, .d (.bin .arith .sub (.t 26) (.c (.int .i64 1)))⟩),
       ([], ⟨some 28, none, .d (.ia 1 (.t 25) (.t 27))⟩),
       ([], ⟨some 29, none, .d (.load false 1 (.t 28))⟩),
       ([], ⟨some 30, none, .d (.bin .arith .add (.t 24) (.t 29))⟩)] [⟨some 31, none, .d (.ia 1 (.t 19) (.t 20))⟩,
       ⟨none, none, .w (.store 1 (.t 31) (.t 30))⟩]))
    (.reg [⟨some 17, none, .d (.mv (.t 7))⟩,
      ⟨some 18, none, .d (.bin .arith .add (.t 17) (.c (.int .i64 1)))⟩,
      ⟨some 7, none, .d (.mv (.t 18))⟩]))))))
  (.seq (.reg [⟨some 32, none, .d (.mv (.t 6))⟩,
    ⟨some 4, none, .d (.mv (.t 32))⟩])
  (.ret)))), [.tmp 4]⟩
def n_l4Yes : Nat → Option Ann := fun d => if d = 12 then some ⟨[], 1, false⟩ else none
abbrev k_l4Yes : List Nat := [0, 1, 4, 5, 6, 7, 16]
abbrev o_l4Yes : List Nat := [12]
def c_l4Yes : Con := pure' fun
  | [.p (.sl 1 c_), .p (.sl 1 s_)] => if isI c_ = true ∧ isI s_ = true ∧ ((ofI c_).length ≤ 1100000 ∧ 1 ≤ (ofI c_).length ∧ (ofI s_).length = (ofI c_).length ∧ bd 10000 (ofI c_) = true ∧ bd 10000 (ofI s_) = true) then some (.ar 2000000, [.arr 1 (ints (yesL (ofI c_) (ofI s_)))]) else none
  | _ => none
theorem bd_mono {k k' : Int} {l : List Int} (h : bd k l = true) (h0 : 0 ≤ k) (hk : k ≤ k') : bd k' l = true := bd_of fun j _ => by have := bd_get h h0 j; omega
theorem s_l4Yes {P : Program} (hm : P.follows .mixedOrders = true) {Γ : Gam} (hΓ : GS P Γ) {n : FuncId} {f_l4Rest : FuncId} {f_l1Own : FuncId} (is : Is P n (a_l4Yes f_l4Rest f_l1Own)) (h_l4Rest : Γ f_l4Rest = c_left) (h_l1Own : Γ f_l1Own = c_Clone)  : Says P n c_l4Yes := by
  refine Says.pure fun args r fs h => ?_
  split at h
  case h_2 => cases h
  rename_i c_ s_
  split at h
  case isFalse => cases h
  rename_i hc
  obtain ⟨hc_, hc⟩ := hc
  obtain ⟨c, rfl⟩ := isI_out hc_
  obtain ⟨hs_, hc⟩ := hc
  obtain ⟨s, rfl⟩ := isI_out hs_
  simp only [ofI_ints, ofBo_bools, ofAs_asks, Option.some.injEq, Prod.mk.injEq] at h hc
  obtain ⟨rfl, rfl⟩ := h
  obtain ⟨h0, h1l, hl, hbc, hbs⟩ := hc
  have h0s : s.length ≤ 1100000 := by omega
  have hbr := restL_bd (k' := 100000) hbc hbs (by omega) (by omega)
  have hrl := restL_len c s
  refine is.go hm hΓ k_l4Yes o_l4Yes (by simp [a_l4Yes]) ?_
  simp only [a_l4Yes, h_l4Rest, c_left, h_l1Own, c_Clone, h0, h0s, hl, hbc, hbs, hrl, List.zipIdx_cons, List.zipIdx_nil, ↓SP, SQ, Gam.add, stepM, callC, argC, lendO, nmBy, nmC, likeL, likeB, plainOb, offs, exL, X, F, trP, trO, stepD, stepW, newA, SV.tr, SV.trL, fz, allP, Ob.tr, loadA, cellsA, SV.cells, binA, binI, eqOut, isSl, isPt, natOf, callee, snap, SV.refsL, SV.refs, thaw, fzAll, loA, hiA, elemOf, partsA, buildA, putCells, ↓reduceIte, reduceCtorEq, okCell, Nat.reduceAdd, Nat.reduceEqDiff, Nat.reduceSub, Nat.reduceMul, Nat.reduceLeDiff, Nat.reduceLT, Nat.reduceBEq, PV.scal, PV.scalL, SV.scal, SV.scalL, Ob.scal, PV.isCell, pure', resO]
  refine loop_at (fun st : Nat × SV => mkEnv [(0, .p (.sl 1 (ints c))), (1, .p (.sl 1 (ints s))), (4, .p .nilsl), (5, .p (.sl 1 (ints (restL c s)))), (6, .ar 12), (7, si st.1), (16, st.2)]) (fun st => mkO [(12, some (.arr 1 (ints (fillL (movF s (restL c s)) s st.1))))]) (fun st => 1 ≤ st.1 ∧ st.1 ≤ s.length) (fun st => s.length - st.1) (1, .junk) (by simp only; omega) (by simp) (by simp only [fill_1 s _ (by omega : 1 ≤ s.length)]) ?_
  rintro ⟨i, k1⟩ ⟨hi1, hi⟩ R hR hN
  simp only at hi1 hi
  have hfl := fill_len (movF s (restL c s)) s hi
  by_cases h : i < s.length
  · have h1 : (i : Int) < s.length := by omega
    have hw := wrap_one (i := i) (by omega)
    have hw2 : IntKind.i64.wrap ((i : Int) - 1) = ((i - 1 : Nat) : Int) := by rw [wrap64 (by omega) (by omega)]; omega
    have hg : (ints (fillL (movF s (restL c s)) s i))[i]? = some (.int .i64 (s.getD i 0)) := by rw [ints_get (by omega), fill_get _ _ _ h]
    have hg2 := ints_get (l := restL c s) (i := i - 1) (by omega)
    have hb1 := bd_get hbs (by omega) i
    have hb2 := bd_get hbr (by omega) (i - 1)
    have hws : IntKind.i64.wrap (s.getD i 0 + (restL c s).getD (i - 1) 0) = s.getD i 0 + (restL c s).getD (i - 1) 0 := wrap64 (by omega) (by omega)
    have hs : (fillL (movF s (restL c s)) s i).set i (s.getD i 0 + (restL c s).getD (i - 1) 0) = fillL (movF s (restL c s)) s (i + 1) := fill_set _ _ h (by simp only [movF]; rw [if_neg (by omega)])
    simp only [h, h1, hw, hw2, hg, hg2, hws, hfl, ints_set, hs, ↓SP, SQ, Gam.add, stepM, callC, argC, lendO, nmBy, nmC, likeL, likeB, plainOb, offs, exL, X, F, trP, trO, stepD, stepW, newA, SV.tr, SV.trL, fz, allP, Ob.tr, loadA, cellsA, SV.cells, binA, binI, eqOut, isSl, isPt, natOf, callee, snap, SV.refsL, SV.refs, thaw, fzAll, loA, hiA, elemOf, partsA, buildA, putCells, ↓reduceIte, reduceCtorEq, okCell, Nat.reduceAdd, Nat.reduceEqDiff, Nat.reduceSub, Nat.reduceMul, Nat.reduceLeDiff, Nat.reduceLT, Nat.reduceBEq, PV.scal, PV.scalL, SV.scal, SV.scalL, Ob.scal, PV.isCell, pure', resO]
    exact hN (i + 1, _) _ _ (by simp only; omega) (by simp only; omega) rfl rfl
  · have he : i = s.length := by omega
    have h1 : ¬ (i : Int) < s.length := by omega
    simp only [h1, hfl, ↓SP, SQ, Gam.add, stepM, callC, argC, lendO, nmBy, nmC, likeL, likeB, plainOb, offs, exL, X, F, trP, trO, stepD, stepW, newA, SV.tr, SV.trL, fz, allP, Ob.tr, loadA, cellsA, SV.cells, binA, binI, eqOut, isSl, isPt, natOf, callee, snap, SV.refsL, SV.refs, thaw, fzAll, loA, hiA, elemOf, partsA, buildA, putCells, ↓reduceIte, reduceCtorEq, okCell, Nat.reduceAdd, Nat.reduceEqDiff, Nat.reduceSub, Nat.reduceMul, Nat.reduceLeDiff, Nat.reduceLT, Nat.reduceBEq, PV.scal, PV.scalL, SV.scal, SV.scalL, Ob.scal, PV.isCell, pure', resO]
    refine hR _ _ _ (by intro h; cases h) ?_
    simp only [↓SP, SQ, Gam.add, stepM, callC, argC, lendO, nmBy, nmC, likeL, likeB, plainOb, offs, exL, X, F, trP, trO, stepD, stepW, newA, SV.tr, SV.trL, fz, allP, Ob.tr, loadA, cellsA, SV.cells, binA, binI, eqOut, isSl, isPt, natOf, callee, snap, SV.refsL, SV.refs, thaw, fzAll, loA, hiA, elemOf, partsA, buildA, putCells, ↓reduceIte, reduceCtorEq, okCell, Nat.reduceAdd, Nat.reduceEqDiff, Nat.reduceSub, Nat.reduceMul, Nat.reduceLeDiff, Nat.reduceLT, Nat.reduceBEq, PV.scal, PV.scalL, SV.scal, SV.scalL, Ob.scal, PV.isCell, pure', resO]
    subst he
    have hfe : fillL (movF s (restL c s)) s s.length = yesL c s := fill_end _ _
    refine finA_gen [12] trivial (by simp [retA, rvA, mkE_cons, mk_nil, mkO_cons, mkO_nil, loadA, SV.tr, SV.trL, nmF, rn_nil, rn_cons1, rn_cons2, plainOb, SV.refsL, SV.refs, Ob.refs, X, F, List.range_succ, mkO, setO_mk]; rfl) ?_ ?_ ?_ ?_ ?_ ?_ ?_ <;> simp [hfe, retA, rvA, mkE_cons, mk_nil, mkO_cons, mkO_nil, loadA, SV.tr, SV.trL, nmF, rn_nil, rn_cons1, rn_cons2, plainOb, SV.refsL, SV.refs, Ob.refs, X, F, List.range_succ, mkO, setO_mk]
def a_l4No (f_l4Rest : FuncId) (f_l4Yes : FuncId) : AFn := ⟨2, 
  .seq (.reg [⟨some 4, none, .d (.mv (.c (.nilsl)))⟩])
  (.seq (.reg [⟨some 5, none, .d (.mv (.t 0))⟩,
    ⟨some 6, none, .d (.mv (.t 0))⟩,
    ⟨some 7, none, .d (.mv (.t 1))⟩,
    ⟨some 8, none, .d (.call (.f f_l4Rest) [(.t 6), (.t 7)])⟩,
    ⟨some 9, none, .w (.callL (.f f_l4Yes) [(.t 5), (.t 8)] [] 1 false)⟩,
    ⟨some 4, none, .d (.mv (.t 9))⟩])
  (.ret)), [.tmp 4]⟩
def n_l4No : Nat → Option Ann := fun d => if d = 9 then some ⟨[], 1, false⟩ else none
abbrev k_l4No : List Nat := [0, 1, 4]
abbrev o_l4No : List Nat := [9]
def c_l4No : Con := pure' fun
  | [.p (.sl 1 c_), .p (.sl 1 s_)] => if isI c_ = true ∧ isI s_ = true ∧ ((ofI c_).length ≤ 1100000 ∧ 1 ≤ (ofI c_).length ∧ (ofI s_).length = (ofI c_).length ∧ bd 1000 (ofI c_) = true ∧ bd 1000 (ofI s_) = true) then some (.ar 2000000, [.arr 1 (ints (noL (ofI c_) (ofI s_)))]) else none
  | _ => none
theorem s_l4No {P : Program} (hm : P.follows .mixedOrders = true) {Γ : Gam} (hΓ : GS P Γ) {n : FuncId} {f_l4Rest : FuncId} {f_l4Yes : FuncId} (is : Is P n (a_l4No f_l4Rest f_l4Yes)) (h_l4Rest : Γ f_l4Rest = c_left) (h_l4Yes : Γ f_l4Yes = c_l4Yes)  : Says P n c_l4No := by
  refine Says.pure fun args r fs h => ?_
  split at h
  case h_2 => cases h
  rename_i c_ s_
  split at h
  case isFalse => cases h
  rename_i hc
  obtain ⟨hc_, hc⟩ := hc
  obtain ⟨c, rfl⟩ := isI_out hc_
  obtain ⟨hs_, hc⟩ := hc
  obtain ⟨s, rfl⟩ := isI_out hs_
  simp only [ofI_ints, ofBo_bools, ofAs_asks, Option.some.injEq, Prod.mk.injEq] at h hc
  obtain ⟨rfl, rfl⟩ := h
  obtain ⟨h0, h1l, hl, hbc, hbs⟩ := hc
  have hbr := restL_bd (k' := 10000) hbc hbs (by omega) (by omega)
  have hbc2 := bd_mono (k' := 10000) hbc (by omega) (by omega)
  have hbs2 := bd_mono (k' := 10000) hbs (by omega) (by omega)
  have hrl := restL_len c s
  have hrl2 : (restL c s).length = c.length := by rw [hrl, hl]
  have hyn : yesL c (restL c s) = noL c s := by rw [yesL, restL_rest hl, noL]
  refine is.go hm hΓ k_l4No o_l4No (by simp [a_l4No]) ?_
  simp only [a_l4No, h_l4Rest, c_left, h_l4Yes, c_l4Yes, h0, h1l, hl, hbc2, hbs2, hbr, hrl2, hyn, List.zipIdx_cons, List.zipIdx_nil, ↓SP, SQ, Gam.add, stepM, callC, argC, lendO, nmBy, nmC, likeL, likeB, plainOb, offs, exL, X, F, trP, trO, stepD, stepW, newA, SV.tr, SV.trL, fz, allP, Ob.tr, loadA, cellsA, SV.cells, binA, binI, eqOut, isSl, isPt, natOf, callee, snap, SV.refsL, SV.refs, thaw, fzAll, loA, hiA, elemOf, partsA, buildA, putCells, ↓reduceIte, reduceCtorEq, okCell, Nat.reduceAdd, Nat.reduceEqDiff, Nat.reduceSub, Nat.reduceMul, Nat.reduceLeDiff, Nat.reduceLT, Nat.reduceBEq, PV.scal, PV.scalL, SV.scal, SV.scalL, Ob.scal, PV.isCell, pure', resO]
  refine finA_gen [9] trivial (by simp [retA, rvA, mkE_cons, mk_nil, mkO_cons, mkO_nil, loadA, SV.tr, SV.trL, nmF, rn_nil, rn_cons1, rn_cons2, plainOb, SV.refsL, SV.refs, Ob.refs, X, F, List.range_succ, mkO, setO_mk]; rfl) ?_ ?_ ?_ ?_ ?_ ?_ ?_ <;> simp [retA, rvA, mkE_cons, mk_nil, mkO_cons, mkO_nil, loadA, SV.tr, SV.trL, nmF, rn_nil, rn_cons1, rn_cons2, plainOb, SV.refsL, SV.refs, Ob.refs, X, F, List.range_succ, mkO, setO_mk]
def c_oneWay : Con := pure' fun
  | [.p (.sl 1 c_), .p (.sl 1 s_)] => if isI c_ = true ∧ isI s_ = true ∧ ((ofI c_).length ≤ 1100000 ∧ 1 ≤ (ofI c_).length ∧ (ofI s_).length = (ofI c_).length ∧ bd 1000 (ofI c_) = true ∧ bd 1000 (ofI s_) = true) then some (.tp [.ar 2000000, .ar 2000001], [.arr 1 (ints (ofI s_)), .arr 1 (ints (noL (ofI c_) (ofI s_)))]) else none
  | _ => none
def a_bothWays (f_left : FuncId) (f_moved : FuncId) : AFn := ⟨2, 
  .seq (.reg [⟨some 4, none, .d (.mv (.c (.nilsl)))⟩,
    ⟨some 5, none, .d (.mv (.c (.nilsl)))⟩])
  (.seq (.reg [⟨some 7, none, .d (.mv (.t 0))⟩,
    ⟨some 8, none, .d (.mv (.t 1))⟩,
    ⟨some 9, none, .d (.call (.f f_left) [(.t 7), (.t 8)])⟩,
    ⟨some 6, none, .d (.mv (.t 9))⟩])
  (.seq (.reg [⟨some 10, none, .d (.mv (.t 1))⟩,
    ⟨some 11, none, .d (.mv (.t 6))⟩,
    ⟨some 12, none, .d (.call (.f f_moved) [(.t 10), (.t 11)])⟩,
    ⟨some 13, none, .d (.mv (.t 6))⟩,
    ⟨some 14, none, .d (.mv (.t 1))⟩,
    ⟨some 15, none, .d (.call (.f f_moved) [(.t 13), (.t 14)])⟩,
    ⟨some 4, none, .d (.mv (.t 12))⟩,
    ⟨some 5, none, .d (.mv (.t 15))⟩])
  (.ret))), [.tmp 4, .tmp 5]⟩
def n_bothWays : Nat → Option Ann := fun _ => none
abbrev k_bothWays : List Nat := [0, 1, 4, 5, 6]
abbrev o_bothWays : List Nat := []
def c_bothWays : Con := pure' fun
  | [.p (.sl 1 c_), .p (.sl 1 s_)] => if isI c_ = true ∧ isI s_ = true ∧ ((ofI c_).length ≤ 1100000 ∧ 1 ≤ (ofI c_).length ∧ (ofI s_).length = (ofI c_).length ∧ bd 1000 (ofI c_) = true ∧ bd 1000 (ofI s_) = true) then some (.tp [.p (.sl 1 (ints (yesL (ofI c_) (ofI s_)))), .p (.sl 1 (ints (noL (ofI c_) (ofI s_))))], []) else none
  | _ => none
theorem s_bothWays {P : Program} (hm : P.follows .mixedOrders = true) {Γ : Gam} (hΓ : GS P Γ) {n : FuncId} {f_left : FuncId} {f_moved : FuncId} (is : Is P n (a_bothWays f_left f_moved)) (h_left : Γ f_left = c_left) (h_moved : Γ f_moved = c_moved)  : Says P n c_bothWays := by
  refine Says.pure fun args r fs h => ?_
  split at h
  case h_2 => cases h
  rename_i c_ s_
  split at h
  case isFalse => cases h
  rename_i hc
  obtain ⟨hc_, hc⟩ := hc
  obtain ⟨c, rfl⟩ := isI_out hc_
  obtain ⟨hs_, hc⟩ := hc
  obtain ⟨s, rfl⟩ := isI_out hs_
  simp only [ofI_ints, ofBo_bools, ofAs_asks, Option.some.injEq, Prod.mk.injEq] at h hc
  obtain ⟨rfl, rfl⟩ := h
  obtain ⟨h0, h1l, hl, hbc, hbs⟩ := hc
  have hbr := restL_bd (k' := 100000) hbc hbs (by omega) (by omega)
  have hbc2 := bd_mono (k' := 10000) hbc (by omega) (by omega)
  have hbs2 := bd_mono (k' := 10000) hbs (by omega) (by omega)
  have hbs3 := bd_mono (k' := 100000) hbs (by omega) (by omega)
  have hrl := restL_len c s
  have hrl2 : (restL c s).length = c.length := by rw [hrl, hl]
  have hno : movL (restL c s) s = noL c s := rfl
  have hye : movL s (restL c s) = yesL c s := rfl
  refine is.go hm hΓ k_bothWays o_bothWays (by simp [a_bothWays]) ?_
  simp only [a_bothWays, h_left, c_left, h_moved, c_moved, h0, h1l, hl, hbc2, hbs2, hbs3, hbr, hrl2, hno, hye, List.zipIdx_cons, List.zipIdx_nil, ↓SP, SQ, Gam.add, stepM, callC, argC, lendO, nmBy, nmC, likeL, likeB, plainOb, offs, exL, X, F, trP, trO, stepD, stepW, newA, SV.tr, SV.trL, fz, allP, Ob.tr, loadA, cellsA, SV.cells, binA, binI, eqOut, isSl, isPt, natOf, callee, snap, SV.refsL, SV.refs, thaw, fzAll, loA, hiA, elemOf, partsA, buildA, putCells, ↓reduceIte, reduceCtorEq, okCell, Nat.reduceAdd, Nat.reduceEqDiff, Nat.reduceSub, Nat.reduceMul, Nat.reduceLeDiff, Nat.reduceLT, Nat.reduceBEq, PV.scal, PV.scalL, SV.scal, SV.scalL, Ob.scal, PV.isCell, pure', resO]
  exact finA_val (by simp [retA, rvA, mkE_cons, mk_nil, mkO_cons, mkO_nil, loadA, SV.tr, SV.trL, nmF, rn_nil, rn_cons1, rn_cons2, plainOb, SV.refsL, SV.refs, Ob.refs, X, F, List.range_succ, mkO, setO_mk]) (by simp [SV.tr, SV.trL])
def sls (L : List (List Int)) : List PV := L.map fun l => .sl 1 (ints l)
theorem sls_len (L : List (List Int)) : (sls L).length = L.length := by simp [sls]
theorem sls_get {L : List (List Int)} {i : Nat} (h : i < L.length) : (sls L)[i]? = some (.sl 1 (ints (L.getD i []))) := by simp [sls, h]
theorem sls_app1 (L : List (List Int)) (l : List Int) : sls L ++ [.sl 1 (ints l)] = sls (L ++ [l]) := by simp [sls]
theorem sls_cell (L : List (List Int)) : ((sls L).all fun y => y.cells.all PV.isCell) = true := by simp [sls, PV.cells, PV.isCell]
def ags (L : List (List Int)) : List PV := L.map fun l => .agg (ints l)
theorem ags_len (L : List (List Int)) : (ags L).length = L.length := by simp [ags]
theorem ags_get {L : List (List Int)} {i : Nat} (h : i < L.length) : (ags L)[i]? = some (.agg (ints (L.getD i []))) := by simp [ags, h]
theorem ags_app1 (L : List (List Int)) (l : List Int) : ags L ++ [.agg (ints l)] = ags (L ++ [l]) := by simp [ags]
theorem ags_cell (L : List (List Int)) : ((ags L).all fun y => y.cells.all PV.isCell) = true := by simp [ags, PV.cells, PV.isCell, ints]
theorem ints_isInt (l : List Int) : (ints l).all PV.isInt = true := by simp [ints, PV.isInt]
theorem ints_isCell (l : List Int) : (ints l).all PV.isCell = true := by simp [ints, PV.isCell]
theorem scalEqL_ints : ∀ (a b : List Int), a.length = b.length → scalEqL (ints a) (ints b) = some (decide (a = b))
  | [], [], _ => rfl
  | x :: a, y :: b, h => by
    have ih := scalEqL_ints a b (by simpa using h)
    simp only [ints, List.map_cons, scalEqL, scalEq, if_true]
    by_cases hxy : x = y
    · subst hxy
      have : (x == x) = true := beq_self_eq_true x
      simp only [this]
      simp only [ints] at ih
      rw [ih]
      simp
    · have : (x == y) = false := beq_eq_false_iff_ne.2 hxy
      simp only [this]
      simp [hxy]
  | [], _ :: _, h => by simp at h
  | _ :: _, [], h => by simp at h
/-- Entries of a map by counts. -/
def ents (E : List (List Int × Int)) : List (PV × PV) := E.map fun e => (.agg (ints e.1), .int .i64 e.2)
def lk (t : List Int) : List (List Int × Int) → Option Int
  | [] => none
  | e :: r => if t = e.1 then some e.2 else lk t r
def all3 (E : List (List Int × Int)) : Bool := E.all fun e => e.1.length == 3
theorem look_ents {t : List Int} (ht : t.length = 3) : ∀ {E : List (List Int × Int)}, all3 E = true → look (.agg (ints t)) (ents E) = some ((lk t E).map (PV.int .i64))
  | [], _ => rfl
  | e :: r, h => by
    simp only [all3, List.all_cons, Bool.and_eq_true, beq_iff_eq] at h
    have ih := look_ents ht (E := r) h.2
    simp only [ents, List.map_cons, look, keyEq, scalEqL_ints t e.1 (by omega), lk]
    by_cases he : t = e.1
    · simp [he]
    · simp only [dec_f he, if_neg he]
      exact ih
theorem mset_ents {t : List Int} {v : Int} (ht : t.length = 3) : ∀ {E : List (List Int × Int)}, all3 E = true → lk t E = none → mset (.agg (ints t)) (.int .i64 v) (ents E) = some (ents (E ++ [(t, v)]))
  | [], _, _ => rfl
  | e :: r, h, hn => by
    simp only [all3, List.all_cons, Bool.and_eq_true, beq_iff_eq] at h
    simp only [lk] at hn
    by_cases he : t = e.1
    · simp [he] at hn
    · rw [if_neg he] at hn
      have ih := mset_ents (v := v) ht (E := r) h.2 hn
      simp only [ents] at ih
      simp only [ents, List.map_cons, mset, keyEq, scalEqL_ints t e.1 (by omega), dec_f he, ih, Option.map_some, List.cons_append, List.map_append]
theorem keysOk_ents {E : List (List Int × Int)} (h : all3 E = true) : keysOk (some 3) (ents E) = true := by
  simp only [keysOk, ents, List.all_map, List.all_eq_true]
  intro e he
  have := List.all_eq_true.1 h e he
  simp only [beq_iff_eq] at this
  simp only [Function.comp, aggN, ints_len, this, ints_isInt, beq_self_eq_true, Bool.and_self]
theorem all3_app {E E' : List (List Int × Int)} (h : all3 E = true) (h' : all3 E' = true) : all3 (E ++ E') = true := by simp only [all3, List.all_append, Bool.and_eq_true] at *; exact ⟨h, h'⟩
theorem lk_app (t : List Int) : ∀ (E E' : List (List Int × Int)), lk t (E ++ E') = match lk t E with | some v => some v | none => lk t E'
  | [], _ => rfl
  | e :: r, E' => by
    simp only [List.cons_append, lk]
    by_cases he : t = e.1
    · simp [he]
    · simp only [if_neg he]; exact lk_app t r E'
/-- Numbers whose key and value are right. -/
def okE (es : List (PV × PV)) : Bool := es.all fun e => match e with
  | (.agg [.int .i64 _, .int .i64 _, .int .i64 _], .int .i64 v) => decide (-1000 ≤ v) && decide (v ≤ 1000)
  | _ => false
theorem okE_out : ∀ {es : List (PV × PV)}, okE es = true → ∃ E, es = ents E ∧ all3 E = true ∧ ∀ t v, lk t E = some v → -1000 ≤ v ∧ v ≤ 1000
  | [], _ => ⟨[], rfl, rfl, fun t v h => by simp [lk] at h⟩
  | e :: r, h => by
    simp only [okE, List.all_cons, Bool.and_eq_true] at h
    obtain ⟨E, h1, h2, h3⟩ := okE_out (es := r) h.2
    have h4 := h.1
    split at h4
    · rename_i a b c v
      refine ⟨([a, b, c], v) :: E, by simp [ents, h1, ints], by simp [all3] at h2 ⊢; exact h2, fun t u ht => ?_⟩
      simp only [lk] at ht
      split at ht
      · injection ht with ht; subst ht; simpa using h4
      · exact h3 t u ht
    · cases h4
theorem okE_ents {E : List (List Int × Int)} (h3 : all3 E = true) (hv : ∀ e ∈ E, -1000 ≤ e.2 ∧ e.2 ≤ 1000) : okE (ents E) = true := by
  simp only [okE, ents, List.all_map, List.all_eq_true]
  intro e he
  have h1 := List.all_eq_true.1 h3 e he
  have h2 := hv e he
  simp only [beq_iff_eq] at h1
  obtain ⟨t, v⟩ := e
  simp only at h1 h2
  match t, h1 with
  | [a, b, c], _ => simp [ints, h2]
/-- Counts as a triple. -/
def pad3 (l : List Int) : List Int := List.replicate (3 - l.length) 0 ++ l
theorem pad3_len {l : List Int} (h : l.length ≤ 3) : (pad3 l).length = 3 := by simp [pad3]; omega
theorem tri {t : List Int} (h : t.length = 3) : [PV.int .i64 (t.getD 0 0), .int .i64 (t.getD 1 0), .int .i64 (t.getD 2 0)] = ints t := by
  match t, h with
  | [a, b, c], _ => rfl
theorem flat3 (a b c : Int) : flat [.int .i64 a, .int .i64 b, .int .i64 c] = [.int .i64 a, .int .i64 b, .int .i64 c] := rfl
def a_tripleOf : AFn := ⟨1, 
  .seq (.reg [⟨some 2, none, .w (.alloc [.int .i64 0, .int .i64 0, .int .i64 0])⟩])
  (.seq (.reg [⟨some 4, none, .d (.build [.int .i64 0, .int .i64 0, .int .i64 0] [])⟩,
    ⟨some 3, none, .w (.allocA [.int .i64 0, .int .i64 0, .int .i64 0])⟩,
    ⟨none, none, .w (.store 3 (.t 3) (.t 4))⟩])
  (.seq (.reg [⟨some 5, none, .d (.mv (.t 0))⟩,
    ⟨some 6, none, .d (.len (.t 5))⟩,
    ⟨some 7, none, .d (.bin .arith .sub (.c (.int .i64 3)) (.t 6))⟩,
    ⟨some 8, none, .d (.slcA 3 1 (.t 3) (some (.t 7)) none)⟩,
    ⟨some 9, none, .d (.mv (.t 0))⟩,
    ⟨some 10, none, .w (.copy (.t 8) (.t 9))⟩])
  (.seq (.reg [⟨some 11, none, .d (.load true 3 (.t 3))⟩,
    ⟨none, none, .w (.store 3 (.t 2) (.t 11))⟩])
  (.ret)))), [.cell 2 3 true]⟩
def n_tripleOf : Nat → Option Ann := fun d => if d = 3 then some ⟨[], 0, false⟩ else none
abbrev k_tripleOf : List Nat := [0, 2, 3]
abbrev o_tripleOf : List Nat := [2, 3]
def c_tripleOf : Con := pure' fun
  | [.p (.sl 1 l_)] => if isI l_ = true ∧ (1 ≤ (ofI l_).length ∧ (ofI l_).length ≤ 3) then some (.ag [.p (.int .i64 ((pad3 (ofI l_)).getD 0 0)), .p (.int .i64 ((pad3 (ofI l_)).getD 1 0)), .p (.int .i64 ((pad3 (ofI l_)).getD 2 0))], []) else none
  | _ => none
theorem s_tripleOf {P : Program} (hm : P.follows .mixedOrders = true) {Γ : Gam} (hΓ : GS P Γ) {n : FuncId} (is : Is P n a_tripleOf)  : Says P n c_tripleOf := by
  refine Says.pure fun args r fs h => ?_
  split at h
  case h_2 => cases h
  rename_i l_
  split at h
  case isFalse => cases h
  rename_i hc
  obtain ⟨hl_, hc⟩ := hc
  obtain ⟨l, rfl⟩ := isI_out hl_
  simp only [ofI_ints, ofBo_bools, ofAs_asks, Option.some.injEq, Prod.mk.injEq] at h hc
  obtain ⟨rfl, rfl⟩ := h
  obtain ⟨h1, h2⟩ := hc
  have w1 : IntKind.i64.wrap (3 - ((1 : Nat) : Int)) = ((2 : Nat) : Int) := by rfl
  have w2 : IntKind.i64.wrap (3 - ((2 : Nat) : Int)) = ((1 : Nat) : Int) := by rfl
  have w3 : IntKind.i64.wrap (3 - ((3 : Nat) : Int)) = ((0 : Nat) : Int) := by rfl
  have p1 : (0 : Int) ≤ ((2 : Nat) : Int) := by omega
  have p2 : (0 : Int) ≤ ((1 : Nat) : Int) := by omega
  have p3 : (0 : Int) ≤ ((0 : Nat) : Int) := by omega
  match l, h1, h2 with
  | [a], _, _ =>
    refine is.go hm hΓ k_tripleOf o_tripleOf (by simp [a_tripleOf]) ?_
    simp only [a_tripleOf, flat3, elems, putPV, ints, List.map_cons, List.map_nil, w1, w2, w3, p1, p2, p3, Int.toNat_natCast, List.set_cons_zero, List.set_cons_succ, List.zipIdx_cons, List.zipIdx_nil, ↓SP, SQ, Gam.add, stepM, callC, argC, lendO, nmBy, nmC, likeL, likeB, plainOb, offs, exL, X, F, trP, trO, stepD, stepW, newA, SV.tr, SV.trL, fz, allP, Ob.tr, loadA, cellsA, SV.cells, binA, binI, eqOut, isSl, isPt, natOf, callee, snap, SV.refsL, SV.refs, thaw, fzAll, loA, hiA, elemOf, partsA, buildA, putCells, ↓reduceIte, reduceCtorEq, okCell, Nat.reduceAdd, Nat.reduceEqDiff, Nat.reduceSub, Nat.reduceMul, Nat.reduceLeDiff, Nat.reduceLT, Nat.reduceBEq, PV.scal, PV.scalL, SV.scal, SV.scalL, Ob.scal, PV.isCell, pure', resO]
    exact finA_val (by simp [pad3, ints, retA, rvA, mkE_cons, mk_nil, mkO_cons, mkO_nil, loadA, SV.tr, SV.trL, nmF, rn_nil, rn_cons1, rn_cons2, plainOb, SV.refsL, SV.refs, Ob.refs, X, F, List.range_succ, mkO, setO_mk]) (by simp [SV.tr, SV.trL])
  | [a, b], _, _ =>
    refine is.go hm hΓ k_tripleOf o_tripleOf (by simp [a_tripleOf]) ?_
    simp only [a_tripleOf, flat3, elems, putPV, ints, List.map_cons, List.map_nil, w1, w2, w3, p1, p2, p3, Int.toNat_natCast, List.set_cons_zero, List.set_cons_succ, List.zipIdx_cons, List.zipIdx_nil, ↓SP, SQ, Gam.add, stepM, callC, argC, lendO, nmBy, nmC, likeL, likeB, plainOb, offs, exL, X, F, trP, trO, stepD, stepW, newA, SV.tr, SV.trL, fz, allP, Ob.tr, loadA, cellsA, SV.cells, binA, binI, eqOut, isSl, isPt, natOf, callee, snap, SV.refsL, SV.refs, thaw, fzAll, loA, hiA, elemOf, partsA, buildA, putCells, ↓reduceIte, reduceCtorEq, okCell, Nat.reduceAdd, Nat.reduceEqDiff, Nat.reduceSub, Nat.reduceMul, Nat.reduceLeDiff, Nat.reduceLT, Nat.reduceBEq, PV.scal, PV.scalL, SV.scal, SV.scalL, Ob.scal, PV.isCell, pure', resO]
    exact finA_val (by simp [pad3, ints, retA, rvA, mkE_cons, mk_nil, mkO_cons, mkO_nil, loadA, SV.tr, SV.trL, nmF, rn_nil, rn_cons1, rn_cons2, plainOb, SV.refsL, SV.refs, Ob.refs, X, F, List.range_succ, mkO, setO_mk]) (by simp [SV.tr, SV.trL])
  | [a, b, c], _, _ =>
    refine is.go hm hΓ k_tripleOf o_tripleOf (by simp [a_tripleOf]) ?_
    simp only [a_tripleOf, flat3, elems, putPV, ints, List.map_cons, List.map_nil, w1, w2, w3, p1, p2, p3, Int.toNat_natCast, List.set_cons_zero, List.set_cons_succ, List.zipIdx_cons, List.zipIdx_nil, ↓SP, SQ, Gam.add, stepM, callC, argC, lendO, nmBy, nmC, likeL, likeB, plainOb, offs, exL, X, F, trP, trO, stepD, stepW, newA, SV.tr, SV.trL, fz, allP, Ob.tr, loadA, cellsA, SV.cells, binA, binI, eqOut, isSl, isPt, natOf, callee, snap, SV.refsL, SV.refs, thaw, fzAll, loA, hiA, elemOf, partsA, buildA, putCells, ↓reduceIte, reduceCtorEq, okCell, Nat.reduceAdd, Nat.reduceEqDiff, Nat.reduceSub, Nat.reduceMul, Nat.reduceLeDiff, Nat.reduceLT, Nat.reduceBEq, PV.scal, PV.scalL, SV.scal, SV.scalL, Ob.scal, PV.isCell, pure', resO]
    exact finA_val (by simp [pad3, ints, retA, rvA, mkE_cons, mk_nil, mkO_cons, mkO_nil, loadA, SV.tr, SV.trL, nmF, rn_nil, rn_cons1, rn_cons2, plainOb, SV.refsL, SV.refs, Ob.refs, X, F, List.range_succ, mkO, setO_mk]) (by simp [SV.tr, SV.trL])
/-- Lists of numbers. -/
def isS (xs : List PV) : Bool := xs.all fun
  | .sl 1 ys => isI ys
  | _ => false
theorem isS_sls (L : List (List Int)) : isS (sls L) = true := by simp [isS, sls, isI_ints]
theorem isS_out : ∀ {xs : List PV}, isS xs = true → ∃ L, xs = sls L
  | [], _ => ⟨[], rfl⟩
  | x :: r, h => by
    simp only [isS, List.all_cons, Bool.and_eq_true] at h
    obtain ⟨L, e⟩ := isS_out (xs := r) h.2
    have h1 := h.1
    split at h1
    · obtain ⟨l, rfl⟩ := isI_out h1
      exact ⟨l :: L, by rw [e]; rfl⟩
    · cases h1
def a_IndexFuncS : AFn := ⟨2, 
  .seq (.reg [⟨some 4, none, .d (.mv (.c (.int .i64 0)))⟩])
  (.seq (.seq (.reg [⟨some 6, none, .d (.mv (.t 0))⟩,
    ⟨some 7, none, .d (.len (.t 6))⟩,
    ⟨some 8, none, .d (.mv (.c (.int .i64 0)))⟩])
  (.block 0 (.loop (.seq (.reg [⟨some 9, none, .d (.bin .arith .lss (.t 8) (.t 7))⟩])
    (.seq (.cond (.t 9) (.skip) (.exit 0))
    (.seq (.block 1 (.seq (.reg [⟨some 10, none, .d (.mv (.t 8))⟩,
       ⟨some 5, none, .d (.mv (.t 10))⟩])
     (.seq (.reg [⟨some 11, none, .d (.mv (.t 1))⟩,
       ⟨some 12, none, .d (.mv (.t 0))⟩,
       ⟨some 13, none, .d (.mv (.t 5))⟩,
       ⟨some 14, none, .d (.ia 1 (.t 12) (.t 13))⟩,
       ⟨some 15, none, .d (.load false 1 (.t 14))⟩,
       ⟨some 16, none, .d (.call (.t 11) [(.t 15)])⟩])
     (.cond (.t 16) (.seq (.reg [⟨some 17, none, .d (.mv (.t 5))⟩,
        ⟨some 4, none, .d (.mv (.t 17))⟩])
      (.ret)) (.skip)))))
    (.reg [⟨some 18, none, .d (.bin .arith .add (.t 8) (.c (.int .i64 1)))⟩,
      ⟨some 8, none, .d (.mv (.t 18))⟩])))))))
  (.seq (.reg [⟨some 4, none, .d (.mv (.c (.int .i64 (-1))))⟩])
  (.ret))), [.tmp 4]⟩
def n_IndexFuncS : Nat → Option Ann := fun _ => none
abbrev k_IndexFuncS : List Nat := [0, 1, 4, 5, 7, 8, 9, 16]
abbrev o_IndexFuncS : List Nat := []
def c_IndexFuncS (Γ0 : Gam) : Con := pure' fun
  | [.p (.sl 1 xs), .p (.fn g a b)] => if isS xs = true ∧ xs.length ≤ 1100000 then (match askF Γ0 g a b xs with | some bs => some (.p (.int .i64 (firstT bs)), []) | none => none) else none
  | _ => none
theorem s_IndexFuncS {P : Program} (hm : P.follows .mixedOrders = true) {Γ : Gam} (hΓ : GS P Γ) {n : FuncId} (is : Is P n a_IndexFuncS)  : Says P n (c_IndexFuncS Γ) := by
  refine Says.pure fun args r fs h => ?_
  split at h
  case h_2 => cases h
  rename_i xs g a b
  split at h
  case isFalse => cases h
  rename_i hc
  obtain ⟨hx, hc⟩ := hc
  obtain ⟨l, rfl⟩ := isS_out hx
  rw [sls_len] at hc
  split at h
  case h_2 => cases h
  rename_i bs hbs
  simp only [Option.some.injEq, Prod.mk.injEq] at h
  obtain ⟨rfl, rfl⟩ := h
  have hbl := askF_len hbs
  rw [sls_len] at hbl
  refine is.go hm hΓ k_IndexFuncS o_IndexFuncS (by simp [a_IndexFuncS]) ?_
  simp only [a_IndexFuncS, sls_len, List.zipIdx_cons, List.zipIdx_nil, ↓SP, SQ, Gam.add, stepM, callC, argC, lendO, nmBy, nmC, likeL, likeB, plainOb, offs, exL, X, F, trP, trO, stepD, stepW, newA, SV.tr, SV.trL, fz, allP, Ob.tr, loadA, cellsA, SV.cells, binA, binI, eqOut, isSl, isPt, natOf, callee, snap, SV.refsL, SV.refs, thaw, fzAll, loA, hiA, elemOf, partsA, buildA, putCells, ↓reduceIte, reduceCtorEq, okCell, Nat.reduceAdd, Nat.reduceEqDiff, Nat.reduceSub, Nat.reduceMul, Nat.reduceLeDiff, Nat.reduceLT, Nat.reduceBEq, PV.scal, PV.scalL, SV.scal, SV.scalL, Ob.scal, PV.isCell, pure', resO]
  refine loop_at (fun s : Nat × SV × SV × SV => mkEnv [(0, .p (.sl 1 (sls l))), (1, .p (.fn g a b)), (4, si 0), (5, s.2.1), (7, si l.length), (8, si s.1), (9, s.2.2.1), (16, s.2.2.2)]) (fun s => mkO []) (fun s => s.1 ≤ l.length ∧ ∀ j, j < s.1 → bs.getD j false = false) (fun s => l.length - s.1) (0, .junk, .junk, .junk) (by simp) rfl rfl ?_
  rintro ⟨i, c1, c2, c3⟩ ⟨hi, hp⟩ R hR hN
  simp only at hi hp
  by_cases h : i < l.length
  · have h1 : (i : Int) < l.length := by omega
    have hw := wrap_one (i := i) (by omega)
    have hg := sls_get h
    have hq := askF_get hbs hg
    cases hb : bs.getD i false with
    | false =>
      rw [hb] at hq
      simp only [h1, hw, hg, call_ps, refs_ps, hq, ↓SP, SQ, Gam.add, stepM, callC, argC, lendO, nmBy, nmC, likeL, likeB, plainOb, offs, exL, X, F, trP, trO, stepD, stepW, newA, SV.tr, SV.trL, fz, allP, Ob.tr, loadA, cellsA, SV.cells, binA, binI, eqOut, isSl, isPt, natOf, callee, snap, SV.refsL, SV.refs, thaw, fzAll, loA, hiA, elemOf, partsA, buildA, putCells, ↓reduceIte, reduceCtorEq, okCell, Nat.reduceAdd, Nat.reduceEqDiff, Nat.reduceSub, Nat.reduceMul, Nat.reduceLeDiff, Nat.reduceLT, Nat.reduceBEq, PV.scal, PV.scalL, SV.scal, SV.scalL, Ob.scal, PV.isCell, pure', resO]
      refine hN (i + 1, _, _, _) _ _ ⟨by simp only; omega, fun j hj => ?_⟩ (by simp only; omega) rfl rfl
      simp only at hj
      by_cases hji : j = i
      · rw [hji]; exact hb
      · exact hp j (by omega)
    | true =>
      rw [hb] at hq
      have hf := firstT_some (by omega) hp hb
      simp only [h1, hw, hg, call_ps, refs_ps, hq, hf, ↓SP, SQ, Gam.add, stepM, callC, argC, lendO, nmBy, nmC, likeL, likeB, plainOb, offs, exL, X, F, trP, trO, stepD, stepW, newA, SV.tr, SV.trL, fz, allP, Ob.tr, loadA, cellsA, SV.cells, binA, binI, eqOut, isSl, isPt, natOf, callee, snap, SV.refsL, SV.refs, thaw, fzAll, loA, hiA, elemOf, partsA, buildA, putCells, ↓reduceIte, reduceCtorEq, okCell, Nat.reduceAdd, Nat.reduceEqDiff, Nat.reduceSub, Nat.reduceMul, Nat.reduceLeDiff, Nat.reduceLT, Nat.reduceBEq, PV.scal, PV.scalL, SV.scal, SV.scalL, Ob.scal, PV.isCell, pure', resO]
      refine hR _ _ _ (by intro h; cases h) ?_
      simp only [↓SP, SQ, Gam.add, stepM, callC, argC, lendO, nmBy, nmC, likeL, likeB, plainOb, offs, exL, X, F, trP, trO, stepD, stepW, newA, SV.tr, SV.trL, fz, allP, Ob.tr, loadA, cellsA, SV.cells, binA, binI, eqOut, isSl, isPt, natOf, callee, snap, SV.refsL, SV.refs, thaw, fzAll, loA, hiA, elemOf, partsA, buildA, putCells, ↓reduceIte, reduceCtorEq, okCell, Nat.reduceAdd, Nat.reduceEqDiff, Nat.reduceSub, Nat.reduceMul, Nat.reduceLeDiff, Nat.reduceLT, Nat.reduceBEq, PV.scal, PV.scalL, SV.scal, SV.scalL, Ob.scal, PV.isCell, pure', resO]
      exact finA_val (by simp [hf, retA, rvA, mkE_cons, mk_nil, mkO_cons, mkO_nil, loadA, SV.tr, SV.trL, nmF, rn_nil, rn_cons1, rn_cons2, plainOb, SV.refsL, SV.refs, Ob.refs, X, F, List.range_succ, mkO, setO_mk]) (by simp [SV.tr, SV.trL])
  · have he : i = l.length := by omega
    have h1 : ¬ (i : Int) < l.length := by omega
    have hf : firstT bs = -1 := firstT_none fun j hj => hp j (by omega)
    simp only [h1, hf, ↓SP, SQ, Gam.add, stepM, callC, argC, lendO, nmBy, nmC, likeL, likeB, plainOb, offs, exL, X, F, trP, trO, stepD, stepW, newA, SV.tr, SV.trL, fz, allP, Ob.tr, loadA, cellsA, SV.cells, binA, binI, eqOut, isSl, isPt, natOf, callee, snap, SV.refsL, SV.refs, thaw, fzAll, loA, hiA, elemOf, partsA, buildA, putCells, ↓reduceIte, reduceCtorEq, okCell, Nat.reduceAdd, Nat.reduceEqDiff, Nat.reduceSub, Nat.reduceMul, Nat.reduceLeDiff, Nat.reduceLT, Nat.reduceBEq, PV.scal, PV.scalL, SV.scal, SV.scalL, Ob.scal, PV.isCell, pure', resO]
    refine hR _ _ _ (by intro h; cases h) ?_
    simp only [↓SP, SQ, Gam.add, stepM, callC, argC, lendO, nmBy, nmC, likeL, likeB, plainOb, offs, exL, X, F, trP, trO, stepD, stepW, newA, SV.tr, SV.trL, fz, allP, Ob.tr, loadA, cellsA, SV.cells, binA, binI, eqOut, isSl, isPt, natOf, callee, snap, SV.refsL, SV.refs, thaw, fzAll, loA, hiA, elemOf, partsA, buildA, putCells, ↓reduceIte, reduceCtorEq, okCell, Nat.reduceAdd, Nat.reduceEqDiff, Nat.reduceSub, Nat.reduceMul, Nat.reduceLeDiff, Nat.reduceLT, Nat.reduceBEq, PV.scal, PV.scalL, SV.scal, SV.scalL, Ob.scal, PV.isCell, pure', resO]
    exact finA_val (by simp [hf, retA, rvA, mkE_cons, mk_nil, mkO_cons, mkO_nil, loadA, SV.tr, SV.trL, nmF, rn_nil, rn_cons1, rn_cons2, plainOb, SV.refsL, SV.refs, Ob.refs, X, F, List.range_succ, mkO, setO_mk]) (by simp [SV.tr, SV.trL])
def a_ContainsFuncS (f_IndexFuncS : FuncId) : AFn := ⟨2, 
  .seq (.reg [⟨some 4, none, .d (.mv (.c (.bool false)))⟩])
  (.seq (.reg [⟨some 5, none, .d (.mv (.t 0))⟩,
    ⟨some 6, none, .d (.mv (.t 1))⟩,
    ⟨some 7, none, .d (.call (.f f_IndexFuncS) [(.t 5), (.t 6)])⟩,
    ⟨some 8, none, .d (.bin .arith .geq (.t 7) (.c (.int .i64 0)))⟩,
    ⟨some 4, none, .d (.mv (.t 8))⟩])
  (.ret)), [.tmp 4]⟩
def n_ContainsFuncS : Nat → Option Ann := fun _ => none
abbrev k_ContainsFuncS : List Nat := [0, 1, 4]
abbrev o_ContainsFuncS : List Nat := []
def c_ContainsFuncS (Γ0 : Gam) : Con := pure' fun
  | [.p (.sl 1 xs), .p (.fn g a b)] => if isS xs = true ∧ xs.length ≤ 1100000 then (match askF Γ0 g a b xs with | some bs => some (.p (.bool (bs.any id)), []) | none => none) else none
  | _ => none
theorem s_ContainsFuncS {P : Program} (hm : P.follows .mixedOrders = true) {Γ : Gam} (hΓ : GS P Γ) {n : FuncId} {f_IndexFuncS : FuncId} (is : Is P n (a_ContainsFuncS f_IndexFuncS)) {Γ0 : Gam} (h_IndexFuncS : Γ f_IndexFuncS = c_IndexFuncS Γ0) : Says P n (c_ContainsFuncS Γ0) := by
  refine Says.pure fun args r fs h => ?_
  split at h
  case h_2 => cases h
  rename_i xs g a b
  split at h
  case isFalse => cases h
  rename_i hc
  split at h
  case h_2 => cases h
  rename_i bs hbs
  simp only [Option.some.injEq, Prod.mk.injEq] at h
  obtain ⟨rfl, rfl⟩ := h
  have hm1 : ∀ (O : Objs) (l : List PV), (l.map SV.p).mapM (snap O 4) = some l := fun O l => by
    induction l with
    | nil => rfl
    | cons y r ih => simp only [List.map_cons, List.mapM_cons, ih]; rfl
  refine is.go hm hΓ k_ContainsFuncS o_ContainsFuncS (by simp [a_ContainsFuncS]) ?_
  simp only [a_ContainsFuncS, h_IndexFuncS, c_IndexFuncS, hc, hbs, firstT_any, List.zipIdx_cons, List.zipIdx_nil, ↓SP, SQ, Gam.add, stepM, callC, argC, lendO, nmBy, nmC, likeL, likeB, plainOb, offs, exL, X, F, trP, trO, stepD, stepW, newA, SV.tr, SV.trL, fz, allP, Ob.tr, loadA, cellsA, SV.cells, binA, binI, eqOut, isSl, isPt, natOf, callee, snap, SV.refsL, SV.refs, thaw, fzAll, loA, hiA, elemOf, partsA, buildA, putCells, ↓reduceIte, reduceCtorEq, okCell, Nat.reduceAdd, Nat.reduceEqDiff, Nat.reduceSub, Nat.reduceMul, Nat.reduceLeDiff, Nat.reduceLT, Nat.reduceBEq, PV.scal, PV.scalL, SV.scal, SV.scalL, Ob.scal, PV.isCell, pure', resO]
  exact finA_val (by simp [retA, rvA, mkE_cons, mk_nil, mkO_cons, mkO_nil, loadA, SV.tr, SV.trL, nmF, rn_nil, rn_cons1, rn_cons2, plainOb, SV.refsL, SV.refs, Ob.refs, X, F, List.range_succ, mkO, setO_mk]) (by simp [SV.tr, SV.trL])
/-- Triples of numbers. -/
def isG (xs : List PV) : Bool := xs.all fun
  | .agg [.int .i64 _, .int .i64 _, .int .i64 _] => true
  | _ => false
def al3 (L : List (List Int)) : Bool := L.all fun l => l.length == 3
theorem isG_ags {L : List (List Int)} (h : al3 L = true) : isG (ags L) = true := by
  simp only [isG, ags, List.all_map, List.all_eq_true]
  intro l hl
  have := List.all_eq_true.1 h l hl
  simp only [beq_iff_eq] at this
  match l, this with
  | [a, b, c], _ => rfl
theorem isG_out : ∀ {xs : List PV}, isG xs = true → ∃ L, xs = ags L ∧ al3 L = true
  | [], _ => ⟨[], rfl, rfl⟩
  | x :: r, h => by
    simp only [isG, List.all_cons, Bool.and_eq_true] at h
    obtain ⟨L, e, h3⟩ := isG_out (xs := r) h.2
    have h1 := h.1
    split at h1
    · rename_i a b c
      exact ⟨[a, b, c] :: L, by rw [e]; rfl, by simpa [al3] using h3⟩
    · cases h1
theorem al3_get {L : List (List Int)} (h : al3 L = true) {i : Nat} (hi : i < L.length) : (L.getD i []).length = 3 := by
  have := List.all_eq_true.1 h (L.getD i []) (by rw [getD_lt hi]; exact List.getElem_mem hi)
  simpa using this
/-- Whether a value is a triple. -/
def isT (t : List Int) : PV → Bool
  | .agg cs => decide (ofI cs = t)
  | _ => false
def a_IndexT : AFn := ⟨2, 
  .seq (.reg [⟨some 3, none, .w (.box 3 (.t 1))⟩,
    ⟨some 4, none, .d (.mv (.c (.int .i64 0)))⟩])
  (.seq (.seq (.reg [⟨some 6, none, .d (.mv (.t 0))⟩,
    ⟨some 7, none, .d (.len (.t 6))⟩,
    ⟨some 8, none, .d (.mv (.c (.int .i64 0)))⟩])
  (.block 0 (.loop (.seq (.reg [⟨some 9, none, .d (.bin .arith .lss (.t 8) (.t 7))⟩])
    (.seq (.cond (.t 9) (.skip) (.exit 0))
    (.seq (.block 1 (.seq (.reg [⟨some 10, none, .d (.mv (.t 8))⟩,
       ⟨some 5, none, .d (.mv (.t 10))⟩])
     (.seq (.dreg [] [([], ⟨some 11, none, .d (.load true 3 (.t 3))⟩),
       ([], ⟨some 12, none, .d (.mv (.t 0))⟩),
       ([], ⟨some 13, none, .d (.mv (.t 5))⟩),
       ([], ⟨some 14, none, .d (.ia 3 (.t 12) (.t 13))⟩),
       ([], ⟨some 15, none, .d (.load true 3 (.t 14))⟩)] [⟨some 16, none, .d (.bin (.arr 3) .eql (.t 11) (.t 15))⟩])
     (.cond (.t 16) (.seq (.reg [⟨some 17, none, .d (.mv (.t 5))⟩,
        ⟨some 4, none, .d (.mv (.t 17))⟩])
      (.ret)) (.skip)))))
    (.reg [⟨some 18, none, .d (.bin .arith .add (.t 8) (.c (.int .i64 1)))⟩,
      ⟨some 8, none, .d (.mv (.t 18))⟩])))))))
  (.seq (.reg [⟨some 4, none, .d (.mv (.c (.int .i64 (-1))))⟩])
  (.ret))), [.tmp 4]⟩
def n_IndexT : Nat → Option Ann := fun _ => none
abbrev k_IndexT : List Nat := [0, 1, 3, 4, 5, 7, 8, 9, 16]
abbrev o_IndexT : List Nat := [3]
def c_IndexT : Con := pure' fun
  | [.p (.sl 3 xs), .p (.agg [.int .i64 a, .int .i64 b, .int .i64 c])] => if isG xs = true ∧ xs.length ≤ 1100000 then some (.p (.int .i64 (firstT (xs.map (isT [a, b, c])))), []) else none
  | _ => none
theorem firstT_map {L : List (List Int)} {t : List Int} : (ags L).map (isT t) = L.map fun l => decide (l = t) := by
  simp only [ags, List.map_map]
  apply List.map_congr_left
  intro l _
  simp [ofI_ints, isT]
theorem keyEq_i3 (a b c : Int) {t : List Int} (h : t.length = 3) : keyEq (.agg [.int .i64 a, .int .i64 b, .int .i64 c]) (.agg (ints t)) = some (decide (t = [a, b, c])) := by
  have h1 := scalEqL_ints [a, b, c] t (by simp [h])
  simp only [keyEq]
  simp only [ints, List.map_cons, List.map_nil] at h1
  simp only [ints]
  rw [h1]
  congr 1
  by_cases e : [a, b, c] = t
  · rw [dec_t e, dec_t e.symm]
  · rw [dec_f e, dec_f fun h => e h.symm]
theorem s_IndexT {P : Program} (hm : P.follows .mixedOrders = true) {Γ : Gam} (hΓ : GS P Γ) {n : FuncId} (is : Is P n a_IndexT)  : Says P n c_IndexT := by
  refine Says.pure fun args r fs h => ?_
  split at h
  case h_2 => cases h
  rename_i xs a b c
  split at h
  case isFalse => cases h
  rename_i hc
  obtain ⟨hx, hc⟩ := hc
  obtain ⟨l, rfl, hl3⟩ := isG_out hx
  rw [ags_len] at hc
  simp only [firstT_map, Option.some.injEq, Prod.mk.injEq] at h
  obtain ⟨rfl, rfl⟩ := h
  refine is.go hm hΓ k_IndexT o_IndexT (by simp [a_IndexT]) ?_
  simp only [a_IndexT, ags_len, List.zipIdx_cons, List.zipIdx_nil, ↓SP, SQ, Gam.add, stepM, callC, argC, lendO, nmBy, nmC, likeL, likeB, plainOb, offs, exL, X, F, trP, trO, stepD, stepW, newA, SV.tr, SV.trL, fz, allP, Ob.tr, loadA, cellsA, SV.cells, binA, binI, eqOut, isSl, isPt, natOf, callee, snap, SV.refsL, SV.refs, thaw, fzAll, loA, hiA, elemOf, partsA, buildA, putCells, ↓reduceIte, reduceCtorEq, okCell, Nat.reduceAdd, Nat.reduceEqDiff, Nat.reduceSub, Nat.reduceMul, Nat.reduceLeDiff, Nat.reduceLT, Nat.reduceBEq, PV.scal, PV.scalL, SV.scal, SV.scalL, Ob.scal, PV.isCell, pure', resO]
  refine loop_at (fun s : Nat × SV × SV × SV => mkEnv [(0, .p (.sl 3 (ags l))), (1, .p (.agg [.int .i64 a, .int .i64 b, .int .i64 c])), (3, .bx 3 0), (4, si 0), (5, s.2.1), (7, si l.length), (8, si s.1), (9, s.2.2.1), (16, s.2.2.2)]) (fun s => mkO [(3, some (.box [si a, si b, si c]))]) (fun s => s.1 ≤ l.length ∧ ∀ j, j < s.1 → l.getD j [] ≠ [a, b, c]) (fun s => l.length - s.1) (0, .junk, .junk, .junk) (by simp) rfl rfl ?_
  rintro ⟨i, c1, c2, c3⟩ ⟨hi, hp⟩ R hR hN
  simp only at hi hp
  have hbl : (l.map fun x => decide (x = [a, b, c])).length = l.length := by simp
  have hbg : ∀ j, j < l.length → (l.map fun x => decide (x = [a, b, c])).getD j false = decide (l.getD j [] = [a, b, c]) := fun j hj => by
    rw [getD_lt (by simpa using hj), getD_lt hj]; simp
  by_cases h : i < l.length
  · have h1 : (i : Int) < l.length := by omega
    have hw := wrap_one (i := i) (by omega)
    have hg := ags_get h
    have h3 := al3_get hl3 h
    have hk := keyEq_i3 a b c h3
    have hlen3 : (ints (l.getD i [])).length = 3 := by rw [ints_len, h3]
    have htk : (ints (l.getD i [])).take 3 = ints (l.getD i []) := List.take_of_length_le (by omega)
    by_cases hb : l.getD i [] = [a, b, c]
    · have hf := firstT_some (bs := l.map fun x => decide (x = [a, b, c])) (i := i) (by omega) (fun j hj => by rw [hbg j (by omega)]; exact dec_f (hp j hj)) (by rw [hbg i h]; exact dec_t hb)
      rw [dec_t hb] at hk
      simp only [h1, hw, hg, hk, hlen3, htk, hf, binA, keyA, ints_isInt, PV.isInt, PV.cells, List.all_cons, List.all_nil, Bool.and_self, ↓SP, SQ, Gam.add, stepM, callC, argC, lendO, nmBy, nmC, likeL, likeB, plainOb, offs, exL, X, F, trP, trO, stepD, stepW, newA, SV.tr, SV.trL, fz, allP, Ob.tr, loadA, cellsA, SV.cells, binA, binI, eqOut, isSl, isPt, natOf, callee, snap, SV.refsL, SV.refs, thaw, fzAll, loA, hiA, elemOf, partsA, buildA, putCells, ↓reduceIte, reduceCtorEq, okCell, Nat.reduceAdd, Nat.reduceEqDiff, Nat.reduceSub, Nat.reduceMul, Nat.reduceLeDiff, Nat.reduceLT, Nat.reduceBEq, PV.scal, PV.scalL, SV.scal, SV.scalL, Ob.scal, PV.isCell, pure', resO]
      refine hR _ _ _ (by intro h; cases h) ?_
      simp only [↓SP, SQ, Gam.add, stepM, callC, argC, lendO, nmBy, nmC, likeL, likeB, plainOb, offs, exL, X, F, trP, trO, stepD, stepW, newA, SV.tr, SV.trL, fz, allP, Ob.tr, loadA, cellsA, SV.cells, binA, binI, eqOut, isSl, isPt, natOf, callee, snap, SV.refsL, SV.refs, thaw, fzAll, loA, hiA, elemOf, partsA, buildA, putCells, ↓reduceIte, reduceCtorEq, okCell, Nat.reduceAdd, Nat.reduceEqDiff, Nat.reduceSub, Nat.reduceMul, Nat.reduceLeDiff, Nat.reduceLT, Nat.reduceBEq, PV.scal, PV.scalL, SV.scal, SV.scalL, Ob.scal, PV.isCell, pure', resO]
      exact finA_val (by simp [hf, retA, rvA, mkE_cons, mk_nil, mkO_cons, mkO_nil, loadA, SV.tr, SV.trL, nmF, rn_nil, rn_cons1, rn_cons2, plainOb, SV.refsL, SV.refs, Ob.refs, X, F, List.range_succ, mkO, setO_mk]) (by simp [SV.tr, SV.trL])
    · rw [dec_f hb] at hk
      simp only [h1, hw, hg, hk, hlen3, htk, binA, keyA, ints_isInt, PV.isInt, PV.cells, List.all_cons, List.all_nil, Bool.and_self, ↓SP, SQ, Gam.add, stepM, callC, argC, lendO, nmBy, nmC, likeL, likeB, plainOb, offs, exL, X, F, trP, trO, stepD, stepW, newA, SV.tr, SV.trL, fz, allP, Ob.tr, loadA, cellsA, SV.cells, binA, binI, eqOut, isSl, isPt, natOf, callee, snap, SV.refsL, SV.refs, thaw, fzAll, loA, hiA, elemOf, partsA, buildA, putCells, ↓reduceIte, reduceCtorEq, okCell, Nat.reduceAdd, Nat.reduceEqDiff, Nat.reduceSub, Nat.reduceMul, Nat.reduceLeDiff, Nat.reduceLT, Nat.reduceBEq, PV.scal, PV.scalL, SV.scal, SV.scalL, Ob.scal, PV.isCell, pure', resO]
      refine hN (i + 1, _, _, _) _ _ ⟨by simp only; omega, fun j hj => ?_⟩ (by simp only; omega) rfl rfl
      simp only at hj
      by_cases hji : j = i
      · rw [hji]; exact hb
      · exact hp j (by omega)
  · have he : i = l.length := by omega
    have h1 : ¬ (i : Int) < l.length := by omega
    have hf : firstT (l.map fun x => decide (x = [a, b, c])) = -1 := firstT_none fun j hj => by
      rw [hbl] at hj
      rw [hbg j hj]; exact dec_f (hp j (by omega))
    simp only [h1, hf, ↓SP, SQ, Gam.add, stepM, callC, argC, lendO, nmBy, nmC, likeL, likeB, plainOb, offs, exL, X, F, trP, trO, stepD, stepW, newA, SV.tr, SV.trL, fz, allP, Ob.tr, loadA, cellsA, SV.cells, binA, binI, eqOut, isSl, isPt, natOf, callee, snap, SV.refsL, SV.refs, thaw, fzAll, loA, hiA, elemOf, partsA, buildA, putCells, ↓reduceIte, reduceCtorEq, okCell, Nat.reduceAdd, Nat.reduceEqDiff, Nat.reduceSub, Nat.reduceMul, Nat.reduceLeDiff, Nat.reduceLT, Nat.reduceBEq, PV.scal, PV.scalL, SV.scal, SV.scalL, Ob.scal, PV.isCell, pure', resO]
    refine hR _ _ _ (by intro h; cases h) ?_
    simp only [↓SP, SQ, Gam.add, stepM, callC, argC, lendO, nmBy, nmC, likeL, likeB, plainOb, offs, exL, X, F, trP, trO, stepD, stepW, newA, SV.tr, SV.trL, fz, allP, Ob.tr, loadA, cellsA, SV.cells, binA, binI, eqOut, isSl, isPt, natOf, callee, snap, SV.refsL, SV.refs, thaw, fzAll, loA, hiA, elemOf, partsA, buildA, putCells, ↓reduceIte, reduceCtorEq, okCell, Nat.reduceAdd, Nat.reduceEqDiff, Nat.reduceSub, Nat.reduceMul, Nat.reduceLeDiff, Nat.reduceLT, Nat.reduceBEq, PV.scal, PV.scalL, SV.scal, SV.scalL, Ob.scal, PV.isCell, pure', resO]
    exact finA_val (by simp [hf, retA, rvA, mkE_cons, mk_nil, mkO_cons, mkO_nil, loadA, SV.tr, SV.trL, nmF, rn_nil, rn_cons1, rn_cons2, plainOb, SV.refsL, SV.refs, Ob.refs, X, F, List.range_succ, mkO, setO_mk]) (by simp [SV.tr, SV.trL])
def a_ContainsT (f_IndexT : FuncId) : AFn := ⟨2, 
  .seq (.reg [⟨some 3, none, .w (.box 3 (.t 1))⟩,
    ⟨some 4, none, .d (.mv (.c (.bool false)))⟩])
  (.seq (.reg [⟨some 5, none, .d (.mv (.t 0))⟩,
    ⟨some 6, none, .d (.load true 3 (.t 3))⟩,
    ⟨some 7, none, .d (.call (.f f_IndexT) [(.t 5), (.t 6)])⟩,
    ⟨some 8, none, .d (.bin .arith .geq (.t 7) (.c (.int .i64 0)))⟩,
    ⟨some 4, none, .d (.mv (.t 8))⟩])
  (.ret)), [.tmp 4]⟩
def n_ContainsT : Nat → Option Ann := fun _ => none
abbrev k_ContainsT : List Nat := [0, 1, 3, 4]
abbrev o_ContainsT : List Nat := [3]
def c_ContainsT : Con := pure' fun
  | [.p (.sl 3 xs), .p (.agg [.int .i64 a, .int .i64 b, .int .i64 c])] => if isG xs = true ∧ xs.length ≤ 1100000 then some (.p (.bool ((xs.map (isT [a, b, c])).any id)), []) else none
  | _ => none
theorem s_ContainsT {P : Program} (hm : P.follows .mixedOrders = true) {Γ : Gam} (hΓ : GS P Γ) {n : FuncId} {f_IndexT : FuncId} (is : Is P n (a_ContainsT f_IndexT)) (h_IndexT : Γ f_IndexT = c_IndexT)  : Says P n c_ContainsT := by
  refine Says.pure fun args r fs h => ?_
  split at h
  case h_2 => cases h
  rename_i xs a b c
  split at h
  case isFalse => cases h
  rename_i hc
  simp only [Option.some.injEq, Prod.mk.injEq] at h
  obtain ⟨rfl, rfl⟩ := h
  refine is.go hm hΓ k_ContainsT o_ContainsT (by simp [a_ContainsT]) ?_
  simp only [a_ContainsT, h_IndexT, c_IndexT, hc, firstT_any, List.zipIdx_cons, List.zipIdx_nil, ↓SP, SQ, Gam.add, stepM, callC, argC, lendO, nmBy, nmC, likeL, likeB, plainOb, offs, exL, X, F, trP, trO, stepD, stepW, newA, SV.tr, SV.trL, fz, allP, Ob.tr, loadA, cellsA, SV.cells, binA, binI, eqOut, isSl, isPt, natOf, callee, snap, SV.refsL, SV.refs, thaw, fzAll, loA, hiA, elemOf, partsA, buildA, putCells, ↓reduceIte, reduceCtorEq, okCell, Nat.reduceAdd, Nat.reduceEqDiff, Nat.reduceSub, Nat.reduceMul, Nat.reduceLeDiff, Nat.reduceLT, Nat.reduceBEq, PV.scal, PV.scalL, SV.scal, SV.scalL, Ob.scal, PV.isCell, pure', resO]
  exact finA_val (by simp [retA, rvA, mkE_cons, mk_nil, mkO_cons, mkO_nil, loadA, SV.tr, SV.trL, nmF, rn_nil, rn_cons1, rn_cons2, plainOb, SV.refsL, SV.refs, Ob.refs, X, F, List.range_succ, mkO, setO_mk]) (by simp [SV.tr, SV.trL])
end Go.Proofs.Ytihpfhdkjlphhaa.Pam
