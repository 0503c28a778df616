/- A part of the proof that stands in this folder: a small machine whose steps are shown to be the steps of the model, or walks of functions by it. No condition of its own. -/
import Derived.Test.YtnonkjcklgihhaaLJ
set_option linter.unusedVariables false
set_option linter.unusedSimpArgs false
namespace Go.Proofs.Ytnonkjcklgihhaa.Pam
open Go
/-! the answers of one who lies at a secret: how many, which -/
/-- The ways to choose i of n, one after the other. -/
def Wn (n : Nat) : Nat → Nat
  | 0 => 1
  | i + 1 => Wn n i * (n - i) / (i + 1)
/-- The ways to choose fewer than k of n. -/
def Bn (n : Nat) : Nat → Nat
  | 0 => 0
  | k + 1 => Bn n k + Wn n k
theorem Wn_le : ∀ n, n < 21 → ∀ i, i < 23 → Wn n i ≤ 200000 := by decide +kernel
theorem Bn_le : ∀ n, n < 21 → ∀ i, i < 23 → Bn n i ≤ 2000000 := by decide +kernel
theorem W_sub {n i : Nat} (h : i ≤ n) (hn : n < 21) : IntKind.i64.wrap ((n : Int) - (i : Int)) = ((n - i : Nat) : Int) := by rw [wrap64 (by omega) (by omega)]; omega
theorem W_mul {n i : Nat} (h : i ≤ n) (hn : n < 21) : IntKind.i64.wrap ((Wn n i : Int) * ((n - i : Nat) : Int)) = ((Wn n i * (n - i) : Nat) : Int) := by
  have h1 := Wn_le n hn i (by omega)
  have h2 : Wn n i * (n - i) ≤ 200000 * 21 := Nat.mul_le_mul h1 (by omega)
  rw [← Int.natCast_mul]
  exact wrap64 (by omega) (by omega)
theorem W_div {n i : Nat} (h : i ≤ n) (hn : n < 21) : IntKind.i64.wrap (((Wn n i * (n - i) : Nat) : Int).tdiv ((i + 1 : Nat) : Int)) = (Wn n (i + 1) : Int) := by
  have h1 := Wn_le n hn i (by omega)
  have h2 : Wn n i * (n - i) ≤ 200000 * 21 := Nat.mul_le_mul h1 (by omega)
  have h3 : Wn n i * (n - i) / (i + 1) ≤ Wn n i * (n - i) := Nat.div_le_self _ _
  have h4 : Wn n (i + 1) = Wn n i * (n - i) / (i + 1) := rfl
  rw [← Int.ofNat_tdiv, h4]
  generalize Wn n i * (n - i) / (i + 1) = q at *
  generalize Wn n i * (n - i) = p at *
  exact wrap64 (by omega) (by omega)
theorem B_add {n i : Nat} (h : i ≤ n) (hn : n < 21) : IntKind.i64.wrap ((Bn n i : Int) + (Wn n i : Int)) = (Bn n (i + 1) : Int) := by
  have h1 := Wn_le n hn i (by omega)
  have h2 := Bn_le n hn i (by omega)
  rw [← Int.natCast_add, wrap64 (by omega) (by omega)]
  rfl
def a_ways : AFn := ⟨2, 
  .seq (.reg [⟨some 4, none, .d (.mv (.c (.int .i64 0)))⟩])
  (.seq (.reg [⟨some 5, none, .d (.mv (.c (.int .i64 1)))⟩])
  (.seq (.seq (.reg [⟨some 7, none, .d (.mv (.t 1))⟩,
    ⟨some 8, none, .d (.mv (.c (.int .i64 0)))⟩])
  (.block 0 (.loop (.seq (.reg [⟨some 9, none, .d (.bin .arith .lss (.t 8) (.t 7))⟩])
    (.seq (.cond (.t 9) (.skip) (.exit 0))
    (.seq (.block 1 (.seq (.reg [⟨some 10, none, .d (.mv (.t 8))⟩,
       ⟨some 6, none, .d (.mv (.t 10))⟩])
     (.reg [⟨some 11, none, .d (.mv (.t 5))⟩,
       ⟨some 12, none, .d (.mv (.t 0))⟩,
       ⟨some 13, none, .d (.mv (.t 6))⟩,
       ⟨some 14, none, .d (.bin .arith .sub (.t 12) (.t 13))⟩,
       ⟨some 15, none, .d (.bin .arith .mul (.t 11) (.t 14))⟩,
       ⟨some 16, none, .d (.mv (.t 6))⟩,
       ⟨some 17, none, .d (.bin .arith .add (.t 16) (.c (.int .i64 1)))⟩,
       ⟨some 18, none, .d (.bin .arith .quo (.t 15) (.t 17))⟩,
       ⟨some 5, none, .d (.mv (.t 18))⟩])))
    (.reg [⟨some 19, none, .d (.bin .arith .add (.t 8) (.c (.int .i64 1)))⟩,
      ⟨some 8, none, .d (.mv (.t 19))⟩])))))))
  (.seq (.reg [⟨some 20, none, .d (.mv (.t 5))⟩,
    ⟨some 4, none, .d (.mv (.t 20))⟩])
  (.ret)))), [.tmp 4]⟩
def n_ways : Nat → Option Ann := fun _ => none
abbrev k_ways : List Nat := [0, 1, 4, 5, 6, 7, 8, 9]
abbrev o_ways : List Nat := []
def c_ways : Con := pure' fun
  | [.p (.int .i64 n), .p (.int .i64 r)] => if (0 ≤ n ∧ n ≤ 20 ∧ 0 ≤ r ∧ r ≤ n) then some (.p (.int .i64 (Wn n.toNat r.toNat : Int)), []) else none
  | _ => none
theorem s_ways {P : Program} (hm : P.follows .mixedOrders = true) {Γ : Gam} (hΓ : GS P Γ) {n : FuncId} (is : Is P n a_ways)  : Says P n c_ways := by
  refine Says.pure fun args r fs h => ?_
  split at h
  case h_2 => cases h
  rename_i n r
  split at h
  case isFalse => cases h
  rename_i hc
  simp only [ofI_ints, ofBo_bools, ofAs_asks, Option.some.injEq, Prod.mk.injEq] at h hc
  obtain ⟨rfl, rfl⟩ := h
  obtain ⟨h0, h1, h2, h3⟩ := hc
  obtain ⟨n, rfl⟩ : ∃ j : Nat, n = j := ⟨n.toNat, by omega⟩
  obtain ⟨r, rfl⟩ : ∃ j : Nat, r = j := ⟨r.toNat, by omega⟩
  simp only [Int.toNat_natCast]
  refine is.go hm hΓ k_ways o_ways (by simp [a_ways]) ?_
  simp only [a_ways, List.zipIdx_cons, List.zipIdx_nil, ↓SP, SQ, Gam.add, stepM, callC, argC, lendO, nmBy, nmC, likeL, likeB, plainOb, offs, X, F, trP, trO, stepD, stepW, newA, SV.tr, SV.trL, fz, allP, Ob.tr, loadA, cellsA, SV.cells, binA, binI, eqOut, isSl, isPt, natOf, callee, snap, SV.refsL, SV.refs, thaw, fzAll, loA, hiA, elemOf, partsA, buildA, putCells, ↓reduceIte, reduceCtorEq, okCell, Nat.reduceAdd, Nat.reduceEqDiff, Nat.reduceSub, Nat.reduceMul, Nat.reduceLeDiff, Nat.reduceLT, Nat.reduceBEq, PV.scal, PV.scalL, SV.scal, SV.scalL, Ob.scal, PV.isCell, pure', resO]
  refine loop_at (fun s : Nat × SV × SV => mkEnv [(0, si n), (1, si r), (4, si 0), (5, si (Wn n s.1)), (6, s.2.1), (7, si r), (8, si s.1), (9, s.2.2)]) (fun s => mkO []) (fun s => s.1 ≤ r) (fun s => r - s.1) (0, .junk, .junk) (by simp) rfl rfl ?_
  rintro ⟨i, c1, c2⟩ hi R hR hN
  simp only at hi
  by_cases h : i < r
  · have h1' : (i : Int) < r := by omega
    have hw := wrap_one (i := i) (by omega)
    have hz : ¬ ((i + 1 : Nat) : Int) = 0 := by omega
    simp only [h1', hw, W_sub (show i ≤ n by omega) (by omega), W_mul (show i ≤ n by omega) (by omega), W_div (show i ≤ n by omega) (by omega), hz, ↓SP, SQ, Gam.add, stepM, callC, argC, lendO, nmBy, nmC, likeL, likeB, plainOb, offs, X, F, trP, trO, stepD, stepW, newA, SV.tr, SV.trL, fz, allP, Ob.tr, loadA, cellsA, SV.cells, binA, binI, eqOut, isSl, isPt, natOf, callee, snap, SV.refsL, SV.refs, thaw, fzAll, loA, hiA, elemOf, partsA, buildA, putCells, ↓reduceIte, reduceCtorEq, okCell, Nat.reduceAdd, Nat.reduceEqDiff, Nat.reduceSub, Nat.reduceMul, Nat.reduceLeDiff, Nat.reduceLT, Nat.reduceBEq, PV.scal, PV.scalL, SV.scal, SV.scalL, Ob.scal, PV.isCell, pure', resO]
    exact hN (i + 1, _, _) _ _ (by simp only; omega) (by simp only; omega) rfl rfl
  · have he : i = r := by omega
    have h1' : ¬ (i : Int) < r := by omega
    simp only [h1', ↓SP, SQ, Gam.add, stepM, callC, argC, lendO, nmBy, nmC, likeL, likeB, plainOb, offs, X, F, trP, trO, stepD, stepW, newA, SV.tr, SV.trL, fz, allP, Ob.tr, loadA, cellsA, SV.cells, binA, binI, eqOut, isSl, isPt, natOf, callee, snap, SV.refsL, SV.refs, thaw, fzAll, loA, hiA, elemOf, partsA, buildA, putCells, ↓reduceIte, reduceCtorEq, okCell, Nat.reduceAdd, Nat.reduceEqDiff, Nat.reduceSub, Nat.reduceMul, Nat.reduceLeDiff, Nat.reduceLT, Nat.reduceBEq, PV.scal, PV.scalL, SV.scal, SV.scalL, Ob.scal, PV.isCell, pure', resO]
    refine hR _ _ _ (by intro h; cases h) ?_
    simp only [↓SP, SQ, Gam.add, stepM, callC, argC, lendO, nmBy, nmC, likeL, likeB, plainOb, offs, X, F, trP, trO, stepD, stepW, newA, SV.tr, SV.trL, fz, allP, Ob.tr, loadA, cellsA, SV.cells, binA, binI, eqOut, isSl, isPt, natOf, callee, snap, SV.refsL, SV.refs, thaw, fzAll, loA, hiA, elemOf, partsA, buildA, putCells, ↓reduceIte, reduceCtorEq, okCell, Nat.reduceAdd, Nat.reduceEqDiff, Nat.reduceSub, Nat.reduceMul, Nat.reduceLeDiff, Nat.reduceLT, Nat.reduceBEq, PV.scal, PV.scalL, SV.scal, SV.scalL, Ob.scal, PV.isCell, pure', resO]
    subst he
    exact finA_val (by simp [retA, rvA, List.mapM_cons, List.mapM_nil, Option.pure_def, Option.bind_eq_bind, Option.bind_some, Option.map_some, mkE_cons, mk_nil, mkO_cons, mkO_nil, loadA, ↓reduceIte, List.take_succ_cons, List.take_zero, List.drop_zero, List.drop_succ_cons, List.length_cons, List.length_nil, Nat.reduceAdd, Nat.reduceEqDiff, Nat.reduceLeDiff, Nat.zero_add, Nat.le_refl, reduceCtorEq, SV.tr, SV.trL, nmF, rn_nil, rn_cons1, rn_cons2, List.map_cons, List.map_nil, List.all_cons, List.all_nil, plainOb, SV.refsL, SV.refs, Ob.refs, X, F, List.range_succ, List.range_zero, List.nil_append, List.cons_append, List.isEmpty_nil, decide_true, Nat.reduceLT, Bool.and_self, Bool.and_true, and_self, and_true, List.getElem?_cons_zero, List.getElem?_cons_succ, List.nodup_cons, List.nodup_nil, List.mem_cons, List.not_mem_nil, not_false_eq_true, or_false, List.append_nil, mkO, setO_mk, List.mem_singleton]) (by simp [SV.tr, SV.trL])
def a_ball (f_ways : FuncId) : AFn := ⟨2, 
  .seq (.reg [⟨some 4, none, .d (.mv (.c (.int .i64 0)))⟩])
  (.seq (.reg [⟨some 5, none, .d (.mv (.c (.int .i64 0)))⟩])
  (.seq (.seq (.reg [⟨some 7, none, .d (.mv (.t 0))⟩,
    ⟨some 8, none, .d (.mv (.t 1))⟩,
    ⟨some 9, none, .d (.min2 (.t 7) (.t 8))⟩,
    ⟨some 10, none, .d (.bin .arith .add (.t 9) (.c (.int .i64 1)))⟩,
    ⟨some 11, none, .d (.mv (.c (.int .i64 0)))⟩])
  (.block 0 (.loop (.seq (.reg [⟨some 12, none, .d (.bin .arith .lss (.t 11) (.t 10))⟩])
    (.seq (.cond (.t 12) (.skip) (.exit 0))
    (.seq (.block 1 (.seq (.reg [⟨some 13, none, .d (.mv (.t 11))⟩,
       ⟨some 6, none, .d (.mv (.t 13))⟩])
     (.reg [⟨some 14, none, .d (.mv (.t 5))⟩,
       ⟨some 15, none, .d (.mv (.t 0))⟩,
       ⟨some 16, none, .d (.mv (.t 6))⟩,
       ⟨some 17, none, .d (.call (.f f_ways) [(.t 15), (.t 16)])⟩,
       ⟨some 18, none, .d (.bin .arith .add (.t 14) (.t 17))⟩,
       ⟨some 5, none, .d (.mv (.t 18))⟩])))
    (.reg [⟨some 19, none, .d (.bin .arith .add (.t 11) (.c (.int .i64 1)))⟩,
      ⟨some 11, none, .d (.mv (.t 19))⟩])))))))
  (.seq (.reg [⟨some 20, none, .d (.mv (.t 5))⟩,
    ⟨some 4, none, .d (.mv (.t 20))⟩])
  (.ret)))), [.tmp 4]⟩
def n_ball : Nat → Option Ann := fun _ => none
abbrev k_ball : List Nat := [0, 1, 4, 5, 6, 10, 11, 12]
abbrev o_ball : List Nat := []
def c_ball : Con := pure' fun
  | [.p (.int .i64 n), .p (.int .i64 k)] => if (0 ≤ n ∧ n ≤ 20 ∧ 0 ≤ k ∧ k ≤ 1100000) then some (.p (.int .i64 (Bn n.toNat (min n.toNat k.toNat + 1) : Int)), []) else none
  | _ => none
theorem s_ball {P : Program} (hm : P.follows .mixedOrders = true) {Γ : Gam} (hΓ : GS P Γ) {n : FuncId} {f_ways : FuncId} (is : Is P n (a_ball f_ways)) (h_ways : Γ f_ways = c_ways)  : Says P n c_ball := by
  refine Says.pure fun args r fs h => ?_
  split at h
  case h_2 => cases h
  rename_i n k
  split at h
  case isFalse => cases h
  rename_i hc
  simp only [ofI_ints, ofBo_bools, ofAs_asks, Option.some.injEq, Prod.mk.injEq] at h hc
  obtain ⟨rfl, rfl⟩ := h
  obtain ⟨h0, h1, h2, h3⟩ := hc
  obtain ⟨n, rfl⟩ : ∃ j : Nat, n = j := ⟨n.toNat, by omega⟩
  obtain ⟨k, rfl⟩ : ∃ j : Nat, k = j := ⟨k.toNat, by omega⟩
  simp only [Int.toNat_natCast]
  generalize hr : min n k = r
  have hmin : (if (k : Int) < (n : Int) then (k : Int) else (n : Int)) = (r : Int) := by split <;> omega
  have hwr := wrap_one (i := r) (by omega)
  refine is.go hm hΓ k_ball o_ball (by simp [a_ball]) ?_
  simp only [a_ball, h_ways, c_ways, hmin, hwr, List.zipIdx_cons, List.zipIdx_nil, ↓SP, SQ, Gam.add, stepM, callC, argC, lendO, nmBy, nmC, likeL, likeB, plainOb, offs, X, F, trP, trO, stepD, stepW, newA, SV.tr, SV.trL, fz, allP, Ob.tr, loadA, cellsA, SV.cells, binA, binI, eqOut, isSl, isPt, natOf, callee, snap, SV.refsL, SV.refs, thaw, fzAll, loA, hiA, elemOf, partsA, buildA, putCells, ↓reduceIte, reduceCtorEq, okCell, Nat.reduceAdd, Nat.reduceEqDiff, Nat.reduceSub, Nat.reduceMul, Nat.reduceLeDiff, Nat.reduceLT, Nat.reduceBEq, PV.scal, PV.scalL, SV.scal, SV.scalL, Ob.scal, PV.isCell, pure', resO]
  refine loop_at (fun s : Nat × SV × SV => mkEnv [(0, si n), (1, si k), (4, si 0), (5, si (Bn n s.1)), (6, s.2.1), (10, si ((r + 1 : Nat) : Int)), (11, si s.1), (12, s.2.2)]) (fun s => mkO []) (fun s => s.1 ≤ r + 1) (fun s => r + 1 - s.1) (0, .junk, .junk) (by simp) rfl rfl ?_
  rintro ⟨i, c1, c2⟩ hi R hR hN
  simp only at hi
  by_cases h : i < r + 1
  · have h1' : (i : Int) < ((r + 1 : Nat) : Int) := by omega
    have hw := wrap_one (i := i) (by omega)
    have g0 : (0 : Int) ≤ n := by omega
    have g1 : (n : Int) ≤ 20 := by omega
    have g2 : (0 : Int) ≤ i := by omega
    have g3 : (i : Int) ≤ n := by omega
    simp only [h1', hw, g0, g1, g2, g3, h_ways, c_ways, Int.toNat_natCast, B_add (show i ≤ n by omega) (by omega), ↓SP, SQ, Gam.add, stepM, callC, argC, lendO, nmBy, nmC, likeL, likeB, plainOb, offs, X, F, trP, trO, stepD, stepW, newA, SV.tr, SV.trL, fz, allP, Ob.tr, loadA, cellsA, SV.cells, binA, binI, eqOut, isSl, isPt, natOf, callee, snap, SV.refsL, SV.refs, thaw, fzAll, loA, hiA, elemOf, partsA, buildA, putCells, ↓reduceIte, reduceCtorEq, okCell, Nat.reduceAdd, Nat.reduceEqDiff, Nat.reduceSub, Nat.reduceMul, Nat.reduceLeDiff, Nat.reduceLT, Nat.reduceBEq, PV.scal, PV.scalL, SV.scal, SV.scalL, Ob.scal, PV.isCell, pure', resO]
    exact hN (i + 1, _, _) _ _ (by simp only; omega) (by simp only; omega) rfl rfl
  · have he : i = r + 1 := by omega
    have h1' : ¬ (i : Int) < ((r + 1 : Nat) : Int) := by omega
    simp only [h1', ↓SP, SQ, Gam.add, stepM, callC, argC, lendO, nmBy, nmC, likeL, likeB, plainOb, offs, X, F, trP, trO, stepD, stepW, newA, SV.tr, SV.trL, fz, allP, Ob.tr, loadA, cellsA, SV.cells, binA, binI, eqOut, isSl, isPt, natOf, callee, snap, SV.refsL, SV.refs, thaw, fzAll, loA, hiA, elemOf, partsA, buildA, putCells, ↓reduceIte, reduceCtorEq, okCell, Nat.reduceAdd, Nat.reduceEqDiff, Nat.reduceSub, Nat.reduceMul, Nat.reduceLeDiff, Nat.reduceLT, Nat.reduceBEq, PV.scal, PV.scalL, SV.scal, SV.scalL, Ob.scal, PV.isCell, pure', resO]
    refine hR _ _ _ (by intro h; cases h) ?_
    simp only [↓SP, SQ, Gam.add, stepM, callC, argC, lendO, nmBy, nmC, likeL, likeB, plainOb, offs, X, F, trP, trO, stepD, stepW, newA, SV.tr, SV.trL, fz, allP, Ob.tr, loadA, cellsA, SV.cells, binA, binI, eqOut, isSl, isPt, natOf, callee, snap, SV.refsL, SV.refs, thaw, fzAll, loA, hiA, elemOf, partsA, buildA, putCells, ↓reduceIte, reduceCtorEq, okCell, Nat.reduceAdd, Nat.reduceEqDiff, Nat.reduceSub, Nat.reduceMul, Nat.reduceLeDiff, Nat.reduceLT, Nat.reduceBEq, PV.scal, PV.scalL, SV.scal, SV.scalL, Ob.scal, PV.isCell, pure', resO]
    subst he
    exact finA_val (by simp [retA, rvA, List.mapM_cons, List.mapM_nil, Option.pure_def, Option.bind_eq_bind, Option.bind_some, Option.map_some, mkE_cons, mk_nil, mkO_cons, mkO_nil, loadA, ↓reduceIte, List.take_succ_cons, List.take_zero, List.drop_zero, List.drop_succ_cons, List.length_cons, List.length_nil, Nat.reduceAdd, Nat.reduceEqDiff, Nat.reduceLeDiff, Nat.zero_add, Nat.le_refl, reduceCtorEq, SV.tr, SV.trL, nmF, rn_nil, rn_cons1, rn_cons2, List.map_cons, List.map_nil, List.all_cons, List.all_nil, plainOb, SV.refsL, SV.refs, Ob.refs, X, F, List.range_succ, List.range_zero, List.nil_append, List.cons_append, List.isEmpty_nil, decide_true, Nat.reduceLT, Bool.and_self, Bool.and_true, and_self, and_true, List.getElem?_cons_zero, List.getElem?_cons_succ, List.nodup_cons, List.nodup_nil, List.mem_cons, List.not_mem_nil, not_false_eq_true, or_false, List.append_nil, mkO, setO_mk, List.mem_singleton]) (by simp [SV.tr, SV.trL])
/-- How many answers a number can have told. -/
def wtN (x : List Int) (m : Int) (k : Nat) (n : Nat) : Int := (Bn n (min n (m - x.getD k 0).toNat + 1) : Int)
def a_weight (f_ball : FuncId) : AFn := ⟨3, 
  .seq (.reg [⟨some 3, none, .w (.box 2 (.t 0))⟩,
    ⟨some 6, none, .d (.mv (.c (.int .i64 0)))⟩])
  (.seq (.seq (.reg [⟨some 7, none, .d (.fa 0 (.t 3))⟩,
    ⟨some 8, none, .d (.load false 1 (.t 7))⟩,
    ⟨some 9, none, .d (.mv (.t 1))⟩,
    ⟨some 10, none, .d (.ia 1 (.t 8) (.t 9))⟩,
    ⟨some 11, none, .d (.load false 1 (.t 10))⟩,
    ⟨some 12, none, .d (.bin .arith .lss (.t 11) (.c (.int .i64 0)))⟩])
  (.cond (.t 12) (.seq (.reg [⟨some 6, none, .d (.mv (.c (.int .i64 0)))⟩])
   (.ret)) (.skip)))
  (.seq (.dreg [] [([], ⟨some 13, none, .d (.mv (.t 2))⟩),
    ([], ⟨some 14, none, .d (.fa 1 (.t 3))⟩),
    ([], ⟨some 15, none, .d (.load false 1 (.t 14))⟩),
    ([], ⟨some 16, none, .d (.fa 0 (.t 3))⟩),
    ([], ⟨some 17, none, .d (.load false 1 (.t 16))⟩),
    ([], ⟨some 18, none, .d (.mv (.t 1))⟩),
    ([], ⟨some 19, none, .d (.ia 1 (.t 17) (.t 18))⟩),
    ([], ⟨some 20, none, .d (.load false 1 (.t 19))⟩),
    ([], ⟨some 21, none, .d (.bin .arith .sub (.t 15) (.t 20))⟩)] [⟨some 22, none, .d (.call (.f f_ball) [(.t 13), (.t 21)])⟩,
    ⟨some 6, none, .d (.mv (.t 22))⟩])
  (.ret))), [.tmp 6]⟩
def n_weight : Nat → Option Ann := fun _ => none
abbrev k_weight : List Nat := [0, 1, 2, 3, 6, 12]
abbrev o_weight : List Nat := [3]
def c_weight : Con := pure' fun
  | [.p (.agg [.sl 1 x_, .int .i64 m]), .p (.int .i64 k), .p (.int .i64 n)] => if isI x_ = true ∧ ((ofI x_).length ≤ 1100000 ∧ 0 ≤ k ∧ k < (ofI x_).length ∧ 0 ≤ n ∧ n ≤ 20 ∧ (ofI x_).getD k.toNat 0 ≤ m ∧ m ≤ 1000) then some (.p (.int .i64 (if (ofI x_).getD k.toNat 0 < 0 then 0 else wtN (ofI x_) m k.toNat n.toNat)), []) else none
  | _ => none
theorem s_weight {P : Program} (hm : P.follows .mixedOrders = true) {Γ : Gam} (hΓ : GS P Γ) {n : FuncId} {f_ball : FuncId} (is : Is P n (a_weight f_ball)) (h_ball : Γ f_ball = c_ball)  : Says P n c_weight := by
  refine Says.pure fun args r fs h => ?_
  split at h
  case h_2 => cases h
  rename_i x_ m k n
  split at h
  case isFalse => cases h
  rename_i hc
  obtain ⟨hx_, hc⟩ := hc
  obtain ⟨x, rfl⟩ := isI_out hx_
  simp only [ofI_ints, ofBo_bools, ofAs_asks, Option.some.injEq, Prod.mk.injEq] at h hc
  obtain ⟨rfl, rfl⟩ := h
  obtain ⟨h0, h1, h2, h3, h4, h5, h6⟩ := hc
  obtain ⟨n, rfl⟩ : ∃ j : Nat, n = j := ⟨n.toNat, by omega⟩
  obtain ⟨k, rfl⟩ : ∃ j : Nat, k = j := ⟨k.toNat, by omega⟩
  simp only [Int.toNat_natCast] at h5 ⊢
  have hk : k < x.length := by omega
  have hg := ints_get hk
  by_cases hx : x.getD k 0 < 0
  · refine is.go hm hΓ k_weight o_weight (by simp [a_weight]) ?_
    simp only [a_weight, h_ball, c_ball, hg, hk, hx, List.zipIdx_cons, List.zipIdx_nil, ↓SP, SQ, Gam.add, stepM, callC, argC, lendO, nmBy, nmC, likeL, likeB, plainOb, offs, X, F, trP, trO, stepD, stepW, newA, SV.tr, SV.trL, fz, allP, Ob.tr, loadA, cellsA, SV.cells, binA, binI, eqOut, isSl, isPt, natOf, callee, snap, SV.refsL, SV.refs, thaw, fzAll, loA, hiA, elemOf, partsA, buildA, putCells, ↓reduceIte, reduceCtorEq, okCell, Nat.reduceAdd, Nat.reduceEqDiff, Nat.reduceSub, Nat.reduceMul, Nat.reduceLeDiff, Nat.reduceLT, Nat.reduceBEq, PV.scal, PV.scalL, SV.scal, SV.scalL, Ob.scal, PV.isCell, pure', resO]
    exact finA_val (by simp [retA, rvA, List.mapM_cons, List.mapM_nil, Option.pure_def, Option.bind_eq_bind, Option.bind_some, Option.map_some, mkE_cons, mk_nil, mkO_cons, mkO_nil, loadA, ↓reduceIte, List.take_succ_cons, List.take_zero, List.drop_zero, List.drop_succ_cons, List.length_cons, List.length_nil, Nat.reduceAdd, Nat.reduceEqDiff, Nat.reduceLeDiff, Nat.zero_add, Nat.le_refl, reduceCtorEq, SV.tr, SV.trL, nmF, rn_nil, rn_cons1, rn_cons2, List.map_cons, List.map_nil, List.all_cons, List.all_nil, plainOb, SV.refsL, SV.refs, Ob.refs, X, F, List.range_succ, List.range_zero, List.nil_append, List.cons_append, List.isEmpty_nil, decide_true, Nat.reduceLT, Bool.and_self, Bool.and_true, and_self, and_true, List.getElem?_cons_zero, List.getElem?_cons_succ, List.nodup_cons, List.nodup_nil, List.mem_cons, List.not_mem_nil, not_false_eq_true, or_false, List.append_nil, mkO, setO_mk, List.mem_singleton]) (by simp [SV.tr, SV.trL])
  · have hw : IntKind.i64.wrap (m - x.getD k 0) = m - x.getD k 0 := wrap64 (by omega) (by omega)
    have g0 : (0 : Int) ≤ n := by omega
    have g1 : (n : Int) ≤ 20 := by omega
    have g2 : 0 ≤ m - x.getD k 0 := by omega
    have g3 : m - x.getD k 0 ≤ 1100000 := by omega
    refine is.go hm hΓ k_weight o_weight (by simp [a_weight]) ?_
    simp only [a_weight, h_ball, c_ball, hg, hk, hx, hw, g0, g1, g2, g3, Int.toNat_natCast, List.zipIdx_cons, List.zipIdx_nil, ↓SP, SQ, Gam.add, stepM, callC, argC, lendO, nmBy, nmC, likeL, likeB, plainOb, offs, X, F, trP, trO, stepD, stepW, newA, SV.tr, SV.trL, fz, allP, Ob.tr, loadA, cellsA, SV.cells, binA, binI, eqOut, isSl, isPt, natOf, callee, snap, SV.refsL, SV.refs, thaw, fzAll, loA, hiA, elemOf, partsA, buildA, putCells, ↓reduceIte, reduceCtorEq, okCell, Nat.reduceAdd, Nat.reduceEqDiff, Nat.reduceSub, Nat.reduceMul, Nat.reduceLeDiff, Nat.reduceLT, Nat.reduceBEq, PV.scal, PV.scalL, SV.scal, SV.scalL, Ob.scal, PV.isCell, pure', resO]
    exact finA_val (by simp [wtN, retA, rvA, List.mapM_cons, List.mapM_nil, Option.pure_def, Option.bind_eq_bind, Option.bind_some, Option.map_some, mkE_cons, mk_nil, mkO_cons, mkO_nil, loadA, ↓reduceIte, List.take_succ_cons, List.take_zero, List.drop_zero, List.drop_succ_cons, List.length_cons, List.length_nil, Nat.reduceAdd, Nat.reduceEqDiff, Nat.reduceLeDiff, Nat.zero_add, Nat.le_refl, reduceCtorEq, SV.tr, SV.trL, nmF, rn_nil, rn_cons1, rn_cons2, List.map_cons, List.map_nil, List.all_cons, List.all_nil, plainOb, SV.refsL, SV.refs, Ob.refs, X, F, List.range_succ, List.range_zero, List.nil_append, List.cons_append, List.isEmpty_nil, decide_true, Nat.reduceLT, Bool.and_self, Bool.and_true, and_self, and_true, List.getElem?_cons_zero, List.getElem?_cons_succ, List.nodup_cons, List.nodup_nil, List.mem_cons, List.not_mem_nil, not_false_eq_true, or_false, List.append_nil, mkO, setO_mk, List.mem_singleton]) (by simp [SV.tr, SV.trL])
theorem isSt_all {x : List Int} {m : Int} (h : isSt x m = true) {k : Nat} (hk : k < x.length) : -1 ≤ x.getD k 0 ∧ x.getD k 0 ≤ m ∧ 0 ≤ m ∧ m ≤ 2 ∧ x.length ≤ 12 := by
  simp only [isSt, Bool.and_eq_true, List.all_eq_true, decide_eq_true_eq] at h
  have := h.2 (x.getD k 0) (by rw [getD_lt hk]; exact List.getElem_mem hk)
  omega
theorem isL_st {x : List Int} {m : Int} {l : List Int} (h : isL x m l = true) : isSt x m = true ∧ l.length ≤ 8 := by
  simp only [isL, Bool.and_eq_true, decide_eq_true_eq] at h
  exact ⟨h.1.1, by omega⟩
theorem opn_out {x : List Int} {k : Int} (h : opn x k = true) : 0 ≤ k ∧ k < x.length ∧ 0 ≤ x.getD k.toNat 0 := by
  simp only [opn, Bool.and_eq_true, decide_eq_true_eq] at h
  omega
def a_CountSecretAnswers (f_areListed : FuncId) (f_isOpen : FuncId) (f_weight : FuncId) : AFn := ⟨3, 
  .seq (.reg [⟨some 3, none, .w (.box 2 (.t 0))⟩,
    ⟨some 6, none, .d (.mv (.c (.int .i64 0)))⟩,
    ⟨some 7, none, .d (.mv (.c (.bool false)))⟩])
  (.seq (.seq (.reg [⟨some 8, none, .d (.load true 2 (.t 3))⟩,
    ⟨some 9, none, .d (.mv (.t 1))⟩,
    ⟨some 10, none, .d (.call (.f f_areListed) [(.t 8), (.t 9)])⟩,
    ⟨some 11, none, .d (.not (.t 10))⟩,
    ⟨some 12, none, .d (.mv (.t 11))⟩,
    ⟨some 13, some (12, false), .d (.load true 2 (.t 3))⟩,
    ⟨some 14, some (12, false), .d (.mv (.t 2))⟩,
    ⟨some 15, some (12, false), .d (.call (.f f_isOpen) [(.t 13), (.t 14)])⟩,
    ⟨some 16, some (12, false), .d (.not (.t 15))⟩,
    ⟨some 17, none, .d (.pick (.t 12) (.c (.bool true)) (.t 16))⟩])
  (.cond (.t 17) (.seq (.reg [⟨some 6, none, .d (.mv (.c (.int .i64 0)))⟩,
     ⟨some 7, none, .d (.mv (.c (.bool false)))⟩])
   (.ret)) (.skip)))
  (.seq (.reg [⟨some 18, none, .d (.load true 2 (.t 3))⟩,
    ⟨some 19, none, .d (.mv (.t 2))⟩,
    ⟨some 20, none, .d (.mv (.t 1))⟩,
    ⟨some 21, none, .d (.len (.t 20))⟩,
    ⟨some 22, none, .d (.call (.f f_weight) [(.t 18), (.t 19), (.t 21)])⟩,
    ⟨some 6, none, .d (.mv (.t 22))⟩,
    ⟨some 7, none, .d (.mv (.c (.bool true)))⟩])
  (.ret))), [.tmp 6, .tmp 7]⟩
def n_CountSecretAnswers : Nat → Option Ann := fun _ => none
abbrev k_CountSecretAnswers : List Nat := [0, 1, 2, 3, 6, 7, 17]
abbrev o_CountSecretAnswers : List Nat := [3]
def a_s_CountSecretAnswers (f_l8Secret : FuncId) : AFn := ⟨3, 
  .seq (.reg [⟨some 3, none, .w (.box 2 (.t 0))⟩,
    ⟨some 6, none, .d (.mv (.c (.int .i64 0)))⟩,
    ⟨some 7, none, .d (.mv (.c (.bool false)))⟩])
  (.seq (.seq (.reg [⟨some 11, none, .d (.load true 2 (.t 3))⟩,
    ⟨some 12, none, .d (.mv (.t 1))⟩,
    ⟨some 13, none, .d (.mv (.t 2))⟩,
    ⟨some 14, none, .d (.call (.f f_l8Secret) [(.t 11), (.t 12), (.t 13)])⟩,
    ⟨some 15, none, .d (.not (.t 14))⟩])
  (.cond (.t 15) (.seq (.reg [⟨some 6, none, .d (.mv (.c (.int .i64 0)))⟩,
     ⟨some 7, none, .d (.mv (.c (.bool false)))⟩])
   (.ret)) (.skip)))
  (.seq (.reg [⟨some 8, none, .d (.mv (.c (.int .i64 0)))⟩,
    ⟨some 9, none, .d (.mv (.c (.int .i64 1)))⟩])
  (.seq (.seq (.reg [⟨some 10, none, .d (.mv (.c (.int .i64 0)))⟩])
  (.block 0 (.loop (.seq (.seq (.dreg [] [([], ⟨some 16, none, .d (.mv (.t 10))⟩),
      ([], ⟨some 17, none, .d (.fa 1 (.t 3))⟩),
      ([], ⟨some 18, none, .d (.load false 1 (.t 17))⟩),
      ([], ⟨some 19, none, .d (.fa 0 (.t 3))⟩),
      ([], ⟨some 20, none, .d (.load false 1 (.t 19))⟩),
      ([], ⟨some 21, none, .d (.mv (.t 2))⟩),
      ([], ⟨some 22, none, .d (.ia 1 (.t 20) (.t 21))⟩),
      ([], ⟨some 23, none, .d (.load false 1 (.t 22))⟩),
      ([], ⟨some 24, none, .d (.bin .arith .sub (.t 18) (.t 23))⟩),
      ([], ⟨some 25, none, .d (.bin .arith .leq (.t 16) (.t 24))⟩),
      ([], ⟨some 26, none, .d (.mv (.t 25))⟩),
      ([], ⟨some 27, some (26, true), .d (.mv (.t 10))⟩),
      ([], ⟨some 28, some (26, true), .d (.mv (.t 1))⟩),
      ([], ⟨some 29, some (26, true), .d (.len (.t 28))⟩)] [⟨some 30, some (26, true), .d (.bin .arith .leq (.t 27) (.t 29))⟩,
      ⟨some 31, none, .d (.pick (.t 26) (.t 30) (.c (.bool false)))⟩])
    (.cond (.t 31) (.skip) (.exit 0)))
    (.seq (.block 1 (.seq (.reg [⟨some 34, none, .d (.mv (.t 8))⟩,
       ⟨some 35, none, .d (.mv (.t 9))⟩,
       ⟨some 36, none, .d (.bin .arith .add (.t 34) (.t 35))⟩,
       ⟨some 8, none, .d (.mv (.t 36))⟩])
     (.reg [⟨some 37, none, .d (.mv (.t 9))⟩,
       ⟨some 38, none, .d (.mv (.t 1))⟩,
       ⟨some 39, none, .d (.len (.t 38))⟩,
       ⟨some 40, none, .d (.mv (.t 10))⟩,
       ⟨some 41, none, .d (.bin .arith .sub (.t 39) (.t 40))⟩,
       ⟨some 42, none, .d (.bin .arith .mul (.t 37) (.t 41))⟩,
       ⟨some 43, none, .d (.mv (.t 10))⟩,
       ⟨some 44, none, .d (.bin .arith .add (.t 43) (.c (.int .i64 1)))⟩,
       ⟨some 45, none, .d (.bin .arith .quo (.t 42) (.t 44))⟩,
       ⟨some 9, none, .d (.mv (.t 45))⟩])))
    (.reg [⟨some 32, none, .d (.mv (.t 10))⟩,
      ⟨some 33, none, .d (.bin .arith .add (.t 32) (.c (.int .i64 1)))⟩,
      ⟨some 10, none, .d (.mv (.t 33))⟩]))))))
  (.seq (.reg [⟨some 46, none, .d (.mv (.t 8))⟩,
    ⟨some 6, none, .d (.mv (.t 46))⟩,
    ⟨some 7, none, .d (.mv (.c (.bool true)))⟩])
  (.ret))))), [.tmp 6, .tmp 7]⟩
def n_s_CountSecretAnswers : Nat → Option Ann := fun _ => none
abbrev k_s_CountSecretAnswers : List Nat := [0, 1, 2, 3, 6, 7, 8, 9, 10, 15, 31]
abbrev o_s_CountSecretAnswers : List Nat := [3]
def c_CountSecretAnswers : Con := pure' fun
  | [.p (.agg [.sl 1 x_, .int .i64 m]), .p (.sl 1 l_), .p (.int .i64 k)] => if isI x_ = true ∧ isI l_ = true ∧ ((ofI x_).length ≤ 1100000 ∧ (ofI l_).length ≤ 1100000) then some (.tp [.p (.int .i64 (if (isL (ofI x_) m (ofI l_) && opn (ofI x_) k) = true then wtN (ofI x_) m k.toNat (ofI l_).length else 0)), .p (.bool (isL (ofI x_) m (ofI l_) && opn (ofI x_) k))], []) else none
  | _ => none
theorem s_CountSecretAnswers {P : Program} (hm : P.follows .mixedOrders = true) {Γ : Gam} (hΓ : GS P Γ) {n : FuncId} {f_areListed : FuncId} {f_isOpen : FuncId} {f_weight : FuncId} (is : Is P n (a_CountSecretAnswers f_areListed f_isOpen f_weight)) (h_areListed : Γ f_areListed = c_areListed) (h_isOpen : Γ f_isOpen = c_isOpen) (h_weight : Γ f_weight = c_weight)  : Says P n c_CountSecretAnswers := by
  refine Says.pure fun args r fs h => ?_
  split at h
  case h_2 => cases h
  rename_i x_ m l_ k
  split at h
  case isFalse => cases h
  rename_i hc
  obtain ⟨hx_, hc⟩ := hc
  obtain ⟨x, rfl⟩ := isI_out hx_
  obtain ⟨hl_, hc⟩ := hc
  obtain ⟨l, rfl⟩ := isI_out hl_
  simp only [ofI_ints, ofBo_bools, ofAs_asks, Option.some.injEq, Prod.mk.injEq] at h hc
  obtain ⟨rfl, rfl⟩ := h
  cases hL : isL x m l with
  | false =>
    refine is.go hm hΓ k_CountSecretAnswers o_CountSecretAnswers (by simp [a_CountSecretAnswers]) ?_
    simp only [a_CountSecretAnswers, h_areListed, c_areListed, h_isOpen, c_isOpen, h_weight, c_weight, hc, hL, List.zipIdx_cons, List.zipIdx_nil, ↓SP, SQ, Gam.add, stepM, callC, argC, lendO, nmBy, nmC, likeL, likeB, plainOb, offs, X, F, trP, trO, stepD, stepW, newA, SV.tr, SV.trL, fz, allP, Ob.tr, loadA, cellsA, SV.cells, binA, binI, eqOut, isSl, isPt, natOf, callee, snap, SV.refsL, SV.refs, thaw, fzAll, loA, hiA, elemOf, partsA, buildA, putCells, ↓reduceIte, reduceCtorEq, okCell, Nat.reduceAdd, Nat.reduceEqDiff, Nat.reduceSub, Nat.reduceMul, Nat.reduceLeDiff, Nat.reduceLT, Nat.reduceBEq, PV.scal, PV.scalL, SV.scal, SV.scalL, Ob.scal, PV.isCell, pure', resO]
    exact finA_val (by simp [retA, rvA, List.mapM_cons, List.mapM_nil, Option.pure_def, Option.bind_eq_bind, Option.bind_some, Option.map_some, mkE_cons, mk_nil, mkO_cons, mkO_nil, loadA, ↓reduceIte, List.take_succ_cons, List.take_zero, List.drop_zero, List.drop_succ_cons, List.length_cons, List.length_nil, Nat.reduceAdd, Nat.reduceEqDiff, Nat.reduceLeDiff, Nat.zero_add, Nat.le_refl, reduceCtorEq, SV.tr, SV.trL, nmF, rn_nil, rn_cons1, rn_cons2, List.map_cons, List.map_nil, List.all_cons, List.all_nil, plainOb, SV.refsL, SV.refs, Ob.refs, X, F, List.range_succ, List.range_zero, List.nil_append, List.cons_append, List.isEmpty_nil, decide_true, Nat.reduceLT, Bool.and_self, Bool.and_true, and_self, and_true, List.getElem?_cons_zero, List.getElem?_cons_succ, List.nodup_cons, List.nodup_nil, List.mem_cons, List.not_mem_nil, not_false_eq_true, or_false, List.append_nil, mkO, setO_mk, List.mem_singleton]) (by simp [SV.tr, SV.trL])
  | true =>
    cases ho : opn x k with
    | false =>
      refine is.go hm hΓ k_CountSecretAnswers o_CountSecretAnswers (by simp [a_CountSecretAnswers]) ?_
      simp only [a_CountSecretAnswers, h_areListed, c_areListed, h_isOpen, c_isOpen, h_weight, c_weight, hc, hL, ho, List.zipIdx_cons, List.zipIdx_nil, ↓SP, SQ, Gam.add, stepM, callC, argC, lendO, nmBy, nmC, likeL, likeB, plainOb, offs, X, F, trP, trO, stepD, stepW, newA, SV.tr, SV.trL, fz, allP, Ob.tr, loadA, cellsA, SV.cells, binA, binI, eqOut, isSl, isPt, natOf, callee, snap, SV.refsL, SV.refs, thaw, fzAll, loA, hiA, elemOf, partsA, buildA, putCells, ↓reduceIte, reduceCtorEq, okCell, Nat.reduceAdd, Nat.reduceEqDiff, Nat.reduceSub, Nat.reduceMul, Nat.reduceLeDiff, Nat.reduceLT, Nat.reduceBEq, PV.scal, PV.scalL, SV.scal, SV.scalL, Ob.scal, PV.isCell, pure', resO]
      exact finA_val (by simp [retA, rvA, List.mapM_cons, List.mapM_nil, Option.pure_def, Option.bind_eq_bind, Option.bind_some, Option.map_some, mkE_cons, mk_nil, mkO_cons, mkO_nil, loadA, ↓reduceIte, List.take_succ_cons, List.take_zero, List.drop_zero, List.drop_succ_cons, List.length_cons, List.length_nil, Nat.reduceAdd, Nat.reduceEqDiff, Nat.reduceLeDiff, Nat.zero_add, Nat.le_refl, reduceCtorEq, SV.tr, SV.trL, nmF, rn_nil, rn_cons1, rn_cons2, List.map_cons, List.map_nil, List.all_cons, List.all_nil, plainOb, SV.refsL, SV.refs, Ob.refs, X, F, List.range_succ, List.range_zero, List.nil_append, List.cons_append, List.isEmpty_nil, decide_true, Nat.reduceLT, Bool.and_self, Bool.and_true, and_self, and_true, List.getElem?_cons_zero, List.getElem?_cons_succ, List.nodup_cons, List.nodup_nil, List.mem_cons, List.not_mem_nil, not_false_eq_true, or_false, List.append_nil, mkO, setO_mk, List.mem_singleton]) (by simp [SV.tr, SV.trL])
    | true =>
      obtain ⟨h1, h2⟩ := isL_st hL
      obtain ⟨h3, h4, h5⟩ := opn_out ho
      obtain ⟨-, h6, h7, h8, h9⟩ := isSt_all h1 (k := k.toNat) (by omega)
      have g0 : (0 : Int) ≤ (l.length : Int) := by omega
      have g1 : (l.length : Int) ≤ 20 := by omega
      have g2 : m ≤ 1000 := by omega
      have g3 : ¬ x.getD k.toNat 0 < 0 := by omega
      refine is.go hm hΓ k_CountSecretAnswers o_CountSecretAnswers (by simp [a_CountSecretAnswers]) ?_
      simp only [a_CountSecretAnswers, h_areListed, c_areListed, h_isOpen, c_isOpen, h_weight, c_weight, hc, hL, ho, h3, h4, h6, g0, g1, g2, g3, ints_len, Int.toNat_natCast, List.zipIdx_cons, List.zipIdx_nil, ↓SP, SQ, Gam.add, stepM, callC, argC, lendO, nmBy, nmC, likeL, likeB, plainOb, offs, X, F, trP, trO, stepD, stepW, newA, SV.tr, SV.trL, fz, allP, Ob.tr, loadA, cellsA, SV.cells, binA, binI, eqOut, isSl, isPt, natOf, callee, snap, SV.refsL, SV.refs, thaw, fzAll, loA, hiA, elemOf, partsA, buildA, putCells, ↓reduceIte, reduceCtorEq, okCell, Nat.reduceAdd, Nat.reduceEqDiff, Nat.reduceSub, Nat.reduceMul, Nat.reduceLeDiff, Nat.reduceLT, Nat.reduceBEq, PV.scal, PV.scalL, SV.scal, SV.scalL, Ob.scal, PV.isCell, pure', resO]
      exact finA_val (by simp [retA, rvA, List.mapM_cons, List.mapM_nil, Option.pure_def, Option.bind_eq_bind, Option.bind_some, Option.map_some, mkE_cons, mk_nil, mkO_cons, mkO_nil, loadA, ↓reduceIte, List.take_succ_cons, List.take_zero, List.drop_zero, List.drop_succ_cons, List.length_cons, List.length_nil, Nat.reduceAdd, Nat.reduceEqDiff, Nat.reduceLeDiff, Nat.zero_add, Nat.le_refl, reduceCtorEq, SV.tr, SV.trL, nmF, rn_nil, rn_cons1, rn_cons2, List.map_cons, List.map_nil, List.all_cons, List.all_nil, plainOb, SV.refsL, SV.refs, Ob.refs, X, F, List.range_succ, List.range_zero, List.nil_append, List.cons_append, List.isEmpty_nil, decide_true, Nat.reduceLT, Bool.and_self, Bool.and_true, and_self, and_true, List.getElem?_cons_zero, List.getElem?_cons_succ, List.nodup_cons, List.nodup_nil, List.mem_cons, List.not_mem_nil, not_false_eq_true, or_false, List.append_nil, mkO, setO_mk, List.mem_singleton]) (by simp [SV.tr, SV.trL])
theorem s_s_CountSecretAnswers {P : Program} (hm : P.follows .mixedOrders = true) {Γ : Gam} (hΓ : GS P Γ) {n : FuncId} {f_l8Secret : FuncId} (is : Is P n (a_s_CountSecretAnswers f_l8Secret)) (h_l8Secret : Γ f_l8Secret = c_l8Secret)  : Says P n c_CountSecretAnswers := by
  refine Says.pure fun args r fs h => ?_
  split at h
  case h_2 => cases h
  rename_i x_ m l_ k
  split at h
  case isFalse => cases h
  rename_i hc
  obtain ⟨hx_, hc⟩ := hc
  obtain ⟨x, rfl⟩ := isI_out hx_
  obtain ⟨hl_, hc⟩ := hc
  obtain ⟨l, rfl⟩ := isI_out hl_
  simp only [ofI_ints, ofBo_bools, ofAs_asks, Option.some.injEq, Prod.mk.injEq] at h hc
  obtain ⟨rfl, rfl⟩ := h
  cases hok : (isL x m l && opn x k) with
  | false =>
    refine is.go hm hΓ k_s_CountSecretAnswers o_s_CountSecretAnswers (by simp [a_s_CountSecretAnswers]) ?_
    simp only [a_s_CountSecretAnswers, h_l8Secret, c_l8Secret, hc, hok, Bool.false_eq_true, List.zipIdx_cons, List.zipIdx_nil, ↓SP, SQ, Gam.add, stepM, callC, argC, lendO, nmBy, nmC, likeL, likeB, plainOb, offs, X, F, trP, trO, stepD, stepW, newA, SV.tr, SV.trL, fz, allP, Ob.tr, loadA, cellsA, SV.cells, binA, binI, eqOut, isSl, isPt, natOf, callee, snap, SV.refsL, SV.refs, thaw, fzAll, loA, hiA, elemOf, partsA, buildA, putCells, ↓reduceIte, reduceCtorEq, okCell, Nat.reduceAdd, Nat.reduceEqDiff, Nat.reduceSub, Nat.reduceMul, Nat.reduceLeDiff, Nat.reduceLT, Nat.reduceBEq, PV.scal, PV.scalL, SV.scal, SV.scalL, Ob.scal, PV.isCell, pure', resO]
    exact finA_val (by simp [retA, rvA, List.mapM_cons, List.mapM_nil, Option.pure_def, Option.bind_eq_bind, Option.bind_some, Option.map_some, mkE_cons, mk_nil, mkO_cons, mkO_nil, loadA, ↓reduceIte, List.take_succ_cons, List.take_zero, List.drop_zero, List.drop_succ_cons, List.length_cons, List.length_nil, Nat.reduceAdd, Nat.reduceEqDiff, Nat.reduceLeDiff, Nat.zero_add, Nat.le_refl, reduceCtorEq, SV.tr, SV.trL, nmF, rn_nil, rn_cons1, rn_cons2, List.map_cons, List.map_nil, List.all_cons, List.all_nil, plainOb, SV.refsL, SV.refs, Ob.refs, X, F, List.range_succ, List.range_zero, List.nil_append, List.cons_append, List.isEmpty_nil, decide_true, Nat.reduceLT, Bool.and_self, Bool.and_true, and_self, and_true, List.getElem?_cons_zero, List.getElem?_cons_succ, List.nodup_cons, List.nodup_nil, List.mem_cons, List.not_mem_nil, not_false_eq_true, or_false, List.append_nil, mkO, setO_mk, List.mem_singleton]) (by simp [SV.tr, SV.trL])
  | true =>
    have hok2 := hok
    rw [Bool.and_eq_true] at hok2
    obtain ⟨hL, ho⟩ := hok2
    obtain ⟨h1, h2⟩ := isL_st hL
    obtain ⟨h3, h4, h5⟩ := opn_out ho
    obtain ⟨k, rfl⟩ : ∃ j : Nat, k = j := ⟨k.toNat, by omega⟩
    simp only [Int.toNat_natCast] at h5 ⊢
    have hk : k < x.length := by omega
    obtain ⟨-, h6, h7, h8, h9⟩ := isSt_all h1 hk
    have hg := ints_get hk
    generalize hd : (m - x.getD k 0).toNat = d
    have hw0 : IntKind.i64.wrap (m - x.getD k 0) = (d : Int) := by rw [wrap64 (by omega) (by omega)]; omega
    have hwt : wtN x m k l.length = (Bn l.length (min l.length d + 1) : Int) := by rw [← hd]; rfl
    refine is.go hm hΓ k_s_CountSecretAnswers o_s_CountSecretAnswers (by simp [a_s_CountSecretAnswers]) ?_
    simp only [a_s_CountSecretAnswers, h_l8Secret, c_l8Secret, hc, hok, hwt, List.zipIdx_cons, List.zipIdx_nil, ↓SP, SQ, Gam.add, stepM, callC, argC, lendO, nmBy, nmC, likeL, likeB, plainOb, offs, X, F, trP, trO, stepD, stepW, newA, SV.tr, SV.trL, fz, allP, Ob.tr, loadA, cellsA, SV.cells, binA, binI, eqOut, isSl, isPt, natOf, callee, snap, SV.refsL, SV.refs, thaw, fzAll, loA, hiA, elemOf, partsA, buildA, putCells, ↓reduceIte, reduceCtorEq, okCell, Nat.reduceAdd, Nat.reduceEqDiff, Nat.reduceSub, Nat.reduceMul, Nat.reduceLeDiff, Nat.reduceLT, Nat.reduceBEq, PV.scal, PV.scalL, SV.scal, SV.scalL, Ob.scal, PV.isCell, pure', resO]
    refine loop_at (fun s : Nat × SV × SV => mkEnv [(0, .p (.agg [.sl 1 (ints x), .int .i64 m])), (1, .p (.sl 1 (ints l))), (2, si k), (3, .bx 3 0), (6, si 0), (7, sb false), (8, si (Bn l.length s.1)), (9, si (Wn l.length s.1)), (10, si s.1), (15, sb false), (31, s.2.1)]) (fun s => mkO [(3, some (.box [.p (.sl 1 (ints x)), si m]))]) (fun s => s.1 ≤ min l.length d + 1) (fun s => min l.length d + 1 - s.1) (0, .junk, .junk) (by simp) rfl rfl ?_
    rintro ⟨i, c1, c2⟩ hi R hR hN
    simp only at hi
    have hw := wrap_one (i := i) (by omega)
    by_cases hid : i ≤ d
    · have hid' : (i : Int) ≤ d := by omega
      by_cases hil : i ≤ l.length
      · have hil' : (i : Int) ≤ l.length := by omega
        have hz : ¬ ((i + 1 : Nat) : Int) = 0 := by omega
        have e1 := B_add hil (show l.length < 21 by omega)
        have e2 := W_sub hil (show l.length < 21 by omega)
        have e3 := W_mul hil (show l.length < 21 by omega)
        have e4 := W_div hil (show l.length < 21 by omega)
        simp only [hw0, hk, hg, hid', hil', hw, hz, e1, e2, e3, e4, ↓SP, SQ, Gam.add, stepM, callC, argC, lendO, nmBy, nmC, likeL, likeB, plainOb, offs, X, F, trP, trO, stepD, stepW, newA, SV.tr, SV.trL, fz, allP, Ob.tr, loadA, cellsA, SV.cells, binA, binI, eqOut, isSl, isPt, natOf, callee, snap, SV.refsL, SV.refs, thaw, fzAll, loA, hiA, elemOf, partsA, buildA, putCells, ↓reduceIte, reduceCtorEq, okCell, Nat.reduceAdd, Nat.reduceEqDiff, Nat.reduceSub, Nat.reduceMul, Nat.reduceLeDiff, Nat.reduceLT, Nat.reduceBEq, PV.scal, PV.scalL, SV.scal, SV.scalL, Ob.scal, PV.isCell, pure', resO]
        exact hN (i + 1, _, .junk) _ _ (by simp only; omega) (by simp only; omega) rfl rfl
      · have hil' : ¬ (i : Int) ≤ l.length := by omega
        have hie : i = min l.length d + 1 := by omega
        simp only [hw0, hk, hg, hid', hil', ↓SP, SQ, Gam.add, stepM, callC, argC, lendO, nmBy, nmC, likeL, likeB, plainOb, offs, X, F, trP, trO, stepD, stepW, newA, SV.tr, SV.trL, fz, allP, Ob.tr, loadA, cellsA, SV.cells, binA, binI, eqOut, isSl, isPt, natOf, callee, snap, SV.refsL, SV.refs, thaw, fzAll, loA, hiA, elemOf, partsA, buildA, putCells, ↓reduceIte, reduceCtorEq, okCell, Nat.reduceAdd, Nat.reduceEqDiff, Nat.reduceSub, Nat.reduceMul, Nat.reduceLeDiff, Nat.reduceLT, Nat.reduceBEq, PV.scal, PV.scalL, SV.scal, SV.scalL, Ob.scal, PV.isCell, pure', resO]
        refine hR _ _ _ (by intro h; cases h) ?_
        simp only [↓SP, SQ, Gam.add, stepM, callC, argC, lendO, nmBy, nmC, likeL, likeB, plainOb, offs, X, F, trP, trO, stepD, stepW, newA, SV.tr, SV.trL, fz, allP, Ob.tr, loadA, cellsA, SV.cells, binA, binI, eqOut, isSl, isPt, natOf, callee, snap, SV.refsL, SV.refs, thaw, fzAll, loA, hiA, elemOf, partsA, buildA, putCells, ↓reduceIte, reduceCtorEq, okCell, Nat.reduceAdd, Nat.reduceEqDiff, Nat.reduceSub, Nat.reduceMul, Nat.reduceLeDiff, Nat.reduceLT, Nat.reduceBEq, PV.scal, PV.scalL, SV.scal, SV.scalL, Ob.scal, PV.isCell, pure', resO]
        rw [hie]
        exact finA_val (by simp [retA, rvA, List.mapM_cons, List.mapM_nil, Option.pure_def, Option.bind_eq_bind, Option.bind_some, Option.map_some, mkE_cons, mk_nil, mkO_cons, mkO_nil, loadA, ↓reduceIte, List.take_succ_cons, List.take_zero, List.drop_zero, List.drop_succ_cons, List.length_cons, List.length_nil, Nat.reduceAdd, Nat.reduceEqDiff, Nat.reduceLeDiff, Nat.zero_add, Nat.le_refl, reduceCtorEq, SV.tr, SV.trL, nmF, rn_nil, rn_cons1, rn_cons2, List.map_cons, List.map_nil, List.all_cons, List.all_nil, plainOb, SV.refsL, SV.refs, Ob.refs, X, F, List.range_succ, List.range_zero, List.nil_append, List.cons_append, List.isEmpty_nil, decide_true, Nat.reduceLT, Bool.and_self, Bool.and_true, and_self, and_true, List.getElem?_cons_zero, List.getElem?_cons_succ, List.nodup_cons, List.nodup_nil, List.mem_cons, List.not_mem_nil, not_false_eq_true, or_false, List.append_nil, mkO, setO_mk, List.mem_singleton]) (by simp [SV.tr, SV.trL])
    · have hid' : ¬ (i : Int) ≤ d := by omega
      have hie : i = min l.length d + 1 := by omega
      simp only [hw0, hk, hg, hid', ↓SP, SQ, Gam.add, stepM, callC, argC, lendO, nmBy, nmC, likeL, likeB, plainOb, offs, X, F, trP, trO, stepD, stepW, newA, SV.tr, SV.trL, fz, allP, Ob.tr, loadA, cellsA, SV.cells, binA, binI, eqOut, isSl, isPt, natOf, callee, snap, SV.refsL, SV.refs, thaw, fzAll, loA, hiA, elemOf, partsA, buildA, putCells, ↓reduceIte, reduceCtorEq, okCell, Nat.reduceAdd, Nat.reduceEqDiff, Nat.reduceSub, Nat.reduceMul, Nat.reduceLeDiff, Nat.reduceLT, Nat.reduceBEq, PV.scal, PV.scalL, SV.scal, SV.scalL, Ob.scal, PV.isCell, pure', resO]
      refine hR _ _ _ (by intro h; cases h) ?_
      simp only [↓SP, SQ, Gam.add, stepM, callC, argC, lendO, nmBy, nmC, likeL, likeB, plainOb, offs, X, F, trP, trO, stepD, stepW, newA, SV.tr, SV.trL, fz, allP, Ob.tr, loadA, cellsA, SV.cells, binA, binI, eqOut, isSl, isPt, natOf, callee, snap, SV.refsL, SV.refs, thaw, fzAll, loA, hiA, elemOf, partsA, buildA, putCells, ↓reduceIte, reduceCtorEq, okCell, Nat.reduceAdd, Nat.reduceEqDiff, Nat.reduceSub, Nat.reduceMul, Nat.reduceLeDiff, Nat.reduceLT, Nat.reduceBEq, PV.scal, PV.scalL, SV.scal, SV.scalL, Ob.scal, PV.isCell, pure', resO]
      rw [hie]
      exact finA_val (by simp [retA, rvA, List.mapM_cons, List.mapM_nil, Option.pure_def, Option.bind_eq_bind, Option.bind_some, Option.map_some, mkE_cons, mk_nil, mkO_cons, mkO_nil, loadA, ↓reduceIte, List.take_succ_cons, List.take_zero, List.drop_zero, List.drop_succ_cons, List.length_cons, List.length_nil, Nat.reduceAdd, Nat.reduceEqDiff, Nat.reduceLeDiff, Nat.zero_add, Nat.le_refl, reduceCtorEq, SV.tr, SV.trL, nmF, rn_nil, rn_cons1, rn_cons2, List.map_cons, List.map_nil, List.all_cons, List.all_nil, plainOb, SV.refsL, SV.refs, Ob.refs, X, F, List.range_succ, List.range_zero, List.nil_append, List.cons_append, List.isEmpty_nil, decide_true, Nat.reduceLT, Bool.and_self, Bool.and_true, and_self, and_true, List.getElem?_cons_zero, List.getElem?_cons_succ, List.nodup_cons, List.nodup_nil, List.mem_cons, List.not_mem_nil, not_false_eq_true, or_false, List.append_nil, mkO, setO_mk, List.mem_singleton]) (by simp [SV.tr, SV.trL])
end Go.Proofs.Ytnonkjcklgihhaa.Pam
