/- A part of the proof that stands in this folder: a small machine whose steps are shown to be the steps of the model, or walks of functions by it. No condition of its own. -/
import Derived.Test.YtmbljmolegalhaaPamZ
set_option linter.unusedVariables false
set_option linter.unusedSimpArgs false
namespace Go.Proofs.Ytmbljmolegalhaa.Pam
open Go
def a_in : AFn := ⟨3, 
  .seq (.reg [⟨some 6, none, .d (.mv (.c (.bool false)))⟩])
  (.seq (.reg [⟨some 7, none, .d (.mv (.t 1))⟩,
    ⟨some 8, none, .d (.mv (.t 0))⟩,
    ⟨some 9, none, .d (.bin .arith .leq (.t 7) (.t 8))⟩,
    ⟨some 10, none, .d (.mv (.t 9))⟩,
    ⟨some 11, some (10, true), .d (.mv (.t 0))⟩,
    ⟨some 12, some (10, true), .d (.mv (.t 2))⟩,
    ⟨some 13, some (10, true), .d (.bin .arith .leq (.t 11) (.t 12))⟩,
    ⟨some 14, none, .d (.pick (.t 10) (.t 13) (.c (.bool false)))⟩,
    ⟨some 6, none, .d (.mv (.t 14))⟩])
  (.ret)), [.tmp 6]⟩
def n_in : Nat → Option Ann := fun _ => none
abbrev k_in : List Nat := [0, 1, 2, 6]
abbrev o_in : List Nat := []
def a_l1In : AFn := ⟨3, 
  .seq (.reg [⟨some 6, none, .d (.mv (.c (.bool false)))⟩])
  (.seq (.reg [⟨some 7, none, .d (.mv (.t 0))⟩,
    ⟨some 8, none, .d (.mv (.t 1))⟩,
    ⟨some 9, none, .d (.bin .arith .geq (.t 7) (.t 8))⟩,
    ⟨some 10, none, .d (.mv (.t 9))⟩,
    ⟨some 11, some (10, true), .d (.mv (.t 0))⟩,
    ⟨some 12, some (10, true), .d (.mv (.t 2))⟩,
    ⟨some 13, some (10, true), .d (.bin .arith .leq (.t 11) (.t 12))⟩,
    ⟨some 14, none, .d (.pick (.t 10) (.t 13) (.c (.bool false)))⟩,
    ⟨some 6, none, .d (.mv (.t 14))⟩])
  (.ret)), [.tmp 6]⟩
def n_l1In : Nat → Option Ann := fun _ => none
abbrev k_l1In : List Nat := [0, 1, 2, 6]
abbrev o_l1In : List Nat := []
def c_in : Con := pure' fun
  | [.p (.int .i64 x), .p (.int .i64 a), .p (.int .i64 b)] => if (True) then some (.p (.bool (decide (a ≤ x) && decide (x ≤ b))), []) else none
  | _ => none
theorem s_in {P : Program} (hm : P.follows .mixedOrders = true) {Γ : Gam} (hΓ : GS P Γ) {n : FuncId} (is : Is P n a_in)  : Says P n c_in := by
  refine Says.pure fun args r fs h => ?_
  split at h
  case h_2 => cases h
  rename_i x a b
  split at h
  case isFalse => cases h
  rename_i hc
  simp only [ofI_ints, ofBo_bools, ofAs_asks, Option.some.injEq, Prod.mk.injEq] at h hc
  obtain ⟨rfl, rfl⟩ := h
  refine is.go hm hΓ k_in o_in (by simp [a_in]) ?_
  simp only [a_in, List.zipIdx_cons, List.zipIdx_nil, ↓SP, SQ, Gam.add, stepM, callC, argC, lendO, nmBy, nmC, likeL, likeB, plainOb, offs, exL, X, F, trP, trO, stepD, stepW, newA, SV.tr, SV.trL, fz, allP, Ob.tr, loadA, cellsA, SV.cells, binA, binI, eqOut, isSl, isPt, natOf, callee, snap, SV.refsL, SV.refs, thaw, fzAll, loA, hiA, elemOf, partsA, buildA, putCells, ↓reduceIte, reduceCtorEq, okCell, Nat.reduceAdd, Nat.reduceEqDiff, Nat.reduceSub, Nat.reduceMul, Nat.reduceLeDiff, Nat.reduceLT, Nat.reduceBEq, PV.scal, PV.scalL, SV.scal, SV.scalL, Ob.scal, PV.isCell, pure', resO]
  cases decide (a ≤ x) <;> simp only [↓SP, SQ, Gam.add, stepM, callC, argC, lendO, nmBy, nmC, likeL, likeB, plainOb, offs, exL, X, F, trP, trO, stepD, stepW, newA, SV.tr, SV.trL, fz, allP, Ob.tr, loadA, cellsA, SV.cells, binA, binI, eqOut, isSl, isPt, natOf, callee, snap, SV.refsL, SV.refs, thaw, fzAll, loA, hiA, elemOf, partsA, buildA, putCells, ↓reduceIte, reduceCtorEq, okCell, Nat.reduceAdd, Nat.reduceEqDiff, Nat.reduceSub, Nat.reduceMul, Nat.reduceLeDiff, Nat.reduceLT, Nat.reduceBEq, PV.scal, PV.scalL, SV.scal, SV.scalL, Ob.scal, PV.isCell, pure', resO] <;> exact finA_val (by simp [retA, rvA, mkE_cons, mk_nil, mkO_cons, mkO_nil, loadA, SV.tr, SV.trL, nmF, rn_nil, rn_cons1, rn_cons2, plainOb, SV.refsL, SV.refs, Ob.refs, X, F, List.range_succ, mkO, setO_mk]) (by simp [SV.tr])
theorem s_l1In {P : Program} (hm : P.follows .mixedOrders = true) {Γ : Gam} (hΓ : GS P Γ) {n : FuncId} (is : Is P n a_l1In)  : Says P n c_in := by
  refine Says.pure fun args r fs h => ?_
  split at h
  case h_2 => cases h
  rename_i x a b
  split at h
  case isFalse => cases h
  rename_i hc
  simp only [ofI_ints, ofBo_bools, ofAs_asks, Option.some.injEq, Prod.mk.injEq] at h hc
  obtain ⟨rfl, rfl⟩ := h
  refine is.go hm hΓ k_l1In o_l1In (by simp [a_l1In]) ?_
  simp only [a_l1In, List.zipIdx_cons, List.zipIdx_nil, ↓SP, SQ, Gam.add, stepM, callC, argC, lendO, nmBy, nmC, likeL, likeB, plainOb, offs, exL, X, F, trP, trO, stepD, stepW, newA, SV.tr, SV.trL, fz, allP, Ob.tr, loadA, cellsA, SV.cells, binA, binI, eqOut, isSl, isPt, natOf, callee, snap, SV.refsL, SV.refs, thaw, fzAll, loA, hiA, elemOf, partsA, buildA, putCells, ↓reduceIte, reduceCtorEq, okCell, Nat.reduceAdd, Nat.reduceEqDiff, Nat.reduceSub, Nat.reduceMul, Nat.reduceLeDiff, Nat.reduceLT, Nat.reduceBEq, PV.scal, PV.scalL, SV.scal, SV.scalL, Ob.scal, PV.isCell, pure', resO]
  cases decide (a ≤ x) <;> simp only [↓SP, SQ, Gam.add, stepM, callC, argC, lendO, nmBy, nmC, likeL, likeB, plainOb, offs, exL, X, F, trP, trO, stepD, stepW, newA, SV.tr, SV.trL, fz, allP, Ob.tr, loadA, cellsA, SV.cells, binA, binI, eqOut, isSl, isPt, natOf, callee, snap, SV.refsL, SV.refs, thaw, fzAll, loA, hiA, elemOf, partsA, buildA, putCells, ↓reduceIte, reduceCtorEq, okCell, Nat.reduceAdd, Nat.reduceEqDiff, Nat.reduceSub, Nat.reduceMul, Nat.reduceLeDiff, Nat.reduceLT, Nat.reduceBEq, PV.scal, PV.scalL, SV.scal, SV.scalL, Ob.scal, PV.isCell, pure', resO] <;> exact finA_val (by simp [retA, rvA, mkE_cons, mk_nil, mkO_cons, mkO_nil, loadA, SV.tr, SV.trL, nmF, rn_nil, rn_cons1, rn_cons2, plainOb, SV.refsL, SV.refs, Ob.refs, X, F, List.range_succ, mkO, setO_mk]) (by simp [SV.tr])
theorem dec_t {p : Prop} [Decidable p] (h : p) : decide p = true := by simpa using h
/-- The ways to choose i of n, one after the other. -/
def Wn (n : Nat) : Nat → Nat
  | 0 => 1
  | i + 1 => Wn n i * (n - i) / (i + 1)
theorem Wn_le : ∀ n, n < 21 → ∀ i, i < 23 → Wn n i ≤ 200000 := by decide +kernel
theorem W_sub {n i : Nat} (h : i ≤ n) (hn : n < 21) : IntKind.i64.wrap ((n : Int) - (i : Int)) = ((n - i : Nat) : Int) := by rw [wrap64 (by omega) (by omega)]; omega
theorem W_mul {n i : Nat} (h : i ≤ n) (hn : n < 21) : IntKind.i64.wrap ((Wn n i : Int) * ((n - i : Nat) : Int)) = ((Wn n i * (n - i) : Nat) : Int) := by
  have h1 := Wn_le n hn i (by omega)
  have h2 : Wn n i * (n - i) ≤ 200000 * 21 := Nat.mul_le_mul h1 (by omega)
  rw [← Int.natCast_mul]
  exact wrap64 (by omega) (by omega)
theorem W_div {n i : Nat} (h : i ≤ n) (hn : n < 21) : IntKind.i64.wrap (((Wn n i * (n - i) : Nat) : Int).tdiv ((i + 1 : Nat) : Int)) = (Wn n (i + 1) : Int) := by
  have h1 := Wn_le n hn i (by omega)
  have h2 : Wn n i * (n - i) ≤ 200000 * 21 := Nat.mul_le_mul h1 (by omega)
  have h3 : Wn n i * (n - i) / (i + 1) ≤ Wn n i * (n - i) := Nat.div_le_self _ _
  have h4 : Wn n (i + 1) = Wn n i * (n - i) / (i + 1) := rfl
  rw [← Int.ofNat_tdiv, h4]
  generalize Wn n i * (n - i) / (i + 1) = q at *
  generalize Wn n i * (n - i) = p at *
  exact wrap64 (by omega) (by omega)
def a_ways : AFn := ⟨2, 
  .seq (.reg [⟨some 4, none, .d (.mv (.c (.int .i64 0)))⟩])
  (.seq (.reg [⟨some 5, none, .d (.mv (.c (.int .i64 1)))⟩])
  (.seq (.seq (.reg [⟨some 7, none, .d (.mv (.t 1))⟩,
    ⟨some 8, none, .d (.mv (.c (.int .i64 0)))⟩])
  (.block 0 (.loop (.seq (.reg [⟨some 9, none, .d (.bin .arith .lss (.t 8) (.t 7))⟩])
    (.seq (.cond (.t 9) (.skip) (.exit 0))
    (.seq (.block 1 (.seq (.reg [⟨some 10, none, .d (.mv (.t 8))⟩,
       ⟨some 6, none, .d (.mv (.t 10))⟩])
     (.reg [⟨some 11, none, .d (.mv (.t 5))⟩,
       ⟨some 12, none, .d (.mv (.t 0))⟩,
       ⟨some 13, none, .d (.mv (.t 6))⟩,
       ⟨some 14, none, .d (.bin .arith .sub (.t 12) (.t 13))⟩,
       ⟨some 15, none, .d (.bin .arith .mul (.t 11) (.t 14))⟩,
       ⟨some 16, none, .d (.mv (.t 6))⟩,
       ⟨some 17, none, .d (.bin .arith .add (.t 16) (.c (.int .i64 1)))⟩,
       ⟨some 18, none, .d (.bin .arith .quo (.t 15) (.t 17))⟩,
       ⟨some 5, none, .d (.mv (.t 18))⟩])))
    (.reg [⟨some 19, none, .d (.bin .arith .add (.t 8) (.c (.int .i64 1)))⟩,
      ⟨some 8, none, .d (.mv (.t 19))⟩])))))))
  (.seq (.reg [⟨some 20, none, .d (.mv (.t 5))⟩,
    ⟨some 4, none, .d (.mv (.t 20))⟩])
  (.ret)))), [.tmp 4]⟩
def n_ways : Nat → Option Ann := fun _ => none
abbrev k_ways : List Nat := [0, 1, 4, 5, 6, 7, 8, 9]
abbrev o_ways : List Nat := []
def c_ways : Con := pure' fun
  | [.p (.int .i64 n), .p (.int .i64 r)] => if (0 ≤ n ∧ n ≤ 20 ∧ 0 ≤ r ∧ r ≤ n) then some (.p (.int .i64 (Wn n.toNat r.toNat : Int)), []) else none
  | _ => none
theorem s_ways {P : Program} (hm : P.follows .mixedOrders = true) {Γ : Gam} (hΓ : GS P Γ) {n : FuncId} (is : Is P n a_ways)  : Says P n c_ways := by
  refine Says.pure fun args r fs h => ?_
  split at h
  case h_2 => cases h
  rename_i n r
  split at h
  case isFalse => cases h
  rename_i hc
  simp only [ofI_ints, ofBo_bools, ofAs_asks, Option.some.injEq, Prod.mk.injEq] at h hc
  obtain ⟨rfl, rfl⟩ := h
  obtain ⟨h0, h1, h2, h3⟩ := hc
  obtain ⟨n, rfl⟩ : ∃ j : Nat, n = j := ⟨n.toNat, by omega⟩
  obtain ⟨r, rfl⟩ : ∃ j : Nat, r = j := ⟨r.toNat, by omega⟩
  simp only [Int.toNat_natCast]
  refine is.go hm hΓ k_ways o_ways (by simp [a_ways]) ?_
  simp only [a_ways, List.zipIdx_cons, List.zipIdx_nil, ↓SP, SQ, Gam.add, stepM, callC, argC, lendO, nmBy, nmC, likeL, likeB, plainOb, offs, exL, X, F, trP, trO, stepD, stepW, newA, SV.tr, SV.trL, fz, allP, Ob.tr, loadA, cellsA, SV.cells, binA, binI, eqOut, isSl, isPt, natOf, callee, snap, SV.refsL, SV.refs, thaw, fzAll, loA, hiA, elemOf, partsA, buildA, putCells, ↓reduceIte, reduceCtorEq, okCell, Nat.reduceAdd, Nat.reduceEqDiff, Nat.reduceSub, Nat.reduceMul, Nat.reduceLeDiff, Nat.reduceLT, Nat.reduceBEq, PV.scal, PV.scalL, SV.scal, SV.scalL, Ob.scal, PV.isCell, pure', resO]
  refine loop_at (fun s : Nat × SV × SV => mkEnv [(0, si n), (1, si r), (4, si 0), (5, si (Wn n s.1)), (6, s.2.1), (7, si r), (8, si s.1), (9, s.2.2)]) (fun s => mkO []) (fun s => s.1 ≤ r) (fun s => r - s.1) (0, .junk, .junk) (by simp) rfl rfl ?_
  rintro ⟨i, c1, c2⟩ hi R hR hN
  simp only at hi
  by_cases h : i < r
  · have h1' : (i : Int) < r := by omega
    have hw := wrap_one (i := i) (by omega)
    have hz : ¬ ((i + 1 : Nat) : Int) = 0 := by omega
    simp only [h1', hw, W_sub (show i ≤ n by omega) (by omega), W_mul (show i ≤ n by omega) (by omega), W_div (show i ≤ n by omega) (by omega), hz, ↓SP, SQ, Gam.add, stepM, callC, argC, lendO, nmBy, nmC, likeL, likeB, plainOb, offs, exL, X, F, trP, trO, stepD, stepW, newA, SV.tr, SV.trL, fz, allP, Ob.tr, loadA, cellsA, SV.cells, binA, binI, eqOut, isSl, isPt, natOf, callee, snap, SV.refsL, SV.refs, thaw, fzAll, loA, hiA, elemOf, partsA, buildA, putCells, ↓reduceIte, reduceCtorEq, okCell, Nat.reduceAdd, Nat.reduceEqDiff, Nat.reduceSub, Nat.reduceMul, Nat.reduceLeDiff, Nat.reduceLT, Nat.reduceBEq, PV.scal, PV.scalL, SV.scal, SV.scalL, Ob.scal, PV.isCell, pure', resO]
    exact hN (i + 1, _, _) _ _ (by simp only; omega) (by simp only; omega) rfl rfl
  · have he : i = r := by omega
    have h1' : ¬ (i : Int) < r := by omega
    simp only [h1', ↓SP, SQ, Gam.add, stepM, callC, argC, lendO, nmBy, nmC, likeL, likeB, plainOb, offs, exL, X, F, trP, trO, stepD, stepW, newA, SV.tr, SV.trL, fz, allP, Ob.tr, loadA, cellsA, SV.cells, binA, binI, eqOut, isSl, isPt, natOf, callee, snap, SV.refsL, SV.refs, thaw, fzAll, loA, hiA, elemOf, partsA, buildA, putCells, ↓reduceIte, reduceCtorEq, okCell, Nat.reduceAdd, Nat.reduceEqDiff, Nat.reduceSub, Nat.reduceMul, Nat.reduceLeDiff, Nat.reduceLT, Nat.reduceBEq, PV.scal, PV.scalL, SV.scal, SV.scalL, Ob.scal, PV.isCell, pure', resO]
    refine hR _ _ _ (by intro h; cases h) ?_
    simp only [↓SP, SQ, Gam.add, stepM, callC, argC, lendO, nmBy, nmC, likeL, likeB, plainOb, offs, exL, X, F, trP, trO, stepD, stepW, newA, SV.tr, SV.trL, fz, allP, Ob.tr, loadA, cellsA, SV.cells, binA, binI, eqOut, isSl, isPt, natOf, callee, snap, SV.refsL, SV.refs, thaw, fzAll, loA, hiA, elemOf, partsA, buildA, putCells, ↓reduceIte, reduceCtorEq, okCell, Nat.reduceAdd, Nat.reduceEqDiff, Nat.reduceSub, Nat.reduceMul, Nat.reduceLeDiff, Nat.reduceLT, Nat.reduceBEq, PV.scal, PV.scalL, SV.scal, SV.scalL, Ob.scal, PV.isCell, pure', resO]
    subst he
    exact finA_val (by simp [retA, rvA, mkE_cons, mk_nil, mkO_cons, mkO_nil, loadA, SV.tr, SV.trL, nmF, rn_nil, rn_cons1, rn_cons2, plainOb, SV.refsL, SV.refs, Ob.refs, X, F, List.range_succ, mkO, setO_mk]) (by simp [SV.tr, SV.trL])
/-- Whether a doubt is one. -/
def isD (s o : Int) : Bool := decide (1 ≤ o) && decide (o ≤ 10) && (decide (0 ≤ s) && decide (s ≤ o))
def a_IsDoubt (f_in : FuncId) : AFn := ⟨1, 
  .seq (.reg [⟨some 1, none, .w (.box 2 (.t 0))⟩,
    ⟨some 2, none, .d (.mv (.c (.bool false)))⟩])
  (.seq (.reg [⟨some 3, none, .d (.fa 1 (.t 1))⟩,
    ⟨some 4, none, .d (.load false 1 (.t 3))⟩,
    ⟨some 5, none, .d (.call (.f f_in) [(.t 4), (.c (.int .i64 1)), (.c (.int .i64 10))])⟩,
    ⟨some 6, none, .d (.mv (.t 5))⟩,
    ⟨some 7, some (6, true), .d (.fa 0 (.t 1))⟩,
    ⟨some 8, some (6, true), .d (.load false 1 (.t 7))⟩,
    ⟨some 9, some (6, true), .d (.fa 1 (.t 1))⟩,
    ⟨some 10, some (6, true), .d (.load false 1 (.t 9))⟩,
    ⟨some 11, some (6, true), .d (.call (.f f_in) [(.t 8), (.c (.int .i64 0)), (.t 10)])⟩,
    ⟨some 12, none, .d (.pick (.t 6) (.t 11) (.c (.bool false)))⟩,
    ⟨some 2, none, .d (.mv (.t 12))⟩])
  (.ret)), [.tmp 2]⟩
def n_IsDoubt : Nat → Option Ann := fun _ => none
abbrev k_IsDoubt : List Nat := [0, 1, 2]
abbrev o_IsDoubt : List Nat := [1]
def a_l7Good (f_l1In : FuncId) : AFn := ⟨1, 
  .seq (.reg [⟨some 1, none, .w (.box 2 (.t 0))⟩,
    ⟨some 2, none, .d (.mv (.c (.bool false)))⟩])
  (.seq (.reg [⟨some 3, none, .d (.fa 1 (.t 1))⟩,
    ⟨some 4, none, .d (.load false 1 (.t 3))⟩,
    ⟨some 5, none, .d (.call (.f f_l1In) [(.t 4), (.c (.int .i64 1)), (.c (.int .i64 10))])⟩,
    ⟨some 6, none, .d (.mv (.t 5))⟩,
    ⟨some 7, some (6, true), .d (.fa 0 (.t 1))⟩,
    ⟨some 8, some (6, true), .d (.load false 1 (.t 7))⟩,
    ⟨some 9, some (6, true), .d (.fa 1 (.t 1))⟩,
    ⟨some 10, some (6, true), .d (.load false 1 (.t 9))⟩,
    ⟨some 11, some (6, true), .d (.call (.f f_l1In) [(.t 8), (.c (.int .i64 0)), (.t 10)])⟩,
    ⟨some 12, none, .d (.pick (.t 6) (.t 11) (.c (.bool false)))⟩,
    ⟨some 2, none, .d (.mv (.t 12))⟩])
  (.ret)), [.tmp 2]⟩
def n_l7Good : Nat → Option Ann := fun _ => none
abbrev k_l7Good : List Nat := [0, 1, 2]
abbrev o_l7Good : List Nat := [1]
def c_IsDoubt : Con := pure' fun
  | [.p (.agg [.int .i64 s, .int .i64 o])] => if (True) then some (.p (.bool (isD s o)), []) else none
  | _ => none
theorem s_IsDoubt {P : Program} (hm : P.follows .mixedOrders = true) {Γ : Gam} (hΓ : GS P Γ) {n : FuncId} {f_in : FuncId} (is : Is P n (a_IsDoubt f_in)) (h_in : Γ f_in = c_in)  : Says P n c_IsDoubt := by
  refine Says.pure fun args r fs h => ?_
  split at h
  case h_2 => cases h
  rename_i s o
  split at h
  case isFalse => cases h
  rename_i hc
  simp only [ofI_ints, ofBo_bools, ofAs_asks, Option.some.injEq, Prod.mk.injEq] at h hc
  obtain ⟨rfl, rfl⟩ := h
  cases h1 : (decide (1 ≤ o) && decide (o ≤ 10)) with
  | false =>
    have hb : isD s o = false := by simp only [isD, h1, Bool.false_and]
    refine is.go hm hΓ k_IsDoubt o_IsDoubt (by simp [a_IsDoubt]) ?_
    simp only [a_IsDoubt, h_in, c_in, h1, hb, List.zipIdx_cons, List.zipIdx_nil, ↓SP, SQ, Gam.add, stepM, callC, argC, lendO, nmBy, nmC, likeL, likeB, plainOb, offs, exL, X, F, trP, trO, stepD, stepW, newA, SV.tr, SV.trL, fz, allP, Ob.tr, loadA, cellsA, SV.cells, binA, binI, eqOut, isSl, isPt, natOf, callee, snap, SV.refsL, SV.refs, thaw, fzAll, loA, hiA, elemOf, partsA, buildA, putCells, ↓reduceIte, reduceCtorEq, okCell, Nat.reduceAdd, Nat.reduceEqDiff, Nat.reduceSub, Nat.reduceMul, Nat.reduceLeDiff, Nat.reduceLT, Nat.reduceBEq, PV.scal, PV.scalL, SV.scal, SV.scalL, Ob.scal, PV.isCell, pure', resO]
    exact finA_val (by simp [retA, rvA, mkE_cons, mk_nil, mkO_cons, mkO_nil, loadA, SV.tr, SV.trL, nmF, rn_nil, rn_cons1, rn_cons2, plainOb, SV.refsL, SV.refs, Ob.refs, X, F, List.range_succ, mkO, setO_mk]) (by simp [SV.tr, SV.trL])
  | true =>
    have hb : isD s o = (decide (0 ≤ s) && decide (s ≤ o)) := by simp only [isD, h1, Bool.true_and]
    refine is.go hm hΓ k_IsDoubt o_IsDoubt (by simp [a_IsDoubt]) ?_
    simp only [a_IsDoubt, h_in, c_in, h1, hb, List.zipIdx_cons, List.zipIdx_nil, ↓SP, SQ, Gam.add, stepM, callC, argC, lendO, nmBy, nmC, likeL, likeB, plainOb, offs, exL, X, F, trP, trO, stepD, stepW, newA, SV.tr, SV.trL, fz, allP, Ob.tr, loadA, cellsA, SV.cells, binA, binI, eqOut, isSl, isPt, natOf, callee, snap, SV.refsL, SV.refs, thaw, fzAll, loA, hiA, elemOf, partsA, buildA, putCells, ↓reduceIte, reduceCtorEq, okCell, Nat.reduceAdd, Nat.reduceEqDiff, Nat.reduceSub, Nat.reduceMul, Nat.reduceLeDiff, Nat.reduceLT, Nat.reduceBEq, PV.scal, PV.scalL, SV.scal, SV.scalL, Ob.scal, PV.isCell, pure', resO]
    exact finA_val (by simp [retA, rvA, mkE_cons, mk_nil, mkO_cons, mkO_nil, loadA, SV.tr, SV.trL, nmF, rn_nil, rn_cons1, rn_cons2, plainOb, SV.refsL, SV.refs, Ob.refs, X, F, List.range_succ, mkO, setO_mk]) (by simp [SV.tr, SV.trL])
theorem s_l7Good {P : Program} (hm : P.follows .mixedOrders = true) {Γ : Gam} (hΓ : GS P Γ) {n : FuncId} {f_l1In : FuncId} (is : Is P n (a_l7Good f_l1In)) (h_l1In : Γ f_l1In = c_in)  : Says P n c_IsDoubt := by
  refine Says.pure fun args r fs h => ?_
  split at h
  case h_2 => cases h
  rename_i s o
  split at h
  case isFalse => cases h
  rename_i hc
  simp only [ofI_ints, ofBo_bools, ofAs_asks, Option.some.injEq, Prod.mk.injEq] at h hc
  obtain ⟨rfl, rfl⟩ := h
  cases h1 : (decide (1 ≤ o) && decide (o ≤ 10)) with
  | false =>
    have hb : isD s o = false := by simp only [isD, h1, Bool.false_and]
    refine is.go hm hΓ k_l7Good o_l7Good (by simp [a_l7Good]) ?_
    simp only [a_l7Good, h_l1In, c_in, h1, hb, List.zipIdx_cons, List.zipIdx_nil, ↓SP, SQ, Gam.add, stepM, callC, argC, lendO, nmBy, nmC, likeL, likeB, plainOb, offs, exL, X, F, trP, trO, stepD, stepW, newA, SV.tr, SV.trL, fz, allP, Ob.tr, loadA, cellsA, SV.cells, binA, binI, eqOut, isSl, isPt, natOf, callee, snap, SV.refsL, SV.refs, thaw, fzAll, loA, hiA, elemOf, partsA, buildA, putCells, ↓reduceIte, reduceCtorEq, okCell, Nat.reduceAdd, Nat.reduceEqDiff, Nat.reduceSub, Nat.reduceMul, Nat.reduceLeDiff, Nat.reduceLT, Nat.reduceBEq, PV.scal, PV.scalL, SV.scal, SV.scalL, Ob.scal, PV.isCell, pure', resO]
    exact finA_val (by simp [retA, rvA, mkE_cons, mk_nil, mkO_cons, mkO_nil, loadA, SV.tr, SV.trL, nmF, rn_nil, rn_cons1, rn_cons2, plainOb, SV.refsL, SV.refs, Ob.refs, X, F, List.range_succ, mkO, setO_mk]) (by simp [SV.tr, SV.trL])
  | true =>
    have hb : isD s o = (decide (0 ≤ s) && decide (s ≤ o)) := by simp only [isD, h1, Bool.true_and]
    refine is.go hm hΓ k_l7Good o_l7Good (by simp [a_l7Good]) ?_
    simp only [a_l7Good, h_l1In, c_in, h1, hb, List.zipIdx_cons, List.zipIdx_nil, ↓SP, SQ, Gam.add, stepM, callC, argC, lendO, nmBy, nmC, likeL, likeB, plainOb, offs, exL, X, F, trP, trO, stepD, stepW, newA, SV.tr, SV.trL, fz, allP, Ob.tr, loadA, cellsA, SV.cells, binA, binI, eqOut, isSl, isPt, natOf, callee, snap, SV.refsL, SV.refs, thaw, fzAll, loA, hiA, elemOf, partsA, buildA, putCells, ↓reduceIte, reduceCtorEq, okCell, Nat.reduceAdd, Nat.reduceEqDiff, Nat.reduceSub, Nat.reduceMul, Nat.reduceLeDiff, Nat.reduceLT, Nat.reduceBEq, PV.scal, PV.scalL, SV.scal, SV.scalL, Ob.scal, PV.isCell, pure', resO]
    exact finA_val (by simp [retA, rvA, mkE_cons, mk_nil, mkO_cons, mkO_nil, loadA, SV.tr, SV.trL, nmF, rn_nil, rn_cons1, rn_cons2, plainOb, SV.refsL, SV.refs, Ob.refs, X, F, List.range_succ, mkO, setO_mk]) (by simp [SV.tr, SV.trL])
theorem pow_le {b e : Nat} (hb : b ≤ 10) (he : e ≤ 12) : b ^ e ≤ 10 ^ 12 := Nat.le_trans (Nat.pow_le_pow_left hb e) (Nat.pow_le_pow_right (by omega) he)
theorem pow_step {b i : Nat} (hb : b ≤ 10) (hi : i < 12) : IntKind.i64.wrap (((b ^ i : Nat) : Int) * (b : Int)) = ((b ^ (i + 1) : Nat) : Int) := by
  have h1 := pow_le (e := i + 1) hb (by omega)
  rw [← Int.natCast_mul, ← Nat.pow_succ]
  generalize b ^ (i + 1) = q at *
  exact wrap64 (by omega) (by omega)
def a_power : AFn := ⟨2, 
  .seq (.reg [⟨some 4, none, .d (.mv (.c (.int .i64 0)))⟩])
  (.seq (.reg [⟨some 5, none, .d (.mv (.c (.int .i64 1)))⟩])
  (.seq (.seq (.reg [⟨some 6, none, .d (.mv (.t 1))⟩,
    ⟨some 7, none, .d (.mv (.c (.int .i64 0)))⟩])
  (.block 0 (.loop (.seq (.reg [⟨some 8, none, .d (.bin .arith .lss (.t 7) (.t 6))⟩])
    (.seq (.cond (.t 8) (.skip) (.exit 0))
    (.seq (.block 1 (.reg [⟨some 9, none, .d (.mv (.t 5))⟩,
       ⟨some 10, none, .d (.mv (.t 0))⟩,
       ⟨some 11, none, .d (.bin .arith .mul (.t 9) (.t 10))⟩,
       ⟨some 5, none, .d (.mv (.t 11))⟩]))
    (.reg [⟨some 12, none, .d (.bin .arith .add (.t 7) (.c (.int .i64 1)))⟩,
      ⟨some 7, none, .d (.mv (.t 12))⟩])))))))
  (.seq (.reg [⟨some 13, none, .d (.mv (.t 5))⟩,
    ⟨some 4, none, .d (.mv (.t 13))⟩])
  (.ret)))), [.tmp 4]⟩
def n_power : Nat → Option Ann := fun _ => none
abbrev k_power : List Nat := [0, 1, 4, 5, 6, 7, 8]
abbrev o_power : List Nat := []
def a_l7Power : AFn := ⟨2, 
  .seq (.reg [⟨some 4, none, .d (.mv (.c (.int .i64 0)))⟩])
  (.seq (.reg [⟨some 5, none, .d (.mv (.c (.int .i64 1)))⟩])
  (.seq (.seq (.reg [⟨some 6, none, .d (.mv (.c (.int .i64 0)))⟩])
  (.block 0 (.loop (.seq (.seq (.reg [⟨some 7, none, .d (.mv (.t 6))⟩,
      ⟨some 8, none, .d (.mv (.t 1))⟩,
      ⟨some 9, none, .d (.bin .arith .lss (.t 7) (.t 8))⟩])
    (.cond (.t 9) (.skip) (.exit 0)))
    (.seq (.block 1 (.reg [⟨some 12, none, .d (.mv (.t 5))⟩,
       ⟨some 13, none, .d (.mv (.t 0))⟩,
       ⟨some 14, none, .d (.bin .arith .mul (.t 12) (.t 13))⟩,
       ⟨some 5, none, .d (.mv (.t 14))⟩]))
    (.reg [⟨some 10, none, .d (.mv (.t 6))⟩,
      ⟨some 11, none, .d (.bin .arith .add (.t 10) (.c (.int .i64 1)))⟩,
      ⟨some 6, none, .d (.mv (.t 11))⟩]))))))
  (.seq (.reg [⟨some 15, none, .d (.mv (.t 5))⟩,
    ⟨some 4, none, .d (.mv (.t 15))⟩])
  (.ret)))), [.tmp 4]⟩
def n_l7Power : Nat → Option Ann := fun _ => none
abbrev k_l7Power : List Nat := [0, 1, 4, 5, 6, 9]
abbrev o_l7Power : List Nat := []
def c_power : Con := pure' fun
  | [.p (.int .i64 b), .p (.int .i64 e)] => if (0 ≤ b ∧ b ≤ 10 ∧ 0 ≤ e ∧ e ≤ 12) then some (.p (.int .i64 ((b.toNat ^ e.toNat : Nat) : Int)), []) else none
  | _ => none
theorem s_power {P : Program} (hm : P.follows .mixedOrders = true) {Γ : Gam} (hΓ : GS P Γ) {n : FuncId} (is : Is P n a_power)  : Says P n c_power := by
  refine Says.pure fun args r fs h => ?_
  split at h
  case h_2 => cases h
  rename_i b e
  split at h
  case isFalse => cases h
  rename_i hc
  simp only [ofI_ints, ofBo_bools, ofAs_asks, Option.some.injEq, Prod.mk.injEq] at h hc
  obtain ⟨rfl, rfl⟩ := h
  obtain ⟨h0, h1, h2, h3⟩ := hc
  obtain ⟨b, rfl⟩ : ∃ j : Nat, b = j := ⟨b.toNat, by omega⟩
  obtain ⟨e, rfl⟩ : ∃ j : Nat, e = j := ⟨e.toNat, by omega⟩
  simp only [Int.toNat_natCast]
  refine is.go hm hΓ k_power o_power (by simp [a_power]) ?_
  simp only [a_power, List.zipIdx_cons, List.zipIdx_nil, ↓SP, SQ, Gam.add, stepM, callC, argC, lendO, nmBy, nmC, likeL, likeB, plainOb, offs, exL, X, F, trP, trO, stepD, stepW, newA, SV.tr, SV.trL, fz, allP, Ob.tr, loadA, cellsA, SV.cells, binA, binI, eqOut, isSl, isPt, natOf, callee, snap, SV.refsL, SV.refs, thaw, fzAll, loA, hiA, elemOf, partsA, buildA, putCells, ↓reduceIte, reduceCtorEq, okCell, Nat.reduceAdd, Nat.reduceEqDiff, Nat.reduceSub, Nat.reduceMul, Nat.reduceLeDiff, Nat.reduceLT, Nat.reduceBEq, PV.scal, PV.scalL, SV.scal, SV.scalL, Ob.scal, PV.isCell, pure', resO]
  refine loop_at (fun s : Nat × SV => mkEnv [(0, si b), (1, si e), (4, si 0), (5, si ((b ^ s.1 : Nat) : Int)), (6, si e), (7, si s.1), (8, s.2)]) (fun s => mkO []) (fun s => s.1 ≤ e) (fun s => e - s.1) (0, .junk) (by simp) rfl rfl ?_
  rintro ⟨i, c1⟩ hi R hR hN
  simp only at hi
  by_cases h : i < e
  · have h1' : (i : Int) < e := by omega
    have hw := wrap_one (i := i) (by omega)
    have hp := pow_step (b := b) (i := i) (by omega) (by omega)
    simp only [h1', hw, hp, ↓SP, SQ, Gam.add, stepM, callC, argC, lendO, nmBy, nmC, likeL, likeB, plainOb, offs, exL, X, F, trP, trO, stepD, stepW, newA, SV.tr, SV.trL, fz, allP, Ob.tr, loadA, cellsA, SV.cells, binA, binI, eqOut, isSl, isPt, natOf, callee, snap, SV.refsL, SV.refs, thaw, fzAll, loA, hiA, elemOf, partsA, buildA, putCells, ↓reduceIte, reduceCtorEq, okCell, Nat.reduceAdd, Nat.reduceEqDiff, Nat.reduceSub, Nat.reduceMul, Nat.reduceLeDiff, Nat.reduceLT, Nat.reduceBEq, PV.scal, PV.scalL, SV.scal, SV.scalL, Ob.scal, PV.isCell, pure', resO]
    exact hN (i + 1, _) _ _ (by simp only; omega) (by simp only; omega) rfl rfl
  · have he : i = e := by omega
    have h1' : ¬ (i : Int) < e := by omega
    simp only [h1', ↓SP, SQ, Gam.add, stepM, callC, argC, lendO, nmBy, nmC, likeL, likeB, plainOb, offs, exL, X, F, trP, trO, stepD, stepW, newA, SV.tr, SV.trL, fz, allP, Ob.tr, loadA, cellsA, SV.cells, binA, binI, eqOut, isSl, isPt, natOf, callee, snap, SV.refsL, SV.refs, thaw, fzAll, loA, hiA, elemOf, partsA, buildA, putCells, ↓reduceIte, reduceCtorEq, okCell, Nat.reduceAdd, Nat.reduceEqDiff, Nat.reduceSub, Nat.reduceMul, Nat.reduceLeDiff, Nat.reduceLT, Nat.reduceBEq, PV.scal, PV.scalL, SV.scal, SV.scalL, Ob.scal, PV.isCell, pure', resO]
    refine hR _ _ _ (by intro h; cases h) ?_
    simp only [↓SP, SQ, Gam.add, stepM, callC, argC, lendO, nmBy, nmC, likeL, likeB, plainOb, offs, exL, X, F, trP, trO, stepD, stepW, newA, SV.tr, SV.trL, fz, allP, Ob.tr, loadA, cellsA, SV.cells, binA, binI, eqOut, isSl, isPt, natOf, callee, snap, SV.refsL, SV.refs, thaw, fzAll, loA, hiA, elemOf, partsA, buildA, putCells, ↓reduceIte, reduceCtorEq, okCell, Nat.reduceAdd, Nat.reduceEqDiff, Nat.reduceSub, Nat.reduceMul, Nat.reduceLeDiff, Nat.reduceLT, Nat.reduceBEq, PV.scal, PV.scalL, SV.scal, SV.scalL, Ob.scal, PV.isCell, pure', resO]
    subst he
    exact finA_val (by simp [retA, rvA, mkE_cons, mk_nil, mkO_cons, mkO_nil, loadA, SV.tr, SV.trL, nmF, rn_nil, rn_cons1, rn_cons2, plainOb, SV.refsL, SV.refs, Ob.refs, X, F, List.range_succ, mkO, setO_mk]) (by simp [SV.tr, SV.trL])
theorem s_l7Power {P : Program} (hm : P.follows .mixedOrders = true) {Γ : Gam} (hΓ : GS P Γ) {n : FuncId} (is : Is P n a_l7Power)  : Says P n c_power := by
  refine Says.pure fun args r fs h => ?_
  split at h
  case h_2 => cases h
  rename_i b e
  split at h
  case isFalse => cases h
  rename_i hc
  simp only [ofI_ints, ofBo_bools, ofAs_asks, Option.some.injEq, Prod.mk.injEq] at h hc
  obtain ⟨rfl, rfl⟩ := h
  obtain ⟨h0, h1, h2, h3⟩ := hc
  obtain ⟨b, rfl⟩ : ∃ j : Nat, b = j := ⟨b.toNat, by omega⟩
  obtain ⟨e, rfl⟩ : ∃ j : Nat, e = j := ⟨e.toNat, by omega⟩
  simp only [Int.toNat_natCast]
  refine is.go hm hΓ k_l7Power o_l7Power (by simp [a_l7Power]) ?_
  simp only [a_l7Power, List.zipIdx_cons, List.zipIdx_nil, ↓SP, SQ, Gam.add, stepM, callC, argC, lendO, nmBy, nmC, likeL, likeB, plainOb, offs, exL, X, F, trP, trO, stepD, stepW, newA, SV.tr, SV.trL, fz, allP, Ob.tr, loadA, cellsA, SV.cells, binA, binI, eqOut, isSl, isPt, natOf, callee, snap, SV.refsL, SV.refs, thaw, fzAll, loA, hiA, elemOf, partsA, buildA, putCells, ↓reduceIte, reduceCtorEq, okCell, Nat.reduceAdd, Nat.reduceEqDiff, Nat.reduceSub, Nat.reduceMul, Nat.reduceLeDiff, Nat.reduceLT, Nat.reduceBEq, PV.scal, PV.scalL, SV.scal, SV.scalL, Ob.scal, PV.isCell, pure', resO]
  refine loop_at (fun s : Nat × SV => mkEnv [(0, si b), (1, si e), (4, si 0), (5, si ((b ^ s.1 : Nat) : Int)), (6, si s.1), (9, s.2)]) (fun s => mkO []) (fun s => s.1 ≤ e) (fun s => e - s.1) (0, .junk) (by simp) rfl rfl ?_
  rintro ⟨i, c1⟩ hi R hR hN
  simp only at hi
  by_cases h : i < e
  · have h1' : (i : Int) < e := by omega
    have hw := wrap_one (i := i) (by omega)
    have hp := pow_step (b := b) (i := i) (by omega) (by omega)
    simp only [h1', hw, hp, ↓SP, SQ, Gam.add, stepM, callC, argC, lendO, nmBy, nmC, likeL, likeB, plainOb, offs, exL, X, F, trP, trO, stepD, stepW, newA, SV.tr, SV.trL, fz, allP, Ob.tr, loadA, cellsA, SV.cells, binA, binI, eqOut, isSl, isPt, natOf, callee, snap, SV.refsL, SV.refs, thaw, fzAll, loA, hiA, elemOf, partsA, buildA, putCells, ↓reduceIte, reduceCtorEq, okCell, Nat.reduceAdd, Nat.reduceEqDiff, Nat.reduceSub, Nat.reduceMul, Nat.reduceLeDiff, Nat.reduceLT, Nat.reduceBEq, PV.scal, PV.scalL, SV.scal, SV.scalL, Ob.scal, PV.isCell, pure', resO]
    exact hN (i + 1, _) _ _ (by simp only; omega) (by simp only; omega) rfl rfl
  · have he : i = e := by omega
    have h1' : ¬ (i : Int) < e := by omega
    simp only [h1', ↓SP, SQ, Gam.add, stepM, callC, argC, lendO, nmBy, nmC, likeL, likeB, plainOb, offs, exL, X, F, trP, trO, stepD, stepW, newA, SV.tr, SV.trL, fz, allP, Ob.tr, loadA, cellsA, SV.cells, binA, binI, eqOut, isSl, isPt, natOf, callee, snap, SV.refsL, SV.refs, thaw, fzAll, loA, hiA, elemOf, partsA, buildA, putCells, ↓reduceIte, reduceCtorEq, okCell, Nat.reduceAdd, Nat.reduceEqDiff, Nat.reduceSub, Nat.reduceMul, Nat.reduceLeDiff, Nat.reduceLT, Nat.reduceBEq, PV.scal, PV.scalL, SV.scal, SV.scalL, Ob.scal, PV.isCell, pure', resO]
    refine hR _ _ _ (by intro h; cases h) ?_
    simp only [↓SP, SQ, Gam.add, stepM, callC, argC, lendO, nmBy, nmC, likeL, likeB, plainOb, offs, exL, X, F, trP, trO, stepD, stepW, newA, SV.tr, SV.trL, fz, allP, Ob.tr, loadA, cellsA, SV.cells, binA, binI, eqOut, isSl, isPt, natOf, callee, snap, SV.refsL, SV.refs, thaw, fzAll, loA, hiA, elemOf, partsA, buildA, putCells, ↓reduceIte, reduceCtorEq, okCell, Nat.reduceAdd, Nat.reduceEqDiff, Nat.reduceSub, Nat.reduceMul, Nat.reduceLeDiff, Nat.reduceLT, Nat.reduceBEq, PV.scal, PV.scalL, SV.scal, SV.scalL, Ob.scal, PV.isCell, pure', resO]
    subst he
    exact finA_val (by simp [retA, rvA, mkE_cons, mk_nil, mkO_cons, mkO_nil, loadA, SV.tr, SV.trL, nmF, rn_nil, rn_cons1, rn_cons2, plainOb, SV.refsL, SV.refs, Ob.refs, X, F, List.range_succ, mkO, setO_mk]) (by simp [SV.tr, SV.trL])
/-- The share of k lies among n answers. -/
def partN (s o n k : Nat) : Nat := s ^ k * (o - s) ^ (n - k)
theorem partN_le {s o n k : Nat} (h1 : s ≤ o) (h2 : o ≤ 10) (h3 : k ≤ n) (h4 : n ≤ 12) : partN s o n k ≤ 10 ^ 12 := by
  have a : s ^ k ≤ 10 ^ k := Nat.pow_le_pow_left (by omega) k
  have b : (o - s) ^ (n - k) ≤ 10 ^ (n - k) := Nat.pow_le_pow_left (by omega) (n - k)
  have c : 10 ^ k * 10 ^ (n - k) = 10 ^ n := by rw [← Nat.pow_add]; congr 1; omega
  have d : 10 ^ n ≤ 10 ^ 12 := Nat.pow_le_pow_right (by omega) h4
  exact Nat.le_trans (Nat.le_trans (Nat.mul_le_mul a b) (Nat.le_of_eq c)) d
theorem isD_out {s o : Int} (h : isD s o = true) : 1 ≤ o ∧ o ≤ 10 ∧ 0 ≤ s ∧ s ≤ o := by
  simp only [isD, Bool.and_eq_true, decide_eq_true_eq] at h; omega
def a_ofThese (f_power : FuncId) : AFn := ⟨3, 
  .seq (.reg [⟨some 3, none, .w (.box 2 (.t 0))⟩,
    ⟨some 6, none, .d (.mv (.c (.int .i64 0)))⟩])
  (.seq (.dreg [] [([], ⟨some 7, none, .d (.fa 0 (.t 3))⟩),
    ([], ⟨some 8, none, .d (.load false 1 (.t 7))⟩),
    ([], ⟨some 9, none, .d (.mv (.t 2))⟩),
    ([], ⟨some 10, none, .d (.call (.f f_power) [(.t 8), (.t 9)])⟩),
    ([], ⟨some 11, none, .d (.fa 1 (.t 3))⟩),
    ([], ⟨some 12, none, .d (.load false 1 (.t 11))⟩),
    ([], ⟨some 13, none, .d (.fa 0 (.t 3))⟩),
    ([], ⟨some 14, none, .d (.load false 1 (.t 13))⟩),
    ([], ⟨some 15, none, .d (.bin .arith .sub (.t 12) (.t 14))⟩),
    ([], ⟨some 16, none, .d (.mv (.t 1))⟩),
    ([], ⟨some 17, none, .d (.mv (.t 2))⟩),
    ([], ⟨some 18, none, .d (.bin .arith .sub (.t 16) (.t 17))⟩)] [⟨some 19, none, .d (.call (.f f_power) [(.t 15), (.t 18)])⟩,
    ⟨some 20, none, .d (.bin .arith .mul (.t 10) (.t 19))⟩,
    ⟨some 6, none, .d (.mv (.t 20))⟩])
  (.ret)), [.tmp 6]⟩
def n_ofThese : Nat → Option Ann := fun _ => none
abbrev k_ofThese : List Nat := [0, 1, 2, 3, 6]
abbrev o_ofThese : List Nat := [3]
def c_ofThese : Con := pure' fun
  | [.p (.agg [.int .i64 s, .int .i64 o]), .p (.int .i64 n), .p (.int .i64 k)] => if (isD s o = true ∧ 0 ≤ k ∧ k ≤ n ∧ n ≤ 12) then some (.p (.int .i64 (partN s.toNat o.toNat n.toNat k.toNat : Int)), []) else none
  | _ => none
theorem s_ofThese {P : Program} (hm : P.follows .mixedOrders = true) {Γ : Gam} (hΓ : GS P Γ) {n : FuncId} {f_power : FuncId} (is : Is P n (a_ofThese f_power)) (h_power : Γ f_power = c_power)  : Says P n c_ofThese := by
  refine Says.pure fun args r fs h => ?_
  split at h
  case h_2 => cases h
  rename_i s o n k
  split at h
  case isFalse => cases h
  rename_i hc
  simp only [ofI_ints, ofBo_bools, ofAs_asks, Option.some.injEq, Prod.mk.injEq] at h hc
  obtain ⟨rfl, rfl⟩ := h
  obtain ⟨hd, h2, h3, h4⟩ := hc
  obtain ⟨d1, d2, d3, d4⟩ := isD_out hd
  obtain ⟨s, rfl⟩ : ∃ j : Nat, s = j := ⟨s.toNat, by omega⟩
  obtain ⟨o, rfl⟩ : ∃ j : Nat, o = j := ⟨o.toNat, by omega⟩
  obtain ⟨n, rfl⟩ : ∃ j : Nat, n = j := ⟨n.toNat, by omega⟩
  obtain ⟨k, rfl⟩ : ∃ j : Nat, k = j := ⟨k.toNat, by omega⟩
  simp only [Int.toNat_natCast]
  have w1 : IntKind.i64.wrap ((o : Int) - s) = ((o - s : Nat) : Int) := by rw [wrap64 (by omega) (by omega)]; omega
  have w2 : IntKind.i64.wrap ((n : Int) - k) = ((n - k : Nat) : Int) := by rw [wrap64 (by omega) (by omega)]; omega
  have g1 : (0 : Int) ≤ s := by omega
  have g2 : (s : Int) ≤ 10 := by omega
  have g3 : (0 : Int) ≤ k := by omega
  have g4 : (k : Int) ≤ 12 := by omega
  have g5 : (0 : Int) ≤ ((o - s : Nat) : Int) := by omega
  have g6 : ((o - s : Nat) : Int) ≤ 10 := by omega
  have g7 : (0 : Int) ≤ ((n - k : Nat) : Int) := by omega
  have g8 : ((n - k : Nat) : Int) ≤ 12 := by omega
  have hp := partN_le (s := s) (o := o) (n := n) (k := k) (by omega) (by omega) (by omega) (by omega)
  have hmul : IntKind.i64.wrap (((s ^ k : Nat) : Int) * (((o - s) ^ (n - k) : Nat) : Int)) = (partN s o n k : Int) := by
    rw [← Int.natCast_mul]
    show IntKind.i64.wrap ((partN s o n k : Nat) : Int) = _
    exact wrap64 (by omega) (by omega)
  refine is.go hm hΓ k_ofThese o_ofThese (by simp [a_ofThese]) ?_
  simp only [a_ofThese, h_power, c_power, w1, w2, g1, g2, g3, g4, g5, g6, g7, g8, hmul, Int.toNat_natCast, List.zipIdx_cons, List.zipIdx_nil, ↓SP, SQ, Gam.add, stepM, callC, argC, lendO, nmBy, nmC, likeL, likeB, plainOb, offs, exL, X, F, trP, trO, stepD, stepW, newA, SV.tr, SV.trL, fz, allP, Ob.tr, loadA, cellsA, SV.cells, binA, binI, eqOut, isSl, isPt, natOf, callee, snap, SV.refsL, SV.refs, thaw, fzAll, loA, hiA, elemOf, partsA, buildA, putCells, ↓reduceIte, reduceCtorEq, okCell, Nat.reduceAdd, Nat.reduceEqDiff, Nat.reduceSub, Nat.reduceMul, Nat.reduceLeDiff, Nat.reduceLT, Nat.reduceBEq, PV.scal, PV.scalL, SV.scal, SV.scalL, Ob.scal, PV.isCell, pure', resO]
  exact finA_val (by simp [retA, rvA, mkE_cons, mk_nil, mkO_cons, mkO_nil, loadA, SV.tr, SV.trL, nmF, rn_nil, rn_cons1, rn_cons2, plainOb, SV.refsL, SV.refs, Ob.refs, X, F, List.range_succ, mkO, setO_mk]) (by simp [SV.tr, SV.trL])
def a_l7Parts (f_l7Power : FuncId) : AFn := ⟨3, 
  .seq (.reg [⟨some 5, none, .w (.box 2 (.t 2))⟩,
    ⟨some 6, none, .d (.mv (.c (.int .i64 0)))⟩])
  (.seq (.dreg [] [([], ⟨some 7, none, .d (.fa 0 (.t 5))⟩),
    ([], ⟨some 8, none, .d (.load false 1 (.t 7))⟩),
    ([], ⟨some 9, none, .d (.mv (.t 1))⟩),
    ([], ⟨some 10, none, .d (.call (.f f_l7Power) [(.t 8), (.t 9)])⟩),
    ([], ⟨some 11, none, .d (.fa 1 (.t 5))⟩),
    ([], ⟨some 12, none, .d (.load false 1 (.t 11))⟩),
    ([], ⟨some 13, none, .d (.fa 0 (.t 5))⟩),
    ([], ⟨some 14, none, .d (.load false 1 (.t 13))⟩),
    ([], ⟨some 15, none, .d (.bin .arith .sub (.t 12) (.t 14))⟩),
    ([], ⟨some 16, none, .d (.mv (.t 0))⟩),
    ([], ⟨some 17, none, .d (.mv (.t 1))⟩),
    ([], ⟨some 18, none, .d (.bin .arith .sub (.t 16) (.t 17))⟩)] [⟨some 19, none, .d (.call (.f f_l7Power) [(.t 15), (.t 18)])⟩,
    ⟨some 20, none, .d (.bin .arith .mul (.t 10) (.t 19))⟩,
    ⟨some 6, none, .d (.mv (.t 20))⟩])
  (.ret)), [.tmp 6]⟩
def n_l7Parts : Nat → Option Ann := fun _ => none
abbrev k_l7Parts : List Nat := [0, 1, 2, 5, 6]
abbrev o_l7Parts : List Nat := [5]
def c_l7Parts : Con := pure' fun
  | [.p (.int .i64 n), .p (.int .i64 k), .p (.agg [.int .i64 s, .int .i64 o])] => if (isD s o = true ∧ 0 ≤ k ∧ k ≤ n ∧ n ≤ 12) then some (.p (.int .i64 (partN s.toNat o.toNat n.toNat k.toNat : Int)), []) else none
  | _ => none
theorem s_l7Parts {P : Program} (hm : P.follows .mixedOrders = true) {Γ : Gam} (hΓ : GS P Γ) {n : FuncId} {f_l7Power : FuncId} (is : Is P n (a_l7Parts f_l7Power)) (h_l7Power : Γ f_l7Power = c_power)  : Says P n c_l7Parts := by
  refine Says.pure fun args r fs h => ?_
  split at h
  case h_2 => cases h
  rename_i n k s o
  split at h
  case isFalse => cases h
  rename_i hc
  simp only [ofI_ints, ofBo_bools, ofAs_asks, Option.some.injEq, Prod.mk.injEq] at h hc
  obtain ⟨rfl, rfl⟩ := h
  obtain ⟨hd, h2, h3, h4⟩ := hc
  obtain ⟨d1, d2, d3, d4⟩ := isD_out hd
  obtain ⟨s, rfl⟩ : ∃ j : Nat, s = j := ⟨s.toNat, by omega⟩
  obtain ⟨o, rfl⟩ : ∃ j : Nat, o = j := ⟨o.toNat, by omega⟩
  obtain ⟨n, rfl⟩ : ∃ j : Nat, n = j := ⟨n.toNat, by omega⟩
  obtain ⟨k, rfl⟩ : ∃ j : Nat, k = j := ⟨k.toNat, by omega⟩
  simp only [Int.toNat_natCast]
  have w1 : IntKind.i64.wrap ((o : Int) - s) = ((o - s : Nat) : Int) := by rw [wrap64 (by omega) (by omega)]; omega
  have w2 : IntKind.i64.wrap ((n : Int) - k) = ((n - k : Nat) : Int) := by rw [wrap64 (by omega) (by omega)]; omega
  have g1 : (0 : Int) ≤ s := by omega
  have g2 : (s : Int) ≤ 10 := by omega
  have g3 : (0 : Int) ≤ k := by omega
  have g4 : (k : Int) ≤ 12 := by omega
  have g5 : (0 : Int) ≤ ((o - s : Nat) : Int) := by omega
  have g6 : ((o - s : Nat) : Int) ≤ 10 := by omega
  have g7 : (0 : Int) ≤ ((n - k : Nat) : Int) := by omega
  have g8 : ((n - k : Nat) : Int) ≤ 12 := by omega
  have hp := partN_le (s := s) (o := o) (n := n) (k := k) (by omega) (by omega) (by omega) (by omega)
  have hmul : IntKind.i64.wrap (((s ^ k : Nat) : Int) * (((o - s) ^ (n - k) : Nat) : Int)) = (partN s o n k : Int) := by
    rw [← Int.natCast_mul]
    show IntKind.i64.wrap ((partN s o n k : Nat) : Int) = _
    exact wrap64 (by omega) (by omega)
  refine is.go hm hΓ k_l7Parts o_l7Parts (by simp [a_l7Parts]) ?_
  simp only [a_l7Parts, h_l7Power, c_power, w1, w2, g1, g2, g3, g4, g5, g6, g7, g8, hmul, Int.toNat_natCast, List.zipIdx_cons, List.zipIdx_nil, ↓SP, SQ, Gam.add, stepM, callC, argC, lendO, nmBy, nmC, likeL, likeB, plainOb, offs, exL, X, F, trP, trO, stepD, stepW, newA, SV.tr, SV.trL, fz, allP, Ob.tr, loadA, cellsA, SV.cells, binA, binI, eqOut, isSl, isPt, natOf, callee, snap, SV.refsL, SV.refs, thaw, fzAll, loA, hiA, elemOf, partsA, buildA, putCells, ↓reduceIte, reduceCtorEq, okCell, Nat.reduceAdd, Nat.reduceEqDiff, Nat.reduceSub, Nat.reduceMul, Nat.reduceLeDiff, Nat.reduceLT, Nat.reduceBEq, PV.scal, PV.scalL, SV.scal, SV.scalL, Ob.scal, PV.isCell, pure', resO]
  exact finA_val (by simp [retA, rvA, mkE_cons, mk_nil, mkO_cons, mkO_nil, loadA, SV.tr, SV.trL, nmF, rn_nil, rn_cons1, rn_cons2, plainOb, SV.refsL, SV.refs, Ob.refs, X, F, List.range_succ, mkO, setO_mk]) (by simp [SV.tr, SV.trL])
def a_l1Most : AFn := ⟨2, 
  .seq (.reg [⟨some 4, none, .d (.mv (.c (.int .i64 0)))⟩])
  (.seq (.seq (.reg [⟨some 5, none, .d (.mv (.t 0))⟩,
    ⟨some 6, none, .d (.mv (.t 1))⟩,
    ⟨some 7, none, .d (.bin .arith .gtr (.t 5) (.t 6))⟩])
  (.cond (.t 7) (.seq (.reg [⟨some 8, none, .d (.mv (.t 0))⟩,
     ⟨some 4, none, .d (.mv (.t 8))⟩])
   (.ret)) (.skip)))
  (.seq (.reg [⟨some 9, none, .d (.mv (.t 1))⟩,
    ⟨some 4, none, .d (.mv (.t 9))⟩])
  (.ret))), [.tmp 4]⟩
def n_l1Most : Nat → Option Ann := fun _ => none
abbrev k_l1Most : List Nat := [0, 1, 4, 7]
abbrev o_l1Most : List Nat := []
def c_l1Most : Con := pure' fun
  | [.p (.int .i64 a), .p (.int .i64 b)] => if (True) then some (.p (.int .i64 (if a > b then a else b)), []) else none
  | _ => none
theorem s_l1Most {P : Program} (hm : P.follows .mixedOrders = true) {Γ : Gam} (hΓ : GS P Γ) {n : FuncId} (is : Is P n a_l1Most)  : Says P n c_l1Most := by
  refine Says.pure fun args r fs h => ?_
  split at h
  case h_2 => cases h
  rename_i a b
  split at h
  case isFalse => cases h
  rename_i hc
  simp only [ofI_ints, ofBo_bools, ofAs_asks, Option.some.injEq, Prod.mk.injEq] at h hc
  obtain ⟨rfl, rfl⟩ := h
  by_cases h : a > b
  · refine is.go hm hΓ k_l1Most o_l1Most (by simp [a_l1Most]) ?_
    simp only [a_l1Most, h, List.zipIdx_cons, List.zipIdx_nil, ↓SP, SQ, Gam.add, stepM, callC, argC, lendO, nmBy, nmC, likeL, likeB, plainOb, offs, exL, X, F, trP, trO, stepD, stepW, newA, SV.tr, SV.trL, fz, allP, Ob.tr, loadA, cellsA, SV.cells, binA, binI, eqOut, isSl, isPt, natOf, callee, snap, SV.refsL, SV.refs, thaw, fzAll, loA, hiA, elemOf, partsA, buildA, putCells, ↓reduceIte, reduceCtorEq, okCell, Nat.reduceAdd, Nat.reduceEqDiff, Nat.reduceSub, Nat.reduceMul, Nat.reduceLeDiff, Nat.reduceLT, Nat.reduceBEq, PV.scal, PV.scalL, SV.scal, SV.scalL, Ob.scal, PV.isCell, pure', resO]
    exact finA_val (by simp [retA, rvA, mkE_cons, mk_nil, mkO_cons, mkO_nil, loadA, SV.tr, SV.trL, nmF, rn_nil, rn_cons1, rn_cons2, plainOb, SV.refsL, SV.refs, Ob.refs, X, F, List.range_succ, mkO, setO_mk]) (by simp [SV.tr, SV.trL])
  · refine is.go hm hΓ k_l1Most o_l1Most (by simp [a_l1Most]) ?_
    simp only [a_l1Most, h, List.zipIdx_cons, List.zipIdx_nil, ↓SP, SQ, Gam.add, stepM, callC, argC, lendO, nmBy, nmC, likeL, likeB, plainOb, offs, exL, X, F, trP, trO, stepD, stepW, newA, SV.tr, SV.trL, fz, allP, Ob.tr, loadA, cellsA, SV.cells, binA, binI, eqOut, isSl, isPt, natOf, callee, snap, SV.refsL, SV.refs, thaw, fzAll, loA, hiA, elemOf, partsA, buildA, putCells, ↓reduceIte, reduceCtorEq, okCell, Nat.reduceAdd, Nat.reduceEqDiff, Nat.reduceSub, Nat.reduceMul, Nat.reduceLeDiff, Nat.reduceLT, Nat.reduceBEq, PV.scal, PV.scalL, SV.scal, SV.scalL, Ob.scal, PV.isCell, pure', resO]
    exact finA_val (by simp [retA, rvA, mkE_cons, mk_nil, mkO_cons, mkO_nil, loadA, SV.tr, SV.trL, nmF, rn_nil, rn_cons1, rn_cons2, plainOb, SV.refsL, SV.refs, Ob.refs, X, F, List.range_succ, mkO, setO_mk]) (by simp [SV.tr, SV.trL])
def frN (a b : Nat) : Int := ((a / Nat.gcd a b : Nat) : Int)
def frD (a b : Nat) : Int := ((b / Nat.gcd a b : Nat) : Int)
def a_fraction : AFn := ⟨2, 
  .seq (.reg [⟨some 4, none, .w (.alloc [.int .i64 0, .int .i64 0])⟩])
  (.seq (.reg [⟨some 7, none, .d (.mv (.t 0))⟩,
    ⟨some 8, none, .d (.mv (.t 1))⟩,
    ⟨some 5, none, .d (.mv (.t 7))⟩,
    ⟨some 6, none, .d (.mv (.t 8))⟩])
  (.seq (.block 0 (.loop (.seq (.seq (.reg [⟨some 9, none, .d (.mv (.t 6))⟩,
      ⟨some 10, none, .d (.bin .arith .neq (.t 9) (.c (.int .i64 0)))⟩])
    (.cond (.t 10) (.skip) (.exit 0)))
    (.block 1 (.dreg [] [([], ⟨some 11, none, .d (.mv (.t 6))⟩),
       ([], ⟨some 12, none, .d (.mv (.t 5))⟩),
       ([], ⟨some 13, none, .d (.mv (.t 6))⟩),
       ([], ⟨some 14, none, .d (.bin .arith .rem (.t 12) (.t 13))⟩),
       ([], ⟨some 5, none, .d (.mv (.t 11))⟩)] [⟨some 6, none, .d (.mv (.t 14))⟩])))))
  (.seq (.dreg [] [([], ⟨some 15, none, .d (.mv (.t 0))⟩),
    ([], ⟨some 16, none, .d (.mv (.t 5))⟩),
    ([], ⟨some 17, none, .d (.bin .arith .quo (.t 15) (.t 16))⟩),
    ([], ⟨some 18, none, .d (.mv (.t 1))⟩),
    ([], ⟨some 19, none, .d (.mv (.t 5))⟩),
    ([], ⟨some 20, none, .d (.bin .arith .quo (.t 18) (.t 19))⟩)] [⟨some 21, none, .d (.build [.int .i64 0, .int .i64 0] [(0, 1, (.t 17)), (1, 1, (.t 20))])⟩,
    ⟨none, none, .w (.store 2 (.t 4) (.t 21))⟩])
  (.ret)))), [.cell 4 2 true]⟩
def n_fraction : Nat → Option Ann := fun _ => none
abbrev k_fraction : List Nat := [0, 1, 4, 5, 6, 10]
abbrev o_fraction : List Nat := [4]
def a_l7Cut (f_l1Most : FuncId) : AFn := ⟨2, 
  .seq (.reg [⟨some 4, none, .w (.alloc [.int .i64 0, .int .i64 0])⟩])
  (.seq (.reg [⟨some 7, none, .d (.mv (.t 0))⟩,
    ⟨some 8, none, .d (.mv (.t 1))⟩,
    ⟨some 5, none, .d (.mv (.t 7))⟩,
    ⟨some 6, none, .d (.mv (.t 8))⟩])
  (.seq (.block 0 (.loop (.seq (.seq (.reg [⟨some 9, none, .d (.mv (.t 6))⟩,
      ⟨some 10, none, .d (.bin .arith .gtr (.t 9) (.c (.int .i64 0)))⟩])
    (.cond (.t 10) (.skip) (.exit 0)))
    (.block 1 (.dreg [] [([], ⟨some 11, none, .d (.mv (.t 6))⟩),
       ([], ⟨some 12, none, .d (.mv (.t 5))⟩),
       ([], ⟨some 13, none, .d (.mv (.t 6))⟩),
       ([], ⟨some 14, none, .d (.bin .arith .rem (.t 12) (.t 13))⟩),
       ([], ⟨some 5, none, .d (.mv (.t 11))⟩)] [⟨some 6, none, .d (.mv (.t 14))⟩])))))
  (.seq (.dreg [] [([], ⟨some 15, none, .d (.mv (.t 0))⟩),
    ([], ⟨some 16, none, .d (.mv (.t 5))⟩),
    ([], ⟨some 17, none, .d (.call (.f f_l1Most) [(.t 16), (.c (.int .i64 1))])⟩),
    ([], ⟨some 18, none, .d (.bin .arith .quo (.t 15) (.t 17))⟩),
    ([], ⟨some 19, none, .d (.mv (.t 1))⟩),
    ([], ⟨some 20, none, .d (.mv (.t 5))⟩),
    ([], ⟨some 21, none, .d (.call (.f f_l1Most) [(.t 20), (.c (.int .i64 1))])⟩),
    ([], ⟨some 22, none, .d (.bin .arith .quo (.t 19) (.t 21))⟩)] [⟨some 23, none, .d (.build [.int .i64 0, .int .i64 0] [(0, 1, (.t 18)), (1, 1, (.t 22))])⟩,
    ⟨none, none, .w (.store 2 (.t 4) (.t 23))⟩])
  (.ret)))), [.cell 4 2 true]⟩
def n_l7Cut : Nat → Option Ann := fun _ => none
abbrev k_l7Cut : List Nat := [0, 1, 4, 5, 6, 10]
abbrev o_l7Cut : List Nat := [4]
def c_fraction : Con := pure' fun
  | [.p (.int .i64 a), .p (.int .i64 b)] => if (0 ≤ a ∧ a ≤ 4000000000000000000 ∧ 0 < b ∧ b ≤ 4000000000000000000) then some (.ag [.p (.int .i64 (frN a.toNat b.toNat)), .p (.int .i64 (frD a.toNat b.toNat))], []) else none
  | _ => none
theorem gcd_step {x y a b : Nat} (h : Nat.gcd x y = Nat.gcd a b) : Nat.gcd y (x % y) = Nat.gcd a b := by
  rw [← h, Nat.gcd_comm x y, Nat.gcd_rec y x, Nat.gcd_comm]
theorem div_wrap {a g : Nat} (h : a ≤ 4000000000000000000) : IntKind.i64.wrap ((a : Int).tdiv (g : Int)) = ((a / g : Nat) : Int) := by
  have h3 : a / g ≤ a := Nat.div_le_self _ _
  rw [← Int.ofNat_tdiv]
  generalize a / g = q at *
  exact wrap64 (by omega) (by omega)
theorem mod_wrap {a g : Nat} (h : a ≤ 4000000000000000000) : IntKind.i64.wrap ((a : Int).tmod (g : Int)) = ((a % g : Nat) : Int) := by
  have h3 : a % g ≤ a := Nat.mod_le _ _
  rw [← Int.ofNat_tmod]
  generalize a % g = q at *
  exact wrap64 (by omega) (by omega)
theorem s_fraction {P : Program} (hm : P.follows .mixedOrders = true) {Γ : Gam} (hΓ : GS P Γ) {n : FuncId} (is : Is P n a_fraction)  : Says P n c_fraction := by
  refine Says.pure fun args r fs h => ?_
  split at h
  case h_2 => cases h
  rename_i a b
  split at h
  case isFalse => cases h
  rename_i hc
  simp only [ofI_ints, ofBo_bools, ofAs_asks, Option.some.injEq, Prod.mk.injEq] at h hc
  obtain ⟨rfl, rfl⟩ := h
  obtain ⟨h0, h1, h2, h3⟩ := hc
  obtain ⟨a, rfl⟩ : ∃ j : Nat, a = j := ⟨a.toNat, by omega⟩
  obtain ⟨b, rfl⟩ : ∃ j : Nat, b = j := ⟨b.toNat, by omega⟩
  simp only [Int.toNat_natCast]
  refine is.go hm hΓ k_fraction o_fraction (by simp [a_fraction]) ?_
  simp only [a_fraction, List.zipIdx_cons, List.zipIdx_nil, ↓SP, SQ, Gam.add, stepM, callC, argC, lendO, nmBy, nmC, likeL, likeB, plainOb, offs, exL, X, F, trP, trO, stepD, stepW, newA, SV.tr, SV.trL, fz, allP, Ob.tr, loadA, cellsA, SV.cells, binA, binI, eqOut, isSl, isPt, natOf, callee, snap, SV.refsL, SV.refs, thaw, fzAll, loA, hiA, elemOf, partsA, buildA, putCells, ↓reduceIte, reduceCtorEq, okCell, Nat.reduceAdd, Nat.reduceEqDiff, Nat.reduceSub, Nat.reduceMul, Nat.reduceLeDiff, Nat.reduceLT, Nat.reduceBEq, PV.scal, PV.scalL, SV.scal, SV.scalL, Ob.scal, PV.isCell, pure', resO]
  refine loop_at (fun s : Nat × Nat × SV => mkEnv [(0, si a), (1, si b), (4, .bx 4 0), (5, si s.1), (6, si s.2.1), (10, s.2.2)]) (fun s => mkO [(4, some (.box [si 0, si 0]))]) (fun s => Nat.gcd s.1 s.2.1 = Nat.gcd a b ∧ s.1 ≤ 4000000000000000000 ∧ s.2.1 ≤ 4000000000000000000) (fun s => s.2.1) (a, b, .junk) ⟨rfl, by simp only; omega, by simp only; omega⟩ rfl rfl ?_
  rintro ⟨x, y, c1⟩ ⟨hg, hx, hy⟩ R hR hN
  simp only at hg hx hy
  by_cases h : y = 0
  · have hb : ((y : Int) != 0) = false := by rw [h]; rfl
    have hgx : x = Nat.gcd a b := by rw [← hg, h, Nat.gcd_zero_right]
    have hgp : 0 < Nat.gcd a b := Nat.gcd_pos_of_pos_right a (by omega)
    have hz : ¬ (x : Int) = 0 := by omega
    have d1 := div_wrap (a := a) (g := x) (by omega)
    have d2 := div_wrap (a := b) (g := x) (by omega)
    simp only [hb, ↓SP, SQ, Gam.add, stepM, callC, argC, lendO, nmBy, nmC, likeL, likeB, plainOb, offs, exL, X, F, trP, trO, stepD, stepW, newA, SV.tr, SV.trL, fz, allP, Ob.tr, loadA, cellsA, SV.cells, binA, binI, eqOut, isSl, isPt, natOf, callee, snap, SV.refsL, SV.refs, thaw, fzAll, loA, hiA, elemOf, partsA, buildA, putCells, ↓reduceIte, reduceCtorEq, okCell, Nat.reduceAdd, Nat.reduceEqDiff, Nat.reduceSub, Nat.reduceMul, Nat.reduceLeDiff, Nat.reduceLT, Nat.reduceBEq, PV.scal, PV.scalL, SV.scal, SV.scalL, Ob.scal, PV.isCell, pure', resO]
    refine hR _ _ _ (by intro h; cases h) ?_
    simp only [hz, d1, d2, ↓SP, SQ, Gam.add, stepM, callC, argC, lendO, nmBy, nmC, likeL, likeB, plainOb, offs, exL, X, F, trP, trO, stepD, stepW, newA, SV.tr, SV.trL, fz, allP, Ob.tr, loadA, cellsA, SV.cells, binA, binI, eqOut, isSl, isPt, natOf, callee, snap, SV.refsL, SV.refs, thaw, fzAll, loA, hiA, elemOf, partsA, buildA, putCells, ↓reduceIte, reduceCtorEq, okCell, Nat.reduceAdd, Nat.reduceEqDiff, Nat.reduceSub, Nat.reduceMul, Nat.reduceLeDiff, Nat.reduceLT, Nat.reduceBEq, PV.scal, PV.scalL, SV.scal, SV.scalL, Ob.scal, PV.isCell, pure', resO]
    rw [hgx]
    exact finA_val (by simp [frN, frD, retA, rvA, mkE_cons, mk_nil, mkO_cons, mkO_nil, loadA, SV.tr, SV.trL, nmF, rn_nil, rn_cons1, rn_cons2, plainOb, SV.refsL, SV.refs, Ob.refs, X, F, List.range_succ, mkO, setO_mk]) (by simp [SV.tr, SV.trL])
  · have hb : ((y : Int) != 0) = true := bne_iff_ne.2 (by omega)
    have hz : ¬ (y : Int) = 0 := by omega
    have m1 := mod_wrap (a := x) (g := y) hx
    have hlt : x % y < y := Nat.mod_lt _ (by omega)
    simp only [hb, hz, m1, ↓SP, SQ, Gam.add, stepM, callC, argC, lendO, nmBy, nmC, likeL, likeB, plainOb, offs, exL, X, F, trP, trO, stepD, stepW, newA, SV.tr, SV.trL, fz, allP, Ob.tr, loadA, cellsA, SV.cells, binA, binI, eqOut, isSl, isPt, natOf, callee, snap, SV.refsL, SV.refs, thaw, fzAll, loA, hiA, elemOf, partsA, buildA, putCells, ↓reduceIte, reduceCtorEq, okCell, Nat.reduceAdd, Nat.reduceEqDiff, Nat.reduceSub, Nat.reduceMul, Nat.reduceLeDiff, Nat.reduceLT, Nat.reduceBEq, PV.scal, PV.scalL, SV.scal, SV.scalL, Ob.scal, PV.isCell, pure', resO]
    exact hN (y, x % y, _) _ _ ⟨gcd_step hg, hy, by simp only; omega⟩ (by simp only; omega) rfl rfl
theorem s_l7Cut {P : Program} (hm : P.follows .mixedOrders = true) {Γ : Gam} (hΓ : GS P Γ) {n : FuncId} {f_l1Most : FuncId} (is : Is P n (a_l7Cut f_l1Most)) (h_l1Most : Γ f_l1Most = c_l1Most)  : Says P n c_fraction := by
  refine Says.pure fun args r fs h => ?_
  split at h
  case h_2 => cases h
  rename_i a b
  split at h
  case isFalse => cases h
  rename_i hc
  simp only [ofI_ints, ofBo_bools, ofAs_asks, Option.some.injEq, Prod.mk.injEq] at h hc
  obtain ⟨rfl, rfl⟩ := h
  obtain ⟨h0, h1, h2, h3⟩ := hc
  obtain ⟨a, rfl⟩ : ∃ j : Nat, a = j := ⟨a.toNat, by omega⟩
  obtain ⟨b, rfl⟩ : ∃ j : Nat, b = j := ⟨b.toNat, by omega⟩
  simp only [Int.toNat_natCast]
  refine is.go hm hΓ k_l7Cut o_l7Cut (by simp [a_l7Cut]) ?_
  simp only [a_l7Cut, h_l1Most, c_l1Most, List.zipIdx_cons, List.zipIdx_nil, ↓SP, SQ, Gam.add, stepM, callC, argC, lendO, nmBy, nmC, likeL, likeB, plainOb, offs, exL, X, F, trP, trO, stepD, stepW, newA, SV.tr, SV.trL, fz, allP, Ob.tr, loadA, cellsA, SV.cells, binA, binI, eqOut, isSl, isPt, natOf, callee, snap, SV.refsL, SV.refs, thaw, fzAll, loA, hiA, elemOf, partsA, buildA, putCells, ↓reduceIte, reduceCtorEq, okCell, Nat.reduceAdd, Nat.reduceEqDiff, Nat.reduceSub, Nat.reduceMul, Nat.reduceLeDiff, Nat.reduceLT, Nat.reduceBEq, PV.scal, PV.scalL, SV.scal, SV.scalL, Ob.scal, PV.isCell, pure', resO]
  refine loop_at (fun s : Nat × Nat × SV => mkEnv [(0, si a), (1, si b), (4, .bx 4 0), (5, si s.1), (6, si s.2.1), (10, s.2.2)]) (fun s => mkO [(4, some (.box [si 0, si 0]))]) (fun s => Nat.gcd s.1 s.2.1 = Nat.gcd a b ∧ s.1 ≤ 4000000000000000000 ∧ s.2.1 ≤ 4000000000000000000) (fun s => s.2.1) (a, b, .junk) ⟨rfl, by simp only; omega, by simp only; omega⟩ rfl rfl ?_
  rintro ⟨x, y, c1⟩ ⟨hg, hx, hy⟩ R hR hN
  simp only at hg hx hy
  by_cases h : y = 0
  · have hb : ¬ (y : Int) > 0 := by omega
    have hgx : x = Nat.gcd a b := by rw [← hg, h, Nat.gcd_zero_right]
    have hgp : 0 < Nat.gcd a b := Nat.gcd_pos_of_pos_right a (by omega)
    have hz : ¬ (x : Int) = 0 := by omega
    have hmx : (if (x : Int) > 1 then (x : Int) else 1) = (x : Int) := by split <;> omega
    have d1 := div_wrap (a := a) (g := x) (by omega)
    have d2 := div_wrap (a := b) (g := x) (by omega)
    simp only [hb, ↓SP, SQ, Gam.add, stepM, callC, argC, lendO, nmBy, nmC, likeL, likeB, plainOb, offs, exL, X, F, trP, trO, stepD, stepW, newA, SV.tr, SV.trL, fz, allP, Ob.tr, loadA, cellsA, SV.cells, binA, binI, eqOut, isSl, isPt, natOf, callee, snap, SV.refsL, SV.refs, thaw, fzAll, loA, hiA, elemOf, partsA, buildA, putCells, ↓reduceIte, reduceCtorEq, okCell, Nat.reduceAdd, Nat.reduceEqDiff, Nat.reduceSub, Nat.reduceMul, Nat.reduceLeDiff, Nat.reduceLT, Nat.reduceBEq, PV.scal, PV.scalL, SV.scal, SV.scalL, Ob.scal, PV.isCell, pure', resO]
    refine hR _ _ _ (by intro h; cases h) ?_
    simp only [h_l1Most, c_l1Most, hmx, hz, d1, d2, ↓SP, SQ, Gam.add, stepM, callC, argC, lendO, nmBy, nmC, likeL, likeB, plainOb, offs, exL, X, F, trP, trO, stepD, stepW, newA, SV.tr, SV.trL, fz, allP, Ob.tr, loadA, cellsA, SV.cells, binA, binI, eqOut, isSl, isPt, natOf, callee, snap, SV.refsL, SV.refs, thaw, fzAll, loA, hiA, elemOf, partsA, buildA, putCells, ↓reduceIte, reduceCtorEq, okCell, Nat.reduceAdd, Nat.reduceEqDiff, Nat.reduceSub, Nat.reduceMul, Nat.reduceLeDiff, Nat.reduceLT, Nat.reduceBEq, PV.scal, PV.scalL, SV.scal, SV.scalL, Ob.scal, PV.isCell, pure', resO]
    rw [hgx]
    exact finA_val (by simp [frN, frD, retA, rvA, mkE_cons, mk_nil, mkO_cons, mkO_nil, loadA, SV.tr, SV.trL, nmF, rn_nil, rn_cons1, rn_cons2, plainOb, SV.refsL, SV.refs, Ob.refs, X, F, List.range_succ, mkO, setO_mk]) (by simp [SV.tr, SV.trL])
  · have hb : (y : Int) > 0 := by omega
    have hz : ¬ (y : Int) = 0 := by omega
    have m1 := mod_wrap (a := x) (g := y) hx
    have hlt : x % y < y := Nat.mod_lt _ (by omega)
    simp only [hb, hz, m1, ↓SP, SQ, Gam.add, stepM, callC, argC, lendO, nmBy, nmC, likeL, likeB, plainOb, offs, exL, X, F, trP, trO, stepD, stepW, newA, SV.tr, SV.trL, fz, allP, Ob.tr, loadA, cellsA, SV.cells, binA, binI, eqOut, isSl, isPt, natOf, callee, snap, SV.refsL, SV.refs, thaw, fzAll, loA, hiA, elemOf, partsA, buildA, putCells, ↓reduceIte, reduceCtorEq, okCell, Nat.reduceAdd, Nat.reduceEqDiff, Nat.reduceSub, Nat.reduceMul, Nat.reduceLeDiff, Nat.reduceLT, Nat.reduceBEq, PV.scal, PV.scalL, SV.scal, SV.scalL, Ob.scal, PV.isCell, pure', resO]
    exact hN (y, x % y, _) _ _ ⟨gcd_step hg, hy, by simp only; omega⟩ (by simp only; omega) rfl rfl
theorem wrap_nat {a : Nat} (h : a < 2 ^ 63) : IntKind.i64.wrap (a : Int) = (a : Int) := wrap64 (by omega) (by omega)
def a_l3Ways : AFn := ⟨2, 
  .seq (.reg [⟨some 4, none, .d (.mv (.c (.int .i64 0)))⟩])
  (.seq (.reg [⟨some 5, none, .d (.mv (.c (.int .i64 1)))⟩])
  (.seq (.seq (.reg [⟨some 6, none, .d (.mv (.c (.int .i64 0)))⟩])
  (.block 0 (.loop (.seq (.seq (.reg [⟨some 7, none, .d (.mv (.t 6))⟩,
      ⟨some 8, none, .d (.mv (.t 1))⟩,
      ⟨some 9, none, .d (.bin .arith .lss (.t 7) (.t 8))⟩])
    (.cond (.t 9) (.skip) (.exit 0)))
    (.seq (.block 1 (.reg [⟨some 12, none, .d (.mv (.t 5))⟩,
       ⟨some 13, none, .d (.mv (.t 0))⟩,
       ⟨some 14, none, .d (.mv (.t 6))⟩,
       ⟨some 15, none, .d (.bin .arith .sub (.t 13) (.t 14))⟩,
       ⟨some 16, none, .d (.bin .arith .mul (.t 12) (.t 15))⟩,
       ⟨some 17, none, .d (.mv (.t 6))⟩,
       ⟨some 18, none, .d (.bin .arith .add (.t 17) (.c (.int .i64 1)))⟩,
       ⟨some 19, none, .d (.bin .arith .quo (.t 16) (.t 18))⟩,
       ⟨some 5, none, .d (.mv (.t 19))⟩]))
    (.reg [⟨some 10, none, .d (.mv (.t 6))⟩,
      ⟨some 11, none, .d (.bin .arith .add (.t 10) (.c (.int .i64 1)))⟩,
      ⟨some 6, none, .d (.mv (.t 11))⟩]))))))
  (.seq (.reg [⟨some 20, none, .d (.mv (.t 5))⟩,
    ⟨some 4, none, .d (.mv (.t 20))⟩])
  (.ret)))), [.tmp 4]⟩
def n_l3Ways : Nat → Option Ann := fun _ => none
abbrev k_l3Ways : List Nat := [0, 1, 4, 5, 6, 9]
abbrev o_l3Ways : List Nat := []
theorem s_l3Ways {P : Program} (hm : P.follows .mixedOrders = true) {Γ : Gam} (hΓ : GS P Γ) {n : FuncId} (is : Is P n a_l3Ways)  : Says P n c_ways := by
  refine Says.pure fun args r fs h => ?_
  split at h
  case h_2 => cases h
  rename_i n r
  split at h
  case isFalse => cases h
  rename_i hc
  simp only [Option.some.injEq, Prod.mk.injEq] at h
  obtain ⟨rfl, rfl⟩ := h
  obtain ⟨h0, h1, h2, h3⟩ := hc
  obtain ⟨n, rfl⟩ : ∃ j : Nat, n = j := ⟨n.toNat, by omega⟩
  obtain ⟨r, rfl⟩ : ∃ j : Nat, r = j := ⟨r.toNat, by omega⟩
  simp only [Int.toNat_natCast]
  refine is.go hm hΓ k_l3Ways o_l3Ways (by simp [a_l3Ways]) ?_
  simp only [a_l3Ways, List.zipIdx_cons, List.zipIdx_nil, ↓SP, SQ, Gam.add, stepM, callC, argC, lendO, nmBy, nmC, likeL, likeB, plainOb, offs, exL, X, F, trP, trO, stepD, stepW, newA, SV.tr, SV.trL, fz, allP, Ob.tr, loadA, cellsA, SV.cells, binA, binI, eqOut, isSl, isPt, natOf, callee, snap, SV.refsL, SV.refs, thaw, fzAll, loA, hiA, elemOf, partsA, buildA, putCells, ↓reduceIte, reduceCtorEq, okCell, Nat.reduceAdd, Nat.reduceEqDiff, Nat.reduceSub, Nat.reduceMul, Nat.reduceLeDiff, Nat.reduceLT, Nat.reduceBEq, PV.scal, PV.scalL, SV.scal, SV.scalL, Ob.scal, PV.isCell, pure', resO]
  refine loop_at (fun s : Nat × SV => mkEnv [(0, si n), (1, si r), (4, si 0), (5, si (Wn n s.1)), (6, si s.1), (9, s.2)]) (fun s => mkO []) (fun s => s.1 ≤ r) (fun s => r - s.1) (0, .junk) (by simp) rfl rfl ?_
  rintro ⟨i, c1⟩ hi R hR hN
  simp only at hi
  by_cases h : i < r
  · have h1' : (i : Int) < r := by omega
    have hw := wrap_one (i := i) (by omega)
    have hz : ¬ ((i + 1 : Nat) : Int) = 0 := by omega
    simp only [h1', hw, W_sub (show i ≤ n by omega) (by omega), W_mul (show i ≤ n by omega) (by omega), W_div (show i ≤ n by omega) (by omega), hz, ↓SP, SQ, Gam.add, stepM, callC, argC, lendO, nmBy, nmC, likeL, likeB, plainOb, offs, exL, X, F, trP, trO, stepD, stepW, newA, SV.tr, SV.trL, fz, allP, Ob.tr, loadA, cellsA, SV.cells, binA, binI, eqOut, isSl, isPt, natOf, callee, snap, SV.refsL, SV.refs, thaw, fzAll, loA, hiA, elemOf, partsA, buildA, putCells, ↓reduceIte, reduceCtorEq, okCell, Nat.reduceAdd, Nat.reduceEqDiff, Nat.reduceSub, Nat.reduceMul, Nat.reduceLeDiff, Nat.reduceLT, Nat.reduceBEq, PV.scal, PV.scalL, SV.scal, SV.scalL, Ob.scal, PV.isCell, pure', resO]
    exact hN (i + 1, _) _ _ (by simp only; omega) (by simp only; omega) rfl rfl
  · have he : i = r := by omega
    have h1' : ¬ (i : Int) < r := by omega
    simp only [h1', ↓SP, SQ, Gam.add, stepM, callC, argC, lendO, nmBy, nmC, likeL, likeB, plainOb, offs, exL, X, F, trP, trO, stepD, stepW, newA, SV.tr, SV.trL, fz, allP, Ob.tr, loadA, cellsA, SV.cells, binA, binI, eqOut, isSl, isPt, natOf, callee, snap, SV.refsL, SV.refs, thaw, fzAll, loA, hiA, elemOf, partsA, buildA, putCells, ↓reduceIte, reduceCtorEq, okCell, Nat.reduceAdd, Nat.reduceEqDiff, Nat.reduceSub, Nat.reduceMul, Nat.reduceLeDiff, Nat.reduceLT, Nat.reduceBEq, PV.scal, PV.scalL, SV.scal, SV.scalL, Ob.scal, PV.isCell, pure', resO]
    refine hR _ _ _ (by intro h; cases h) ?_
    simp only [↓SP, SQ, Gam.add, stepM, callC, argC, lendO, nmBy, nmC, likeL, likeB, plainOb, offs, exL, X, F, trP, trO, stepD, stepW, newA, SV.tr, SV.trL, fz, allP, Ob.tr, loadA, cellsA, SV.cells, binA, binI, eqOut, isSl, isPt, natOf, callee, snap, SV.refsL, SV.refs, thaw, fzAll, loA, hiA, elemOf, partsA, buildA, putCells, ↓reduceIte, reduceCtorEq, okCell, Nat.reduceAdd, Nat.reduceEqDiff, Nat.reduceSub, Nat.reduceMul, Nat.reduceLeDiff, Nat.reduceLT, Nat.reduceBEq, PV.scal, PV.scalL, SV.scal, SV.scalL, Ob.scal, PV.isCell, pure', resO]
    subst he
    exact finA_val (by simp [retA, rvA, mkE_cons, mk_nil, mkO_cons, mkO_nil, loadA, SV.tr, SV.trL, nmF, rn_nil, rn_cons1, rn_cons2, plainOb, SV.refsL, SV.refs, Ob.refs, X, F, List.range_succ, mkO, setO_mk]) (by simp [SV.tr, SV.trL])
/-- All shares with fewer than k lies. -/
def inB (s o n : Nat) : Nat → Nat
  | 0 => 0
  | k + 1 => inB s o n k + Wn n k * partN s o n k
theorem inB_step {s o n k : Nat} (h1 : s ≤ o) (h2 : o ≤ 10) (h3 : k ≤ n) (h4 : n ≤ 12) : Wn n k * partN s o n k ≤ 200000000000000000 := by
  have a := Wn_le n (by omega) k (by omega)
  have b := partN_le h1 h2 h3 h4
  exact Nat.le_trans (Nat.mul_le_mul a b) (by decide)
theorem inB_le {s o n : Nat} (h1 : s ≤ o) (h2 : o ≤ 10) (h4 : n ≤ 12) : ∀ k, k ≤ n + 1 → inB s o n k ≤ 200000000000000000 * k
  | 0, _ => by simp [inB]
  | k + 1, hk => by
    have a := inB_le h1 h2 h4 k (by omega)
    have b := inB_step h1 h2 (show k ≤ n by omega) h4
    simp only [inB]; omega
def a_ofAny (f_ways : FuncId) (f_ofThese : FuncId) : AFn := ⟨3, 
  .seq (.reg [⟨some 3, none, .w (.box 2 (.t 0))⟩,
    ⟨some 6, none, .d (.mv (.c (.int .i64 0)))⟩])
  (.seq (.dreg [] [([], ⟨some 7, none, .d (.mv (.t 1))⟩),
    ([], ⟨some 8, none, .d (.mv (.t 2))⟩),
    ([], ⟨some 9, none, .d (.call (.f f_ways) [(.t 7), (.t 8)])⟩),
    ([], ⟨some 10, none, .d (.load true 2 (.t 3))⟩),
    ([], ⟨some 11, none, .d (.mv (.t 1))⟩),
    ([], ⟨some 12, none, .d (.mv (.t 2))⟩)] [⟨some 13, none, .d (.call (.f f_ofThese) [(.t 10), (.t 11), (.t 12)])⟩,
    ⟨some 14, none, .d (.bin .arith .mul (.t 9) (.t 13))⟩,
    ⟨some 6, none, .d (.mv (.t 14))⟩])
  (.ret)), [.tmp 6]⟩
def n_ofAny : Nat → Option Ann := fun _ => none
abbrev k_ofAny : List Nat := [0, 1, 2, 3, 6]
abbrev o_ofAny : List Nat := [3]
def c_ofAny : Con := pure' fun
  | [.p (.agg [.int .i64 s, .int .i64 o]), .p (.int .i64 n), .p (.int .i64 k)] => if (isD s o = true ∧ 0 ≤ k ∧ k ≤ n ∧ n ≤ 12) then some (.p (.int .i64 ((Wn n.toNat k.toNat * partN s.toNat o.toNat n.toNat k.toNat : Nat) : Int)), []) else none
  | _ => none
theorem s_ofAny {P : Program} (hm : P.follows .mixedOrders = true) {Γ : Gam} (hΓ : GS P Γ) {n : FuncId} {f_ways : FuncId} {f_ofThese : FuncId} (is : Is P n (a_ofAny f_ways f_ofThese)) (h_ways : Γ f_ways = c_ways) (h_ofThese : Γ f_ofThese = c_ofThese)  : Says P n c_ofAny := by
  refine Says.pure fun args r fs h => ?_
  split at h
  case h_2 => cases h
  rename_i s o n k
  split at h
  case isFalse => cases h
  rename_i hc
  simp only [ofI_ints, ofBo_bools, ofAs_asks, Option.some.injEq, Prod.mk.injEq] at h hc
  obtain ⟨rfl, rfl⟩ := h
  obtain ⟨hd, h2, h3, h4⟩ := hc
  obtain ⟨d1, d2, d3, d4⟩ := isD_out hd
  have g1 : 0 ≤ n := by omega
  have g2 : n ≤ 20 := by omega
  have hst := inB_step (s := s.toNat) (o := o.toNat) (n := n.toNat) (k := k.toNat) (by omega) (by omega) (by omega) (by omega)
  have hm2 : IntKind.i64.wrap ((Wn n.toNat k.toNat : Int) * (partN s.toNat o.toNat n.toNat k.toNat : Int)) = ((Wn n.toNat k.toNat * partN s.toNat o.toNat n.toNat k.toNat : Nat) : Int) := by
    rw [← Int.natCast_mul]
    exact wrap_nat (by omega)
  refine is.go hm hΓ k_ofAny o_ofAny (by simp [a_ofAny]) ?_
  simp only [a_ofAny, h_ways, c_ways, h_ofThese, c_ofThese, hd, h2, h3, h4, g1, g2, hm2, List.zipIdx_cons, List.zipIdx_nil, ↓SP, SQ, Gam.add, stepM, callC, argC, lendO, nmBy, nmC, likeL, likeB, plainOb, offs, exL, X, F, trP, trO, stepD, stepW, newA, SV.tr, SV.trL, fz, allP, Ob.tr, loadA, cellsA, SV.cells, binA, binI, eqOut, isSl, isPt, natOf, callee, snap, SV.refsL, SV.refs, thaw, fzAll, loA, hiA, elemOf, partsA, buildA, putCells, ↓reduceIte, reduceCtorEq, okCell, Nat.reduceAdd, Nat.reduceEqDiff, Nat.reduceSub, Nat.reduceMul, Nat.reduceLeDiff, Nat.reduceLT, Nat.reduceBEq, PV.scal, PV.scalL, SV.scal, SV.scalL, Ob.scal, PV.isCell, pure', resO]
  exact finA_val (by simp [retA, rvA, mkE_cons, mk_nil, mkO_cons, mkO_nil, loadA, SV.tr, SV.trL, nmF, rn_nil, rn_cons1, rn_cons2, plainOb, SV.refsL, SV.refs, Ob.refs, X, F, List.range_succ, mkO, setO_mk]) (by simp [SV.tr, SV.trL])
def a_dWithin (f_ofAny : FuncId) : AFn := ⟨3, 
  .seq (.reg [⟨some 3, none, .w (.box 2 (.t 0))⟩,
    ⟨some 6, none, .d (.mv (.c (.int .i64 0)))⟩])
  (.seq (.reg [⟨some 7, none, .d (.mv (.c (.int .i64 0)))⟩])
  (.seq (.seq (.reg [⟨some 9, none, .d (.mv (.t 2))⟩,
    ⟨some 10, none, .d (.bin .arith .add (.t 9) (.c (.int .i64 1)))⟩,
    ⟨some 11, none, .d (.mv (.c (.int .i64 0)))⟩])
  (.block 0 (.loop (.seq (.reg [⟨some 12, none, .d (.bin .arith .lss (.t 11) (.t 10))⟩])
    (.seq (.cond (.t 12) (.skip) (.exit 0))
    (.seq (.block 1 (.seq (.reg [⟨some 13, none, .d (.mv (.t 11))⟩,
       ⟨some 8, none, .d (.mv (.t 13))⟩])
     (.reg [⟨some 14, none, .d (.mv (.t 7))⟩,
       ⟨some 15, none, .d (.load true 2 (.t 3))⟩,
       ⟨some 16, none, .d (.mv (.t 1))⟩,
       ⟨some 17, none, .d (.mv (.t 8))⟩,
       ⟨some 18, none, .d (.call (.f f_ofAny) [(.t 15), (.t 16), (.t 17)])⟩,
       ⟨some 19, none, .d (.bin .arith .add (.t 14) (.t 18))⟩,
       ⟨some 7, none, .d (.mv (.t 19))⟩])))
    (.reg [⟨some 20, none, .d (.bin .arith .add (.t 11) (.c (.int .i64 1)))⟩,
      ⟨some 11, none, .d (.mv (.t 20))⟩])))))))
  (.seq (.reg [⟨some 21, none, .d (.mv (.t 7))⟩,
    ⟨some 6, none, .d (.mv (.t 21))⟩])
  (.ret)))), [.tmp 6]⟩
def n_dWithin : Nat → Option Ann := fun _ => none
abbrev k_dWithin : List Nat := [0, 1, 2, 3, 6, 7, 8, 10, 11, 12]
abbrev o_dWithin : List Nat := [3]
def a_l7Within (f_l3Ways : FuncId) (f_l7Parts : FuncId) : AFn := ⟨3, 
  .seq (.reg [⟨some 5, none, .w (.box 2 (.t 2))⟩,
    ⟨some 6, none, .d (.mv (.c (.int .i64 0)))⟩])
  (.seq (.reg [⟨some 7, none, .d (.mv (.c (.int .i64 0)))⟩])
  (.seq (.seq (.reg [⟨some 8, none, .d (.mv (.c (.int .i64 0)))⟩])
  (.block 0 (.loop (.seq (.seq (.reg [⟨some 9, none, .d (.mv (.t 8))⟩,
      ⟨some 10, none, .d (.mv (.t 1))⟩,
      ⟨some 11, none, .d (.bin .arith .leq (.t 9) (.t 10))⟩])
    (.cond (.t 11) (.skip) (.exit 0)))
    (.seq (.block 1 (.dreg [] [([], ⟨some 14, none, .d (.mv (.t 7))⟩),
       ([], ⟨some 15, none, .d (.mv (.t 0))⟩),
       ([], ⟨some 16, none, .d (.mv (.t 8))⟩),
       ([], ⟨some 17, none, .d (.call (.f f_l3Ways) [(.t 15), (.t 16)])⟩),
       ([], ⟨some 18, none, .d (.mv (.t 0))⟩),
       ([], ⟨some 19, none, .d (.mv (.t 8))⟩),
       ([], ⟨some 20, none, .d (.load true 2 (.t 5))⟩),
       ([], ⟨some 21, none, .d (.call (.f f_l7Parts) [(.t 18), (.t 19), (.t 20)])⟩),
       ([], ⟨some 22, none, .d (.bin .arith .mul (.t 17) (.t 21))⟩)] [⟨some 23, none, .d (.bin .arith .add (.t 14) (.t 22))⟩,
       ⟨some 7, none, .d (.mv (.t 23))⟩]))
    (.reg [⟨some 12, none, .d (.mv (.t 8))⟩,
      ⟨some 13, none, .d (.bin .arith .add (.t 12) (.c (.int .i64 1)))⟩,
      ⟨some 8, none, .d (.mv (.t 13))⟩]))))))
  (.seq (.reg [⟨some 24, none, .d (.mv (.t 7))⟩,
    ⟨some 6, none, .d (.mv (.t 24))⟩])
  (.ret)))), [.tmp 6]⟩
def n_l7Within : Nat → Option Ann := fun _ => none
abbrev k_l7Within : List Nat := [0, 1, 2, 5, 6, 7, 8, 11]
abbrev o_l7Within : List Nat := [5]
def c_dWithin : Con := pure' fun
  | [.p (.agg [.int .i64 s, .int .i64 o]), .p (.int .i64 n), .p (.int .i64 k)] => if (isD s o = true ∧ 0 ≤ k ∧ k ≤ n ∧ n ≤ 12) then some (.p (.int .i64 (inB s.toNat o.toNat n.toNat (k.toNat + 1) : Int)), []) else none
  | _ => none
theorem s_dWithin {P : Program} (hm : P.follows .mixedOrders = true) {Γ : Gam} (hΓ : GS P Γ) {n : FuncId} {f_ofAny : FuncId} (is : Is P n (a_dWithin f_ofAny)) (h_ofAny : Γ f_ofAny = c_ofAny)  : Says P n c_dWithin := by
  refine Says.pure fun args r fs h => ?_
  split at h
  case h_2 => cases h
  rename_i s o n k
  split at h
  case isFalse => cases h
  rename_i hc
  simp only [ofI_ints, ofBo_bools, ofAs_asks, Option.some.injEq, Prod.mk.injEq] at h hc
  obtain ⟨rfl, rfl⟩ := h
  obtain ⟨hd, h2, h3, h4⟩ := hc
  obtain ⟨d1, d2, d3, d4⟩ := isD_out hd
  obtain ⟨n, rfl⟩ : ∃ j : Nat, n = j := ⟨n.toNat, by omega⟩
  obtain ⟨k, rfl⟩ : ∃ j : Nat, k = j := ⟨k.toNat, by omega⟩
  simp only [Int.toNat_natCast]
  have hwk := wrap_one (i := k) (by omega)
  refine is.go hm hΓ k_dWithin o_dWithin (by simp [a_dWithin]) ?_
  simp only [a_dWithin, h_ofAny, c_ofAny, hwk, List.zipIdx_cons, List.zipIdx_nil, ↓SP, SQ, Gam.add, stepM, callC, argC, lendO, nmBy, nmC, likeL, likeB, plainOb, offs, exL, X, F, trP, trO, stepD, stepW, newA, SV.tr, SV.trL, fz, allP, Ob.tr, loadA, cellsA, SV.cells, binA, binI, eqOut, isSl, isPt, natOf, callee, snap, SV.refsL, SV.refs, thaw, fzAll, loA, hiA, elemOf, partsA, buildA, putCells, ↓reduceIte, reduceCtorEq, okCell, Nat.reduceAdd, Nat.reduceEqDiff, Nat.reduceSub, Nat.reduceMul, Nat.reduceLeDiff, Nat.reduceLT, Nat.reduceBEq, PV.scal, PV.scalL, SV.scal, SV.scalL, Ob.scal, PV.isCell, pure', resO]
  refine loop_at (fun s' : Nat × SV × SV => mkEnv [(0, .p (.agg [.int .i64 s, .int .i64 o])), (1, si n), (2, si k), (3, .bx 3 0), (6, si 0), (7, si (inB s.toNat o.toNat n s'.1)), (8, s'.2.1), (10, si ((k + 1 : Nat) : Int)), (11, si s'.1), (12, s'.2.2)]) (fun s' => mkO [(3, some (.box [si s, si o]))]) (fun s' => s'.1 ≤ k + 1) (fun s' => k + 1 - s'.1) (0, .junk, .junk) (by simp) rfl rfl ?_
  rintro ⟨i, c1, c2⟩ hi R hR hN
  simp only at hi
  by_cases h : i < k + 1
  · have h1' : (i : Int) < ((k + 1 : Nat) : Int) := by omega
    have hw := wrap_one (i := i) (by omega)
    have g1 : (0 : Int) ≤ i := by omega
    have g2 : (i : Int) ≤ n := by omega
    have b1 := inB_le (s := s.toNat) (o := o.toNat) (n := n) (by omega) (by omega) (by omega) (i + 1) (by omega)
    have hadd : IntKind.i64.wrap ((inB s.toNat o.toNat n i : Int) + ((Wn n i * partN s.toNat o.toNat n i : Nat) : Int)) = (inB s.toNat o.toNat n (i + 1) : Int) := by
      rw [← Int.natCast_add]
      show IntKind.i64.wrap ((inB s.toNat o.toNat n (i + 1) : Nat) : Int) = _
      exact wrap_nat (by omega)
    simp only [h1', hw, hd, g1, g2, h4, h_ofAny, c_ofAny, Int.toNat_natCast, hadd, ↓SP, SQ, Gam.add, stepM, callC, argC, lendO, nmBy, nmC, likeL, likeB, plainOb, offs, exL, X, F, trP, trO, stepD, stepW, newA, SV.tr, SV.trL, fz, allP, Ob.tr, loadA, cellsA, SV.cells, binA, binI, eqOut, isSl, isPt, natOf, callee, snap, SV.refsL, SV.refs, thaw, fzAll, loA, hiA, elemOf, partsA, buildA, putCells, ↓reduceIte, reduceCtorEq, okCell, Nat.reduceAdd, Nat.reduceEqDiff, Nat.reduceSub, Nat.reduceMul, Nat.reduceLeDiff, Nat.reduceLT, Nat.reduceBEq, PV.scal, PV.scalL, SV.scal, SV.scalL, Ob.scal, PV.isCell, pure', resO]
    exact hN (i + 1, _, _) _ _ (by simp only; omega) (by simp only; omega) rfl rfl
  · have he : i = k + 1 := by omega
    have h1' : ¬ (i : Int) < ((k + 1 : Nat) : Int) := by omega
    simp only [h1', ↓SP, SQ, Gam.add, stepM, callC, argC, lendO, nmBy, nmC, likeL, likeB, plainOb, offs, exL, X, F, trP, trO, stepD, stepW, newA, SV.tr, SV.trL, fz, allP, Ob.tr, loadA, cellsA, SV.cells, binA, binI, eqOut, isSl, isPt, natOf, callee, snap, SV.refsL, SV.refs, thaw, fzAll, loA, hiA, elemOf, partsA, buildA, putCells, ↓reduceIte, reduceCtorEq, okCell, Nat.reduceAdd, Nat.reduceEqDiff, Nat.reduceSub, Nat.reduceMul, Nat.reduceLeDiff, Nat.reduceLT, Nat.reduceBEq, PV.scal, PV.scalL, SV.scal, SV.scalL, Ob.scal, PV.isCell, pure', resO]
    refine hR _ _ _ (by intro h; cases h) ?_
    simp only [↓SP, SQ, Gam.add, stepM, callC, argC, lendO, nmBy, nmC, likeL, likeB, plainOb, offs, exL, X, F, trP, trO, stepD, stepW, newA, SV.tr, SV.trL, fz, allP, Ob.tr, loadA, cellsA, SV.cells, binA, binI, eqOut, isSl, isPt, natOf, callee, snap, SV.refsL, SV.refs, thaw, fzAll, loA, hiA, elemOf, partsA, buildA, putCells, ↓reduceIte, reduceCtorEq, okCell, Nat.reduceAdd, Nat.reduceEqDiff, Nat.reduceSub, Nat.reduceMul, Nat.reduceLeDiff, Nat.reduceLT, Nat.reduceBEq, PV.scal, PV.scalL, SV.scal, SV.scalL, Ob.scal, PV.isCell, pure', resO]
    subst he
    exact finA_val (by simp [retA, rvA, mkE_cons, mk_nil, mkO_cons, mkO_nil, loadA, SV.tr, SV.trL, nmF, rn_nil, rn_cons1, rn_cons2, plainOb, SV.refsL, SV.refs, Ob.refs, X, F, List.range_succ, mkO, setO_mk]) (by simp [SV.tr, SV.trL])
def c_l7Within : Con := pure' fun
  | [.p (.int .i64 n), .p (.int .i64 k), .p (.agg [.int .i64 s, .int .i64 o])] => if (isD s o = true ∧ 0 ≤ k ∧ k ≤ n ∧ n ≤ 12) then some (.p (.int .i64 (inB s.toNat o.toNat n.toNat (k.toNat + 1) : Int)), []) else none
  | _ => none
theorem s_l7Within {P : Program} (hm : P.follows .mixedOrders = true) {Γ : Gam} (hΓ : GS P Γ) {n : FuncId} {f_l3Ways : FuncId} {f_l7Parts : FuncId} (is : Is P n (a_l7Within f_l3Ways f_l7Parts)) (h_l3Ways : Γ f_l3Ways = c_ways) (h_l7Parts : Γ f_l7Parts = c_l7Parts)  : Says P n c_l7Within := by
  refine Says.pure fun args r fs h => ?_
  split at h
  case h_2 => cases h
  rename_i n k s o
  split at h
  case isFalse => cases h
  rename_i hc
  simp only [ofI_ints, ofBo_bools, ofAs_asks, Option.some.injEq, Prod.mk.injEq] at h hc
  obtain ⟨rfl, rfl⟩ := h
  obtain ⟨hd, h2, h3, h4⟩ := hc
  obtain ⟨d1, d2, d3, d4⟩ := isD_out hd
  obtain ⟨n, rfl⟩ : ∃ j : Nat, n = j := ⟨n.toNat, by omega⟩
  obtain ⟨k, rfl⟩ : ∃ j : Nat, k = j := ⟨k.toNat, by omega⟩
  simp only [Int.toNat_natCast]
  refine is.go hm hΓ k_l7Within o_l7Within (by simp [a_l7Within]) ?_
  simp only [a_l7Within, h_l3Ways, c_ways, h_l7Parts, c_l7Parts, List.zipIdx_cons, List.zipIdx_nil, ↓SP, SQ, Gam.add, stepM, callC, argC, lendO, nmBy, nmC, likeL, likeB, plainOb, offs, exL, X, F, trP, trO, stepD, stepW, newA, SV.tr, SV.trL, fz, allP, Ob.tr, loadA, cellsA, SV.cells, binA, binI, eqOut, isSl, isPt, natOf, callee, snap, SV.refsL, SV.refs, thaw, fzAll, loA, hiA, elemOf, partsA, buildA, putCells, ↓reduceIte, reduceCtorEq, okCell, Nat.reduceAdd, Nat.reduceEqDiff, Nat.reduceSub, Nat.reduceMul, Nat.reduceLeDiff, Nat.reduceLT, Nat.reduceBEq, PV.scal, PV.scalL, SV.scal, SV.scalL, Ob.scal, PV.isCell, pure', resO]
  refine loop_at (fun s' : Nat × SV => mkEnv [(0, si n), (1, si k), (2, .p (.agg [.int .i64 s, .int .i64 o])), (5, .bx 5 0), (6, si 0), (7, si (inB s.toNat o.toNat n s'.1)), (8, si s'.1), (11, s'.2)]) (fun s' => mkO [(5, some (.box [si s, si o]))]) (fun s' => s'.1 ≤ k + 1) (fun s' => k + 1 - s'.1) (0, .junk) (by simp) rfl rfl ?_
  rintro ⟨i, c1⟩ hi R hR hN
  simp only at hi
  by_cases h : i ≤ k
  · have h1' : (i : Int) ≤ k := by omega
    have hw := wrap_one (i := i) (by omega)
    have g0 : (0 : Int) ≤ n := by omega
    have g1 : (0 : Int) ≤ i := by omega
    have g2 : (i : Int) ≤ n := by omega
    have g3 : (n : Int) ≤ 20 := by omega
    have b1 := inB_le (s := s.toNat) (o := o.toNat) (n := n) (by omega) (by omega) (by omega) (i + 1) (by omega)
    have hst := inB_step (s := s.toNat) (o := o.toNat) (n := n) (k := i) (by omega) (by omega) (by omega) (by omega)
    have hm2 : IntKind.i64.wrap ((Wn n i : Int) * (partN s.toNat o.toNat n i : Int)) = ((Wn n i * partN s.toNat o.toNat n i : Nat) : Int) := by
      rw [← Int.natCast_mul]
      exact wrap_nat (by omega)
    have hadd : IntKind.i64.wrap ((inB s.toNat o.toNat n i : Int) + ((Wn n i * partN s.toNat o.toNat n i : Nat) : Int)) = (inB s.toNat o.toNat n (i + 1) : Int) := by
      rw [← Int.natCast_add]
      show IntKind.i64.wrap ((inB s.toNat o.toNat n (i + 1) : Nat) : Int) = _
      exact wrap_nat (by omega)
    simp only [h1', hw, hd, g0, g1, g2, g3, h4, h_l3Ways, c_ways, h_l7Parts, c_l7Parts, Int.toNat_natCast, hm2, hadd, ↓SP, SQ, Gam.add, stepM, callC, argC, lendO, nmBy, nmC, likeL, likeB, plainOb, offs, exL, X, F, trP, trO, stepD, stepW, newA, SV.tr, SV.trL, fz, allP, Ob.tr, loadA, cellsA, SV.cells, binA, binI, eqOut, isSl, isPt, natOf, callee, snap, SV.refsL, SV.refs, thaw, fzAll, loA, hiA, elemOf, partsA, buildA, putCells, ↓reduceIte, reduceCtorEq, okCell, Nat.reduceAdd, Nat.reduceEqDiff, Nat.reduceSub, Nat.reduceMul, Nat.reduceLeDiff, Nat.reduceLT, Nat.reduceBEq, PV.scal, PV.scalL, SV.scal, SV.scalL, Ob.scal, PV.isCell, pure', resO]
    exact hN (i + 1, _) _ _ (by simp only; omega) (by simp only; omega) rfl rfl
  · have he : i = k + 1 := by omega
    have h1' : ¬ (i : Int) ≤ k := by omega
    simp only [h1', ↓SP, SQ, Gam.add, stepM, callC, argC, lendO, nmBy, nmC, likeL, likeB, plainOb, offs, exL, X, F, trP, trO, stepD, stepW, newA, SV.tr, SV.trL, fz, allP, Ob.tr, loadA, cellsA, SV.cells, binA, binI, eqOut, isSl, isPt, natOf, callee, snap, SV.refsL, SV.refs, thaw, fzAll, loA, hiA, elemOf, partsA, buildA, putCells, ↓reduceIte, reduceCtorEq, okCell, Nat.reduceAdd, Nat.reduceEqDiff, Nat.reduceSub, Nat.reduceMul, Nat.reduceLeDiff, Nat.reduceLT, Nat.reduceBEq, PV.scal, PV.scalL, SV.scal, SV.scalL, Ob.scal, PV.isCell, pure', resO]
    refine hR _ _ _ (by intro h; cases h) ?_
    simp only [↓SP, SQ, Gam.add, stepM, callC, argC, lendO, nmBy, nmC, likeL, likeB, plainOb, offs, exL, X, F, trP, trO, stepD, stepW, newA, SV.tr, SV.trL, fz, allP, Ob.tr, loadA, cellsA, SV.cells, binA, binI, eqOut, isSl, isPt, natOf, callee, snap, SV.refsL, SV.refs, thaw, fzAll, loA, hiA, elemOf, partsA, buildA, putCells, ↓reduceIte, reduceCtorEq, okCell, Nat.reduceAdd, Nat.reduceEqDiff, Nat.reduceSub, Nat.reduceMul, Nat.reduceLeDiff, Nat.reduceLT, Nat.reduceBEq, PV.scal, PV.scalL, SV.scal, SV.scalL, Ob.scal, PV.isCell, pure', resO]
    subst he
    exact finA_val (by simp [retA, rvA, mkE_cons, mk_nil, mkO_cons, mkO_nil, loadA, SV.tr, SV.trL, nmF, rn_nil, rn_cons1, rn_cons2, plainOb, SV.refsL, SV.refs, Ob.refs, X, F, List.range_succ, mkO, setO_mk]) (by simp [SV.tr, SV.trL])
def a_dOf (f_power : FuncId) (f_fraction : FuncId) : AFn := ⟨3, 
  .seq (.reg [⟨some 3, none, .w (.box 2 (.t 0))⟩,
    ⟨some 6, none, .w (.alloc [.int .i64 0, .int .i64 0])⟩])
  (.seq (.reg [⟨some 7, none, .d (.mv (.t 2))⟩,
    ⟨some 8, none, .d (.fa 1 (.t 3))⟩,
    ⟨some 9, none, .d (.load false 1 (.t 8))⟩,
    ⟨some 10, none, .d (.mv (.t 1))⟩,
    ⟨some 11, none, .d (.call (.f f_power) [(.t 9), (.t 10)])⟩,
    ⟨some 12, none, .d (.call (.f f_fraction) [(.t 7), (.t 11)])⟩,
    ⟨none, none, .w (.store 2 (.t 6) (.t 12))⟩])
  (.ret)), [.cell 6 2 true]⟩
def n_dOf : Nat → Option Ann := fun _ => none
abbrev k_dOf : List Nat := [0, 1, 2, 3, 6]
abbrev o_dOf : List Nat := [3, 6]
def c_dOf : Con := pure' fun
  | [.p (.agg [.int .i64 s, .int .i64 o]), .p (.int .i64 n), .p (.int .i64 x)] => if (isD s o = true ∧ 0 ≤ n ∧ n ≤ 12 ∧ 0 ≤ x ∧ x ≤ 4000000000000000000) then some (.ag [.p (.int .i64 (frN x.toNat (o.toNat ^ n.toNat))), .p (.int .i64 (frD x.toNat (o.toNat ^ n.toNat)))], []) else none
  | _ => none
theorem s_dOf {P : Program} (hm : P.follows .mixedOrders = true) {Γ : Gam} (hΓ : GS P Γ) {n : FuncId} {f_power : FuncId} {f_fraction : FuncId} (is : Is P n (a_dOf f_power f_fraction)) (h_power : Γ f_power = c_power) (h_fraction : Γ f_fraction = c_fraction)  : Says P n c_dOf := by
  refine Says.pure fun args r fs h => ?_
  split at h
  case h_2 => cases h
  rename_i s o n x
  split at h
  case isFalse => cases h
  rename_i hc
  simp only [ofI_ints, ofBo_bools, ofAs_asks, Option.some.injEq, Prod.mk.injEq] at h hc
  obtain ⟨rfl, rfl⟩ := h
  obtain ⟨hd, h2, h3, h4, h5⟩ := hc
  obtain ⟨d1, d2, d3, d4⟩ := isD_out hd
  have hp := pow_le (b := o.toNat) (e := n.toNat) (by omega) (by omega)
  have hpos : 0 < o.toNat ^ n.toNat := Nat.pow_pos (by omega)
  have g0 : 0 ≤ o := by omega
  have g1 : (0 : Int) < ((o.toNat ^ n.toNat : Nat) : Int) := by omega
  have g2 : ((o.toNat ^ n.toNat : Nat) : Int) ≤ 4000000000000000000 := by omega
  refine is.go hm hΓ k_dOf o_dOf (by simp [a_dOf]) ?_
  simp only [a_dOf, h_power, c_power, h_fraction, c_fraction, hd, d2, g0, h2, h3, h4, h5, g1, g2, Int.toNat_natCast, List.zipIdx_cons, List.zipIdx_nil, ↓SP, SQ, Gam.add, stepM, callC, argC, lendO, nmBy, nmC, likeL, likeB, plainOb, offs, exL, X, F, trP, trO, stepD, stepW, newA, SV.tr, SV.trL, fz, allP, Ob.tr, loadA, cellsA, SV.cells, binA, binI, eqOut, isSl, isPt, natOf, callee, snap, SV.refsL, SV.refs, thaw, fzAll, loA, hiA, elemOf, partsA, buildA, putCells, ↓reduceIte, reduceCtorEq, okCell, Nat.reduceAdd, Nat.reduceEqDiff, Nat.reduceSub, Nat.reduceMul, Nat.reduceLeDiff, Nat.reduceLT, Nat.reduceBEq, PV.scal, PV.scalL, SV.scal, SV.scalL, Ob.scal, PV.isCell, pure', resO]
  exact finA_val (by simp [retA, rvA, mkE_cons, mk_nil, mkO_cons, mkO_nil, loadA, SV.tr, SV.trL, nmF, rn_nil, rn_cons1, rn_cons2, plainOb, SV.refsL, SV.refs, Ob.refs, X, F, List.range_succ, mkO, setO_mk]) (by simp [SV.tr, SV.trL])
end Go.Proofs.Ytmbljmolegalhaa.Pam
