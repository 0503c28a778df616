/- A part of the proof that stands in this folder: a small machine whose steps are shown to be the steps of the model, or walks of functions by it. No condition of its own. -/
import Derived.Test.YtmbljmolegalhaaGdLD
set_option linter.unusedVariables false
set_option linter.unusedSimpArgs false
namespace Go.Proofs.Ytmbljmolegalhaa.Pam
open Go
/-- The ways to choose i of n, one after the other. -/
def Wn (n : Nat) : Nat → Nat
  | 0 => 1
  | i + 1 => Wn n i * (n - i) / (i + 1)
theorem Wn_le : ∀ n, n < 21 → ∀ i, i < 23 → Wn n i ≤ 200000 := by decide +kernel
theorem W_sub {n i : Nat} (h : i ≤ n) (hn : n < 21) : IntKind.i64.wrap ((n : Int) - (i : Int)) = ((n - i : Nat) : Int) := by rw [wrap64 (by omega) (by omega)]; omega
theorem W_mul {n i : Nat} (h : i ≤ n) (hn : n < 21) : IntKind.i64.wrap ((Wn n i : Int) * ((n - i : Nat) : Int)) = ((Wn n i * (n - i) : Nat) : Int) := by
  have h1 := Wn_le n hn i (by omega)
  have h2 : Wn n i * (n - i) ≤ 200000 * 21 := Nat.mul_le_mul h1 (by omega)
  rw [← Int.natCast_mul]
  exact wrap64 (by omega) (by omega)
theorem W_div {n i : Nat} (h : i ≤ n) (hn : n < 21) : IntKind.i64.wrap (((Wn n i * (n - i) : Nat) : Int).tdiv ((i + 1 : Nat) : Int)) = (Wn n (i + 1) : Int) := by
  have h1 := Wn_le n hn i (by omega)
  have h2 : Wn n i * (n - i) ≤ 200000 * 21 := Nat.mul_le_mul h1 (by omega)
  have h3 : Wn n i * (n - i) / (i + 1) ≤ Wn n i * (n - i) := Nat.div_le_self _ _
  have h4 : Wn n (i + 1) = Wn n i * (n - i) / (i + 1) := rfl
  rw [← Int.ofNat_tdiv, h4]
  generalize Wn n i * (n - i) / (i + 1) = q at *
  generalize Wn n i * (n - i) = p at *
  exact wrap64 (by omega) (by omega)
def a_ways : AFn := ⟨2, 
  .seq (.reg [⟨some 4, none, .d (.mv (.c (.int .i64 0)))⟩])
  (.seq (.reg [⟨some 5, none, .d (.mv (.c (.int .i64 1)))⟩])
  (.seq (.seq (.reg [⟨some 7, none, .d (.mv (.t 1))⟩,
    ⟨some 8, none, .d (.mv (.c (.int .i64 0)))⟩])
  (.block 0 (.loop (.seq (.reg [⟨some 9, none, .d (.bin .arith .lss (.t 8) (.t 7))⟩])
    (.seq (.cond (.t 9) (.skip) (.exit 0))
    (.seq (.block 1 (.seq (.reg [⟨some 10, none, .d (.mv (.t 8))⟩,
       ⟨some 6, none, .d (.mv (.t 10))⟩])
     (.reg [⟨some 11, none, .d (.mv (.t 5))⟩,
       ⟨some 12, none, .d (.mv (.t 0))⟩,
       ⟨some 13, none, .d (.mv (.t 6))⟩,
       ⟨some 14, none, .d (.bin .arith .sub (.t 12) (.t 13))⟩,
       ⟨some 15, none, .d (.bin .arith .mul (.t 11) (.t 14))⟩,
       ⟨some 16, none, .d (.mv (.t 6))⟩,
       ⟨some 17, none, .d (.bin .arith .add (.t 16) (.c (.int .i64 1)))⟩,
       ⟨some 18, none, .d (.bin .arith .quo (.t 15) (.t 17))⟩,
       ⟨some 5, none, .d (.mv (.t 18))⟩])))
    (.reg [⟨some 19, none, .d (.bin .arith .add (.t 8) (.c (.int .i64 1)))⟩,
      ⟨some 8, none, .d (.mv (.t 19))⟩])))))))
  (.seq (.reg [⟨some 20, none, .d (.mv (.t 5))⟩,
    ⟨some 4, none, .d (.mv (.t 20))⟩])
  (.ret)))), [.tmp 4]⟩
def n_ways : Nat → Option Ann := fun _ => none
abbrev k_ways : List Nat := [0, 1, 4, 5, 6, 7, 8, 9]
abbrev o_ways : List Nat := []
def c_ways : Con := pure' fun
  | [.p (.int .i64 n), .p (.int .i64 r)] => if (0 ≤ n ∧ n ≤ 20 ∧ 0 ≤ r ∧ r ≤ n) then some (.p (.int .i64 (Wn n.toNat r.toNat : Int)), []) else none
  | _ => none
theorem s_ways {P : Program} (hm : P.follows .mixedOrders = true) {Γ : Gam} (hΓ : GS P Γ) {n : FuncId} (is : Is P n a_ways)  : Says P n c_ways := by
  refine Says.pure fun args r fs h => ?_
  split at h
  case h_2 => cases h
  rename_i n r
  split at h
  case isFalse => cases h
  rename_i hc
  simp only [ofI_ints, ofBo_bools, ofAs_asks, Option.some.injEq, Prod.mk.injEq] at h hc
  obtain ⟨rfl, rfl⟩ := h
  obtain ⟨h0, h1, h2, h3⟩ := hc
  obtain ⟨n, rfl⟩ : ∃ j : Nat, n = j := ⟨n.toNat, by omega⟩
  obtain ⟨r, rfl⟩ : ∃ j : Nat, r = j := ⟨r.toNat, by omega⟩
  simp only [Int.toNat_natCast]
  refine is.go hm hΓ k_ways o_ways (by simp [a_ways]) ?_
  simp only [a_ways, List.zipIdx_cons, List.zipIdx_nil, ↓SP, SQ, Gam.add, stepM, callC, argC, lendO, nmBy, nmC, likeL, likeB, plainOb, offs, X, F, trP, trO, stepD, stepW, newA, SV.tr, SV.trL, fz, allP, Ob.tr, loadA, cellsA, SV.cells, binA, binI, eqOut, isSl, isPt, natOf, callee, snap, SV.refsL, SV.refs, thaw, fzAll, loA, hiA, elemOf, partsA, buildA, putCells, ↓reduceIte, reduceCtorEq, okCell, Nat.reduceAdd, Nat.reduceEqDiff, Nat.reduceSub, Nat.reduceMul, Nat.reduceLeDiff, Nat.reduceLT, Nat.reduceBEq, PV.scal, PV.scalL, SV.scal, SV.scalL, Ob.scal, PV.isCell, pure', resO]
  refine loop_at (fun s : Nat × SV × SV => mkEnv [(0, si n), (1, si r), (4, si 0), (5, si (Wn n s.1)), (6, s.2.1), (7, si r), (8, si s.1), (9, s.2.2)]) (fun s => mkO []) (fun s => s.1 ≤ r) (fun s => r - s.1) (0, .junk, .junk) (by simp) rfl rfl ?_
  rintro ⟨i, c1, c2⟩ hi R hR hN
  simp only at hi
  by_cases h : i < r
  · have h1' : (i : Int) < r := by omega
    have hw := wrap_one (i := i) (by omega)
    have hz : ¬ ((i + 1 : Nat) : Int) = 0 := by omega
    simp only [h1', hw, W_sub (show i ≤ n by omega) (by omega), W_mul (show i ≤ n by omega) (by omega), W_div (show i ≤ n by omega) (by omega), hz, ↓SP, SQ, Gam.add, stepM, callC, argC, lendO, nmBy, nmC, likeL, likeB, plainOb, offs, X, F, trP, trO, stepD, stepW, newA, SV.tr, SV.trL, fz, allP, Ob.tr, loadA, cellsA, SV.cells, binA, binI, eqOut, isSl, isPt, natOf, callee, snap, SV.refsL, SV.refs, thaw, fzAll, loA, hiA, elemOf, partsA, buildA, putCells, ↓reduceIte, reduceCtorEq, okCell, Nat.reduceAdd, Nat.reduceEqDiff, Nat.reduceSub, Nat.reduceMul, Nat.reduceLeDiff, Nat.reduceLT, Nat.reduceBEq, PV.scal, PV.scalL, SV.scal, SV.scalL, Ob.scal, PV.isCell, pure', resO]
    exact hN (i + 1, _, _) _ _ (by simp only; omega) (by simp only; omega) rfl rfl
  · have he : i = r := by omega
    have h1' : ¬ (i : Int) < r := by omega
    simp only [h1', ↓SP, SQ, Gam.add, stepM, callC, argC, lendO, nmBy, nmC, likeL, likeB, plainOb, offs, X, F, trP, trO, stepD, stepW, newA, SV.tr, SV.trL, fz, allP, Ob.tr, loadA, cellsA, SV.cells, binA, binI, eqOut, isSl, isPt, natOf, callee, snap, SV.refsL, SV.refs, thaw, fzAll, loA, hiA, elemOf, partsA, buildA, putCells, ↓reduceIte, reduceCtorEq, okCell, Nat.reduceAdd, Nat.reduceEqDiff, Nat.reduceSub, Nat.reduceMul, Nat.reduceLeDiff, Nat.reduceLT, Nat.reduceBEq, PV.scal, PV.scalL, SV.scal, SV.scalL, Ob.scal, PV.isCell, pure', resO]
    refine hR _ _ _ (by intro h; cases h) ?_
    simp only [↓SP, SQ, Gam.add, stepM, callC, argC, lendO, nmBy, nmC, likeL, likeB, plainOb, offs, X, F, trP, trO, stepD, stepW, newA, SV.tr, SV.trL, fz, allP, Ob.tr, loadA, cellsA, SV.cells, binA, binI, eqOut, isSl, isPt, natOf, callee, snap, SV.refsL, SV.refs, thaw, fzAll, loA, hiA, elemOf, partsA, buildA, putCells, ↓reduceIte, reduceCtorEq, okCell, Nat.reduceAdd, Nat.reduceEqDiff, Nat.reduceSub, Nat.reduceMul, Nat.reduceLeDiff, Nat.reduceLT, Nat.reduceBEq, PV.scal, PV.scalL, SV.scal, SV.scalL, Ob.scal, PV.isCell, pure', resO]
    subst he
    exact finA_val (by simp [retA, rvA, List.mapM_cons, List.mapM_nil, Option.pure_def, Option.bind_eq_bind, Option.bind_some, Option.map_some, mkE_cons, mk_nil, mkO_cons, mkO_nil, loadA, ↓reduceIte, List.take_succ_cons, List.take_zero, List.drop_zero, List.drop_succ_cons, List.length_cons, List.length_nil, Nat.reduceAdd, Nat.reduceEqDiff, Nat.reduceLeDiff, Nat.zero_add, Nat.le_refl, reduceCtorEq, SV.tr, SV.trL, nmF, rn_nil, rn_cons1, rn_cons2, List.map_cons, List.map_nil, List.all_cons, List.all_nil, plainOb, SV.refsL, SV.refs, Ob.refs, X, F, List.range_succ, List.range_zero, List.nil_append, List.cons_append, List.isEmpty_nil, decide_true, Nat.reduceLT, Bool.and_self, Bool.and_true, and_self, and_true, List.getElem?_cons_zero, List.getElem?_cons_succ, List.nodup_cons, List.nodup_nil, List.mem_cons, List.not_mem_nil, not_false_eq_true, or_false, List.append_nil, mkO, setO_mk, List.mem_singleton]) (by simp [SV.tr, SV.trL])
end Go.Proofs.Ytmbljmolegalhaa.Pam
