/- A part of the proof that stands in this folder: a small machine whose steps are shown to be the steps of the model, or walks of functions by it. No condition of its own. -/
import Derived.Test.YtmbljmolegalhaaGbLQ
set_option linter.unusedVariables false
set_option linter.unusedSimpArgs false
namespace Go.Proofs.Ytmbljmolegalhaa.Pam
open Go
def frN (a b : Nat) : Int := ((a / Nat.gcd a b : Nat) : Int)
def frD (a b : Nat) : Int := ((b / Nat.gcd a b : Nat) : Int)
def a_fraction : AFn := ⟨2, 
  .seq (.reg [⟨some 4, none, .w (.alloc [.int .i64 0, .int .i64 0])⟩])
  (.seq (.reg [⟨some 7, none, .d (.mv (.t 0))⟩,
    ⟨some 8, none, .d (.mv (.t 1))⟩,
    ⟨some 5, none, .d (.mv (.t 7))⟩,
    ⟨some 6, none, .d (.mv (.t 8))⟩])
  (.seq (.block 0 (.loop (.seq (.seq (.reg [⟨some 9, none, .d (.mv (.t 6))⟩,
      ⟨some 10, none, .d (.bin .arith .neq (.t 9) (.c (.int .i64 0)))⟩])
    (.cond (.t 10) (.skip) (.exit 0)))
    (.block 1 (.dreg [] [([], ⟨some 11, none, .d (.mv (.t 6))⟩),
       ([], ⟨some 12, none, .d (.mv (.t 5))⟩),
       ([], ⟨some 13, none, .d (.mv (.t 6))⟩),
       ([], ⟨some 14, none, .d (.bin .arith .rem (.t 12) (.t 13))⟩),
       ([], ⟨some 5, none, .d (.mv (.t 11))⟩)] [⟨some 6, none, .d (.mv (.t 14))⟩])))))
  (.seq (.dreg [] [([], ⟨some 15, none, .d (.mv (.t 0))⟩),
    ([], ⟨some 16, none, .d (.mv (.t 5))⟩),
    ([], ⟨some 17, none, .d (.bin .arith .quo (.t 15) (.t 16))⟩),
    ([], ⟨some 18, none, .d (.mv (.t 1))⟩),
    ([], ⟨some 19, none, .d (.mv (.t 5))⟩),
    ([], ⟨some 20, none, .d (.bin .arith .quo (.t 18) (.t 19))⟩)] [⟨some 21, none, .d (.build [.int .i64 0, .int .i64 0] [(0, 1, (.t 17)), (1, 1, (.t 20))])⟩,
    ⟨none, none, .w (.store 2 (.t 4) (.t 21))⟩])
  (.ret)))), [.cell 4 2 true]⟩
def n_fraction : Nat → Option Ann := fun _ => none
abbrev k_fraction : List Nat := [0, 1, 4, 5, 6, 10]
abbrev o_fraction : List Nat := [4]
def a_l7Cut (f_l1Most : FuncId) : AFn := ⟨2, 
  .seq (.reg [⟨some 4, none, .w (.alloc [.int .i64 0, .int .i64 0])⟩])
  (.seq (.reg [⟨some 7, none, .d (.mv (.t 0))⟩,
    ⟨some 8, none, .d (.mv (.t 1))⟩,
    ⟨some 5, none, .d (.mv (.t 7))⟩,
    ⟨some 6, none, .d (.mv (.t 8))⟩])
  (.seq (.block 0 (.loop (.seq (.seq (.reg [⟨some 9, none, .d (.mv (.t 6))⟩,
      ⟨some 10, none, .d (.bin .arith .gtr (.t 9) (.c (.int .i64 0)))⟩])
    (.cond (.t 10) (.skip) (.exit 0)))
    (.block 1 (.dreg [] [([], ⟨some 11, none, .d (.mv (.t 6))⟩),
       ([], ⟨some 12, none, .d (.mv (.t 5))⟩),
       ([], ⟨some 13, none, .d (.mv (.t 6))⟩),
       ([], ⟨some 14, none, .d (.bin .arith .rem (.t 12) (.t 13))⟩),
       ([], ⟨some 5, none, .d (.mv (.t 11))⟩)] [⟨some 6, none, .d (.mv (.t 14))⟩])))))
  (.seq (.dreg [] [([], ⟨some 15, none, .d (.mv (.t 0))⟩),
    ([], ⟨some 16, none, .d (.mv (.t 5))⟩),
    ([], ⟨some 17, none, .d (.call (.f f_l1Most) [(.t 16), (.c (.int .i64 1))])⟩),
    ([], ⟨some 18, none, .d (.bin .arith .quo (.t 15) (.t 17))⟩),
    ([], ⟨some 19, none, .d (.mv (.t 1))⟩),
    ([], ⟨some 20, none, .d (.mv (.t 5))⟩),
    ([], ⟨some 21, none, .d (.call (.f f_l1Most) [(.t 20), (.c (.int .i64 1))])⟩),
    ([], ⟨some 22, none, .d (.bin .arith .quo (.t 19) (.t 21))⟩)] [⟨some 23, none, .d (.build [.int .i64 0, .int .i64 0] [(0, 1, (.t 18)), (1, 1, (.t 22))])⟩,
    ⟨none, none, .w (.store 2 (.t 4) (.t 23))⟩])
  (.ret)))), [.cell 4 2 true]⟩
def n_l7Cut : Nat → Option Ann := fun _ => none
abbrev k_l7Cut : List Nat := [0, 1, 4, 5, 6, 10]
abbrev o_l7Cut : List Nat := [4]
def c_fraction : Con := pure' fun
  | [.p (.int .i64 a), .p (.int .i64 b)] => if (0 ≤ a ∧ a ≤ 4000000000000000000 ∧ 0 < b ∧ b ≤ 4000000000000000000) then some (.ag [.p (.int .i64 (frN a.toNat b.toNat)), .p (.int .i64 (frD a.toNat b.toNat))], []) else none
  | _ => none
theorem gcd_step {x y a b : Nat} (h : Nat.gcd x y = Nat.gcd a b) : Nat.gcd y (x % y) = Nat.gcd a b := by
  rw [← h, Nat.gcd_comm x y, Nat.gcd_rec y x, Nat.gcd_comm]
theorem div_wrap {a g : Nat} (h : a ≤ 4000000000000000000) : IntKind.i64.wrap ((a : Int).tdiv (g : Int)) = ((a / g : Nat) : Int) := by
  have h3 : a / g ≤ a := Nat.div_le_self _ _
  rw [← Int.ofNat_tdiv]
  generalize a / g = q at *
  exact wrap64 (by omega) (by omega)
theorem mod_wrap {a g : Nat} (h : a ≤ 4000000000000000000) : IntKind.i64.wrap ((a : Int).tmod (g : Int)) = ((a % g : Nat) : Int) := by
  have h3 : a % g ≤ a := Nat.mod_le _ _
  rw [← Int.ofNat_tmod]
  generalize a % g = q at *
  exact wrap64 (by omega) (by omega)
theorem s_fraction {P : Program} (hm : P.follows .mixedOrders = true) {Γ : Gam} (hΓ : GS P Γ) {n : FuncId} (is : Is P n a_fraction)  : Says P n c_fraction := by
  refine Says.pure fun args r fs h => ?_
  split at h
  case h_2 => cases h
  rename_i a b
  split at h
  case isFalse => cases h
  rename_i hc
  simp only [ofI_ints, ofBo_bools, ofAs_asks, Option.some.injEq, Prod.mk.injEq] at h hc
  obtain ⟨rfl, rfl⟩ := h
  obtain ⟨h0, h1, h2, h3⟩ := hc
  obtain ⟨a, rfl⟩ : ∃ j : Nat, a = j := ⟨a.toNat, by omega⟩
  obtain ⟨b, rfl⟩ : ∃ j : Nat, b = j := ⟨b.toNat, by omega⟩
  simp only [Int.toNat_natCast]
  refine is.go hm hΓ k_fraction o_fraction (by simp [a_fraction]) ?_
  simp only [a_fraction, List.zipIdx_cons, List.zipIdx_nil, ↓SP, SQ, Gam.add, stepM, callC, argC, lendO, nmBy, nmC, likeL, likeB, plainOb, offs, X, F, trP, trO, stepD, stepW, newA, SV.tr, SV.trL, fz, allP, Ob.tr, loadA, cellsA, SV.cells, binA, binI, eqOut, isSl, isPt, natOf, callee, snap, SV.refsL, SV.refs, thaw, fzAll, loA, hiA, elemOf, partsA, buildA, putCells, ↓reduceIte, reduceCtorEq, okCell, Nat.reduceAdd, Nat.reduceEqDiff, Nat.reduceSub, Nat.reduceMul, Nat.reduceLeDiff, Nat.reduceLT, Nat.reduceBEq, PV.scal, PV.scalL, SV.scal, SV.scalL, Ob.scal, PV.isCell, pure', resO]
  refine loop_at (fun s : Nat × Nat × SV => mkEnv [(0, si a), (1, si b), (4, .bx 4 0), (5, si s.1), (6, si s.2.1), (10, s.2.2)]) (fun s => mkO [(4, some (.box [si 0, si 0]))]) (fun s => Nat.gcd s.1 s.2.1 = Nat.gcd a b ∧ s.1 ≤ 4000000000000000000 ∧ s.2.1 ≤ 4000000000000000000) (fun s => s.2.1) (a, b, .junk) ⟨rfl, by simp only; omega, by simp only; omega⟩ rfl rfl ?_
  rintro ⟨x, y, c1⟩ ⟨hg, hx, hy⟩ R hR hN
  simp only at hg hx hy
  by_cases h : y = 0
  · have hb : ((y : Int) != 0) = false := by rw [h]; rfl
    have hgx : x = Nat.gcd a b := by rw [← hg, h, Nat.gcd_zero_right]
    have hgp : 0 < Nat.gcd a b := Nat.gcd_pos_of_pos_right a (by omega)
    have hz : ¬ (x : Int) = 0 := by omega
    have d1 := div_wrap (a := a) (g := x) (by omega)
    have d2 := div_wrap (a := b) (g := x) (by omega)
    simp only [hb, ↓SP, SQ, Gam.add, stepM, callC, argC, lendO, nmBy, nmC, likeL, likeB, plainOb, offs, X, F, trP, trO, stepD, stepW, newA, SV.tr, SV.trL, fz, allP, Ob.tr, loadA, cellsA, SV.cells, binA, binI, eqOut, isSl, isPt, natOf, callee, snap, SV.refsL, SV.refs, thaw, fzAll, loA, hiA, elemOf, partsA, buildA, putCells, ↓reduceIte, reduceCtorEq, okCell, Nat.reduceAdd, Nat.reduceEqDiff, Nat.reduceSub, Nat.reduceMul, Nat.reduceLeDiff, Nat.reduceLT, Nat.reduceBEq, PV.scal, PV.scalL, SV.scal, SV.scalL, Ob.scal, PV.isCell, pure', resO]
    refine hR _ _ _ (by intro h; cases h) ?_
    simp only [hz, d1, d2, ↓SP, SQ, Gam.add, stepM, callC, argC, lendO, nmBy, nmC, likeL, likeB, plainOb, offs, X, F, trP, trO, stepD, stepW, newA, SV.tr, SV.trL, fz, allP, Ob.tr, loadA, cellsA, SV.cells, binA, binI, eqOut, isSl, isPt, natOf, callee, snap, SV.refsL, SV.refs, thaw, fzAll, loA, hiA, elemOf, partsA, buildA, putCells, ↓reduceIte, reduceCtorEq, okCell, Nat.reduceAdd, Nat.reduceEqDiff, Nat.reduceSub, Nat.reduceMul, Nat.reduceLeDiff, Nat.reduceLT, Nat.reduceBEq, PV.scal, PV.scalL, SV.scal, SV.scalL, Ob.scal, PV.isCell, pure', resO]
    rw [hgx]
    exact finA_val (by simp [frN, frD, retA, rvA, List.mapM_cons, List.mapM_nil, Option.pure_def, Option.bind_eq_bind, Option.bind_some, Option.map_some, mkE_cons, mk_nil, mkO_cons, mkO_nil, loadA, ↓reduceIte, List.take_succ_cons, List.take_zero, List.drop_zero, List.drop_succ_cons, List.length_cons, List.length_nil, Nat.reduceAdd, Nat.reduceEqDiff, Nat.reduceLeDiff, Nat.zero_add, Nat.le_refl, reduceCtorEq, SV.tr, SV.trL, nmF, rn_nil, rn_cons1, rn_cons2, List.map_cons, List.map_nil, List.all_cons, List.all_nil, plainOb, SV.refsL, SV.refs, Ob.refs, X, F, List.range_succ, List.range_zero, List.nil_append, List.cons_append, List.isEmpty_nil, decide_true, Nat.reduceLT, Bool.and_self, Bool.and_true, and_self, and_true, List.getElem?_cons_zero, List.getElem?_cons_succ, List.nodup_cons, List.nodup_nil, List.mem_cons, List.not_mem_nil, not_false_eq_true, or_false, List.append_nil, mkO, setO_mk, List.mem_singleton]) (by simp [SV.tr, SV.trL])
  · have hb : ((y : Int) != 0) = true := bne_iff_ne.2 (by omega)
    have hz : ¬ (y : Int) = 0 := by omega
    have m1 := mod_wrap (a := x) (g := y) hx
    have hlt : x % y < y := Nat.mod_lt _ (by omega)
    simp only [hb, hz, m1, ↓SP, SQ, Gam.add, stepM, callC, argC, lendO, nmBy, nmC, likeL, likeB, plainOb, offs, X, F, trP, trO, stepD, stepW, newA, SV.tr, SV.trL, fz, allP, Ob.tr, loadA, cellsA, SV.cells, binA, binI, eqOut, isSl, isPt, natOf, callee, snap, SV.refsL, SV.refs, thaw, fzAll, loA, hiA, elemOf, partsA, buildA, putCells, ↓reduceIte, reduceCtorEq, okCell, Nat.reduceAdd, Nat.reduceEqDiff, Nat.reduceSub, Nat.reduceMul, Nat.reduceLeDiff, Nat.reduceLT, Nat.reduceBEq, PV.scal, PV.scalL, SV.scal, SV.scalL, Ob.scal, PV.isCell, pure', resO]
    exact hN (y, x % y, _) _ _ ⟨gcd_step hg, hy, by simp only; omega⟩ (by simp only; omega) rfl rfl
theorem s_l7Cut {P : Program} (hm : P.follows .mixedOrders = true) {Γ : Gam} (hΓ : GS P Γ) {n : FuncId} {f_l1Most : FuncId} (is : Is P n (a_l7Cut f_l1Most)) (h_l1Most : Γ f_l1Most = c_l1Most)  : Says P n c_fraction := by
  refine Says.pure fun args r fs h => ?_
  split at h
  case h_2 => cases h
  rename_i a b
  split at h
  case isFalse => cases h
  rename_i hc
  simp only [ofI_ints, ofBo_bools, ofAs_asks, Option.some.injEq, Prod.mk.injEq] at h hc
  obtain ⟨rfl, rfl⟩ := h
  obtain ⟨h0, h1, h2, h3⟩ := hc
  obtain ⟨a, rfl⟩ : ∃ j : Nat, a = j := ⟨a.toNat, by omega⟩
  obtain ⟨b, rfl⟩ : ∃ j : Nat, b = j := ⟨b.toNat, by omega⟩
  simp only [Int.toNat_natCast]
  refine is.go hm hΓ k_l7Cut o_l7Cut (by simp [a_l7Cut]) ?_
  simp only [a_l7Cut, h_l1Most, c_l1Most, List.zipIdx_cons, List.zipIdx_nil, ↓SP, SQ, Gam.add, stepM, callC, argC, lendO, nmBy, nmC, likeL, likeB, plainOb, offs, X, F, trP, trO, stepD, stepW, newA, SV.tr, SV.trL, fz, allP, Ob.tr, loadA, cellsA, SV.cells, binA, binI, eqOut, isSl, isPt, natOf, callee, snap, SV.refsL, SV.refs, thaw, fzAll, loA, hiA, elemOf, partsA, buildA, putCells, ↓reduceIte, reduceCtorEq, okCell, Nat.reduceAdd, Nat.reduceEqDiff, Nat.reduceSub, Nat.reduceMul, Nat.reduceLeDiff, Nat.reduceLT, Nat.reduceBEq, PV.scal, PV.scalL, SV.scal, SV.scalL, Ob.scal, PV.isCell, pure', resO]
  refine loop_at (fun s : Nat × Nat × SV => mkEnv [(0, si a), (1, si b), (4, .bx 4 0), (5, si s.1), (6, si s.2.1), (10, s.2.2)]) (fun s => mkO [(4, some (.box [si 0, si 0]))]) (fun s => Nat.gcd s.1 s.2.1 = Nat.gcd a b ∧ s.1 ≤ 4000000000000000000 ∧ s.2.1 ≤ 4000000000000000000) (fun s => s.2.1) (a, b, .junk) ⟨rfl, by simp only; omega, by simp only; omega⟩ rfl rfl ?_
  rintro ⟨x, y, c1⟩ ⟨hg, hx, hy⟩ R hR hN
  simp only at hg hx hy
  by_cases h : y = 0
  · have hb : ¬ (y : Int) > 0 := by omega
    have hgx : x = Nat.gcd a b := by rw [← hg, h, Nat.gcd_zero_right]
    have hgp : 0 < Nat.gcd a b := Nat.gcd_pos_of_pos_right a (by omega)
    have hz : ¬ (x : Int) = 0 := by omega
    have hmx : (if (x : Int) > 1 then (x : Int) else 1) = (x : Int) := by split <;> omega
    have d1 := div_wrap (a := a) (g := x) (by omega)
    have d2 := div_wrap (a := b) (g := x) (by omega)
    simp only [hb, ↓SP, SQ, Gam.add, stepM, callC, argC, lendO, nmBy, nmC, likeL, likeB, plainOb, offs, X, F, trP, trO, stepD, stepW, newA, SV.tr, SV.trL, fz, allP, Ob.tr, loadA, cellsA, SV.cells, binA, binI, eqOut, isSl, isPt, natOf, callee, snap, SV.refsL, SV.refs, thaw, fzAll, loA, hiA, elemOf, partsA, buildA, putCells, ↓reduceIte, reduceCtorEq, okCell, Nat.reduceAdd, Nat.reduceEqDiff, Nat.reduceSub, Nat.reduceMul, Nat.reduceLeDiff, Nat.reduceLT, Nat.reduceBEq, PV.scal, PV.scalL, SV.scal, SV.scalL, Ob.scal, PV.isCell, pure', resO]
    refine hR _ _ _ (by intro h; cases h) ?_
    simp only [h_l1Most, c_l1Most, hmx, hz, d1, d2, ↓SP, SQ, Gam.add, stepM, callC, argC, lendO, nmBy, nmC, likeL, likeB, plainOb, offs, X, F, trP, trO, stepD, stepW, newA, SV.tr, SV.trL, fz, allP, Ob.tr, loadA, cellsA, SV.cells, binA, binI, eqOut, isSl, isPt, natOf, callee, snap, SV.refsL, SV.refs, thaw, fzAll, loA, hiA, elemOf, partsA, buildA, putCells, ↓reduceIte, reduceCtorEq, okCell, Nat.reduceAdd, Nat.reduceEqDiff, Nat.reduceSub, Nat.reduceMul, Nat.reduceLeDiff, Nat.reduceLT, Nat.reduceBEq, PV.scal, PV.scalL, SV.scal, SV.scalL, Ob.scal, PV.isCell, pure', resO]
    rw [hgx]
    exact finA_val (by simp [frN, frD, retA, rvA, List.mapM_cons, List.mapM_nil, Option.pure_def, Option.bind_eq_bind, Option.bind_some, Option.map_some, mkE_cons, mk_nil, mkO_cons, mkO_nil, loadA, ↓reduceIte, List.take_succ_cons, List.take_zero, List.drop_zero, List.drop_succ_cons, List.length_cons, List.length_nil, Nat.reduceAdd, Nat.reduceEqDiff, Nat.reduceLeDiff, Nat.zero_add, Nat.le_refl, reduceCtorEq, SV.tr, SV.trL, nmF, rn_nil, rn_cons1, rn_cons2, List.map_cons, List.map_nil, List.all_cons, List.all_nil, plainOb, SV.refsL, SV.refs, Ob.refs, X, F, List.range_succ, List.range_zero, List.nil_append, List.cons_append, List.isEmpty_nil, decide_true, Nat.reduceLT, Bool.and_self, Bool.and_true, and_self, and_true, List.getElem?_cons_zero, List.getElem?_cons_succ, List.nodup_cons, List.nodup_nil, List.mem_cons, List.not_mem_nil, not_false_eq_true, or_false, List.append_nil, mkO, setO_mk, List.mem_singleton]) (by simp [SV.tr, SV.trL])
  · have hb : (y : Int) > 0 := by omega
    have hz : ¬ (y : Int) = 0 := by omega
    have m1 := mod_wrap (a := x) (g := y) hx
    have hlt : x % y < y := Nat.mod_lt _ (by omega)
    simp only [hb, hz, m1, ↓SP, SQ, Gam.add, stepM, callC, argC, lendO, nmBy, nmC, likeL, likeB, plainOb, offs, X, F, trP, trO, stepD, stepW, newA, SV.tr, SV.trL, fz, allP, Ob.tr, loadA, cellsA, SV.cells, binA, binI, eqOut, isSl, isPt, natOf, callee, snap, SV.refsL, SV.refs, thaw, fzAll, loA, hiA, elemOf, partsA, buildA, putCells, ↓reduceIte, reduceCtorEq, okCell, Nat.reduceAdd, Nat.reduceEqDiff, Nat.reduceSub, Nat.reduceMul, Nat.reduceLeDiff, Nat.reduceLT, Nat.reduceBEq, PV.scal, PV.scalL, SV.scal, SV.scalL, Ob.scal, PV.isCell, pure', resO]
    exact hN (y, x % y, _) _ _ ⟨gcd_step hg, hy, by simp only; omega⟩ (by simp only; omega) rfl rfl
def a_eqIntA2 : AFn := ⟨2, 
  .seq (.reg [⟨some 2, none, .w (.box 2 (.t 0))⟩,
    ⟨some 3, none, .w (.box 2 (.t 1))⟩,
    ⟨some 4, none, .d (.mv (.c (.bool false)))⟩])
  (.seq (.seq (.reg [⟨some 5, none, .d (.mv (.c (.int .i64 0)))⟩])
  (.block 0 (.loop (.seq (.seq (.reg [⟨some 6, none, .d (.mv (.t 5))⟩,
      ⟨some 7, none, .d (.bin .arith .lss (.t 6) (.c (.int .i64 2)))⟩])
    (.cond (.t 7) (.skip) (.exit 0)))
    (.seq (.block 1 (.seq (.dreg [] [([], ⟨some 10, none, .d (.mv (.t 5))⟩),
       ([], ⟨some 11, none, .d (.iaA 2 1 (.t 2) (.t 10))⟩),
       ([], ⟨some 12, none, .d (.load false 1 (.t 11))⟩),
       ([], ⟨some 13, none, .d (.mv (.t 5))⟩),
       ([], ⟨some 14, none, .d (.iaA 2 1 (.t 3) (.t 13))⟩),
       ([], ⟨some 15, none, .d (.load false 1 (.t 14))⟩)] [⟨some 16, none, .d (.bin .arith .neq (.t 12) (.t 15))⟩])
     (.cond (.t 16) (.seq (.reg [⟨some 4, none, .d (.mv (.c (.bool false)))⟩])
      (.ret)) (.skip))))
    (.reg [⟨some 8, none, .d (.mv (.t 5))⟩,
      ⟨some 9, none, .d (.bin .arith .add (.t 8) (.c (.int .i64 1)))⟩,
      ⟨some 5, none, .d (.mv (.t 9))⟩]))))))
  (.seq (.reg [⟨some 4, none, .d (.mv (.c (.bool true)))⟩])
  (.ret))), [.tmp 4]⟩
def n_eqIntA2 : Nat → Option Ann := fun _ => none
abbrev k_eqIntA2 : List Nat := [0, 1, 2, 3, 4, 5, 7, 16]
abbrev o_eqIntA2 : List Nat := [2, 3]
def c_eqIntA2 : Con := pure' fun
  | [.p (.agg [.int .i64 a, .int .i64 b]), .p (.agg [.int .i64 c, .int .i64 d])] => if (True) then some (.p (.bool (decide (a = c) && decide (b = d))), []) else none
  | _ => none
theorem s_eqIntA2 {P : Program} (hm : P.follows .mixedOrders = true) {Γ : Gam} (hΓ : GS P Γ) {n : FuncId} (is : Is P n a_eqIntA2)  : Says P n c_eqIntA2 := by
  refine Says.pure fun args r fs h => ?_
  split at h
  case h_2 => cases h
  rename_i a b c d
  split at h
  case isFalse => cases h
  rename_i hc
  simp only [ofI_ints, ofBo_bools, ofAs_asks, Option.some.injEq, Prod.mk.injEq] at h hc
  obtain ⟨rfl, rfl⟩ := h
  refine is.go hm hΓ k_eqIntA2 o_eqIntA2 (by simp [a_eqIntA2]) ?_
  simp only [a_eqIntA2, List.zipIdx_cons, List.zipIdx_nil, ↓SP, SQ, Gam.add, stepM, callC, argC, lendO, nmBy, nmC, likeL, likeB, plainOb, offs, X, F, trP, trO, stepD, stepW, newA, SV.tr, SV.trL, fz, allP, Ob.tr, loadA, cellsA, SV.cells, binA, binI, eqOut, isSl, isPt, natOf, callee, snap, SV.refsL, SV.refs, thaw, fzAll, loA, hiA, elemOf, partsA, buildA, putCells, ↓reduceIte, reduceCtorEq, okCell, Nat.reduceAdd, Nat.reduceEqDiff, Nat.reduceSub, Nat.reduceMul, Nat.reduceLeDiff, Nat.reduceLT, Nat.reduceBEq, PV.scal, PV.scalL, SV.scal, SV.scalL, Ob.scal, PV.isCell, pure', resO]
  refine loop_at (fun s : Nat × SV × SV => mkEnv [(0, .p (.agg [.int .i64 a, .int .i64 b])), (1, .p (.agg [.int .i64 c, .int .i64 d])), (2, .bx 2 0), (3, .bx 3 0), (4, sb false), (5, si s.1), (7, s.2.1), (16, s.2.2)]) (fun s => mkO [(2, some (.box [si a, si b])), (3, some (.box [si c, si d]))]) (fun s => s.1 ≤ 2 ∧ (1 ≤ s.1 → a = c) ∧ (2 ≤ s.1 → b = d)) (fun s => 2 - s.1) (0, .junk, .junk) (by simp) rfl rfl ?_
  rintro ⟨i, c1, c2⟩ ⟨hi, p1, p2⟩ R hR hN
  simp only at hi p1 p2
  have hi3 : i = 0 ∨ i = 1 ∨ i = 2 := by omega
  rcases hi3 with rfl | rfl | rfl
  · have h1 : ((0 : Nat) : Int) < 2 := by omega
    have hw := wrap_one (i := 0) (by omega)
    by_cases he : a = c
    · have he' : (a != c) = false := by rw [he]; exact bne_self_eq_false _
      simp only [h1, hw, he', ↓SP, SQ, Gam.add, stepM, callC, argC, lendO, nmBy, nmC, likeL, likeB, plainOb, offs, X, F, trP, trO, stepD, stepW, newA, SV.tr, SV.trL, fz, allP, Ob.tr, loadA, cellsA, SV.cells, binA, binI, eqOut, isSl, isPt, natOf, callee, snap, SV.refsL, SV.refs, thaw, fzAll, loA, hiA, elemOf, partsA, buildA, putCells, ↓reduceIte, reduceCtorEq, okCell, Nat.reduceAdd, Nat.reduceEqDiff, Nat.reduceSub, Nat.reduceMul, Nat.reduceLeDiff, Nat.reduceLT, Nat.reduceBEq, PV.scal, PV.scalL, SV.scal, SV.scalL, Ob.scal, PV.isCell, pure', resO]
      exact hN (0 + 1, _, _) _ _ ⟨by simp only; omega, fun _ => he, fun h => by simp only at h; omega⟩ (by simp only; omega) rfl rfl
    · have he' : (a != c) = true := bne_iff_ne.2 he
      simp only [h1, he', ↓SP, SQ, Gam.add, stepM, callC, argC, lendO, nmBy, nmC, likeL, likeB, plainOb, offs, X, F, trP, trO, stepD, stepW, newA, SV.tr, SV.trL, fz, allP, Ob.tr, loadA, cellsA, SV.cells, binA, binI, eqOut, isSl, isPt, natOf, callee, snap, SV.refsL, SV.refs, thaw, fzAll, loA, hiA, elemOf, partsA, buildA, putCells, ↓reduceIte, reduceCtorEq, okCell, Nat.reduceAdd, Nat.reduceEqDiff, Nat.reduceSub, Nat.reduceMul, Nat.reduceLeDiff, Nat.reduceLT, Nat.reduceBEq, PV.scal, PV.scalL, SV.scal, SV.scalL, Ob.scal, PV.isCell, pure', resO]
      refine hR _ _ _ (by intro h; cases h) ?_
      simp only [↓SP, SQ, Gam.add, stepM, callC, argC, lendO, nmBy, nmC, likeL, likeB, plainOb, offs, X, F, trP, trO, stepD, stepW, newA, SV.tr, SV.trL, fz, allP, Ob.tr, loadA, cellsA, SV.cells, binA, binI, eqOut, isSl, isPt, natOf, callee, snap, SV.refsL, SV.refs, thaw, fzAll, loA, hiA, elemOf, partsA, buildA, putCells, ↓reduceIte, reduceCtorEq, okCell, Nat.reduceAdd, Nat.reduceEqDiff, Nat.reduceSub, Nat.reduceMul, Nat.reduceLeDiff, Nat.reduceLT, Nat.reduceBEq, PV.scal, PV.scalL, SV.scal, SV.scalL, Ob.scal, PV.isCell, pure', resO]
      exact finA_val (by simp [he, retA, rvA, List.mapM_cons, List.mapM_nil, Option.pure_def, Option.bind_eq_bind, Option.bind_some, Option.map_some, mkE_cons, mk_nil, mkO_cons, mkO_nil, loadA, ↓reduceIte, List.take_succ_cons, List.take_zero, List.drop_zero, List.drop_succ_cons, List.length_cons, List.length_nil, Nat.reduceAdd, Nat.reduceEqDiff, Nat.reduceLeDiff, Nat.zero_add, Nat.le_refl, reduceCtorEq, SV.tr, SV.trL, nmF, rn_nil, rn_cons1, rn_cons2, List.map_cons, List.map_nil, List.all_cons, List.all_nil, plainOb, SV.refsL, SV.refs, Ob.refs, X, F, List.range_succ, List.range_zero, List.nil_append, List.cons_append, List.isEmpty_nil, decide_true, Nat.reduceLT, Bool.and_self, Bool.and_true, and_self, and_true, List.getElem?_cons_zero, List.getElem?_cons_succ, List.nodup_cons, List.nodup_nil, List.mem_cons, List.not_mem_nil, not_false_eq_true, or_false, List.append_nil, mkO, setO_mk, List.mem_singleton]) (by simp [SV.tr, SV.trL])
  · have h1 : ((1 : Nat) : Int) < 2 := by omega
    have hw := wrap_one (i := 1) (by omega)
    have hac := p1 (by omega)
    by_cases he : b = d
    · have he' : (b != d) = false := by rw [he]; exact bne_self_eq_false _
      simp only [h1, hw, he', ↓SP, SQ, Gam.add, stepM, callC, argC, lendO, nmBy, nmC, likeL, likeB, plainOb, offs, X, F, trP, trO, stepD, stepW, newA, SV.tr, SV.trL, fz, allP, Ob.tr, loadA, cellsA, SV.cells, binA, binI, eqOut, isSl, isPt, natOf, callee, snap, SV.refsL, SV.refs, thaw, fzAll, loA, hiA, elemOf, partsA, buildA, putCells, ↓reduceIte, reduceCtorEq, okCell, Nat.reduceAdd, Nat.reduceEqDiff, Nat.reduceSub, Nat.reduceMul, Nat.reduceLeDiff, Nat.reduceLT, Nat.reduceBEq, PV.scal, PV.scalL, SV.scal, SV.scalL, Ob.scal, PV.isCell, pure', resO]
      exact hN (1 + 1, _, _) _ _ ⟨by simp only; omega, fun _ => hac, fun _ => he⟩ (by simp only; omega) rfl rfl
    · have he' : (b != d) = true := bne_iff_ne.2 he
      simp only [h1, he', ↓SP, SQ, Gam.add, stepM, callC, argC, lendO, nmBy, nmC, likeL, likeB, plainOb, offs, X, F, trP, trO, stepD, stepW, newA, SV.tr, SV.trL, fz, allP, Ob.tr, loadA, cellsA, SV.cells, binA, binI, eqOut, isSl, isPt, natOf, callee, snap, SV.refsL, SV.refs, thaw, fzAll, loA, hiA, elemOf, partsA, buildA, putCells, ↓reduceIte, reduceCtorEq, okCell, Nat.reduceAdd, Nat.reduceEqDiff, Nat.reduceSub, Nat.reduceMul, Nat.reduceLeDiff, Nat.reduceLT, Nat.reduceBEq, PV.scal, PV.scalL, SV.scal, SV.scalL, Ob.scal, PV.isCell, pure', resO]
      refine hR _ _ _ (by intro h; cases h) ?_
      simp only [↓SP, SQ, Gam.add, stepM, callC, argC, lendO, nmBy, nmC, likeL, likeB, plainOb, offs, X, F, trP, trO, stepD, stepW, newA, SV.tr, SV.trL, fz, allP, Ob.tr, loadA, cellsA, SV.cells, binA, binI, eqOut, isSl, isPt, natOf, callee, snap, SV.refsL, SV.refs, thaw, fzAll, loA, hiA, elemOf, partsA, buildA, putCells, ↓reduceIte, reduceCtorEq, okCell, Nat.reduceAdd, Nat.reduceEqDiff, Nat.reduceSub, Nat.reduceMul, Nat.reduceLeDiff, Nat.reduceLT, Nat.reduceBEq, PV.scal, PV.scalL, SV.scal, SV.scalL, Ob.scal, PV.isCell, pure', resO]
      exact finA_val (by simp [he, retA, rvA, List.mapM_cons, List.mapM_nil, Option.pure_def, Option.bind_eq_bind, Option.bind_some, Option.map_some, mkE_cons, mk_nil, mkO_cons, mkO_nil, loadA, ↓reduceIte, List.take_succ_cons, List.take_zero, List.drop_zero, List.drop_succ_cons, List.length_cons, List.length_nil, Nat.reduceAdd, Nat.reduceEqDiff, Nat.reduceLeDiff, Nat.zero_add, Nat.le_refl, reduceCtorEq, SV.tr, SV.trL, nmF, rn_nil, rn_cons1, rn_cons2, List.map_cons, List.map_nil, List.all_cons, List.all_nil, plainOb, SV.refsL, SV.refs, Ob.refs, X, F, List.range_succ, List.range_zero, List.nil_append, List.cons_append, List.isEmpty_nil, decide_true, Nat.reduceLT, Bool.and_self, Bool.and_true, and_self, and_true, List.getElem?_cons_zero, List.getElem?_cons_succ, List.nodup_cons, List.nodup_nil, List.mem_cons, List.not_mem_nil, not_false_eq_true, or_false, List.append_nil, mkO, setO_mk, List.mem_singleton]) (by simp [SV.tr, SV.trL])
  · have h1 : ¬ ((2 : Nat) : Int) < 2 := by omega
    have hac := p1 (by omega)
    have hbd := p2 (by omega)
    simp only [h1, ↓SP, SQ, Gam.add, stepM, callC, argC, lendO, nmBy, nmC, likeL, likeB, plainOb, offs, X, F, trP, trO, stepD, stepW, newA, SV.tr, SV.trL, fz, allP, Ob.tr, loadA, cellsA, SV.cells, binA, binI, eqOut, isSl, isPt, natOf, callee, snap, SV.refsL, SV.refs, thaw, fzAll, loA, hiA, elemOf, partsA, buildA, putCells, ↓reduceIte, reduceCtorEq, okCell, Nat.reduceAdd, Nat.reduceEqDiff, Nat.reduceSub, Nat.reduceMul, Nat.reduceLeDiff, Nat.reduceLT, Nat.reduceBEq, PV.scal, PV.scalL, SV.scal, SV.scalL, Ob.scal, PV.isCell, pure', resO]
    refine hR _ _ _ (by intro h; cases h) ?_
    simp only [↓SP, SQ, Gam.add, stepM, callC, argC, lendO, nmBy, nmC, likeL, likeB, plainOb, offs, X, F, trP, trO, stepD, stepW, newA, SV.tr, SV.trL, fz, allP, Ob.tr, loadA, cellsA, SV.cells, binA, binI, eqOut, isSl, isPt, natOf, callee, snap, SV.refsL, SV.refs, thaw, fzAll, loA, hiA, elemOf, partsA, buildA, putCells, ↓reduceIte, reduceCtorEq, okCell, Nat.reduceAdd, Nat.reduceEqDiff, Nat.reduceSub, Nat.reduceMul, Nat.reduceLeDiff, Nat.reduceLT, Nat.reduceBEq, PV.scal, PV.scalL, SV.scal, SV.scalL, Ob.scal, PV.isCell, pure', resO]
    exact finA_val (by simp [hac, hbd, retA, rvA, List.mapM_cons, List.mapM_nil, Option.pure_def, Option.bind_eq_bind, Option.bind_some, Option.map_some, mkE_cons, mk_nil, mkO_cons, mkO_nil, loadA, ↓reduceIte, List.take_succ_cons, List.take_zero, List.drop_zero, List.drop_succ_cons, List.length_cons, List.length_nil, Nat.reduceAdd, Nat.reduceEqDiff, Nat.reduceLeDiff, Nat.zero_add, Nat.le_refl, reduceCtorEq, SV.tr, SV.trL, nmF, rn_nil, rn_cons1, rn_cons2, List.map_cons, List.map_nil, List.all_cons, List.all_nil, plainOb, SV.refsL, SV.refs, Ob.refs, X, F, List.range_succ, List.range_zero, List.nil_append, List.cons_append, List.isEmpty_nil, decide_true, Nat.reduceLT, Bool.and_self, Bool.and_true, and_self, and_true, List.getElem?_cons_zero, List.getElem?_cons_succ, List.nodup_cons, List.nodup_nil, List.mem_cons, List.not_mem_nil, not_false_eq_true, or_false, List.append_nil, mkO, setO_mk, List.mem_singleton]) (by simp [SV.tr, SV.trL])
theorem mulB {a b A B : Int} (h1 : 0 ≤ a) (h2 : a ≤ A) (h3 : 0 ≤ b) (h4 : b ≤ B) : 0 ≤ a * b ∧ a * b ≤ A * B :=
  ⟨Int.mul_nonneg h1 h3, Int.mul_le_mul h2 h4 h3 (by omega)⟩
theorem inI_sum {p : List Int} (h : fitL p) (v : Int) : ∀ i, i ≤ p.length → inI p v i ≤ sumL (p.take i)
  | 0, _ => by simp [inI, sumL]
  | i + 1, hi => by
    have h1 := inI_sum h v i (by omega)
    have h2 := fit_get h i
    rw [take_one p i 0 (by omega), sumL_one]
    simp only [inI]
    split <;> omega
/-- The parts of a yes and of all. -/
def yesN (p : List Int) (s o q : Int) : Int := inI p q p.length * (o - s) + (sumL p - inI p q p.length) * s
def yesD (p : List Int) (o : Int) : Int := sumL p * o
def okY (n : Int) (l : List (Int × Bool)) (q s o : Int) : Bool := areA n l 11 && isD s o && decide (0 < sumL (partL s o l n.toNat)) && isQ n q
theorem yes_fit {p : List Int} (h : fitL p) (hl : p.length ≤ 12) {s o : Int} (hd : isD s o = true) (q : Int) : ∀ w, w = inI p q p.length → 0 ≤ w * (o - s) ∧ w * (o - s) ≤ 200000000000000 ∧ 0 ≤ sumL p - w ∧ sumL p - w ≤ 12000000000000 ∧ 0 ≤ (sumL p - w) * s ∧ (sumL p - w) * s ≤ 200000000000000 ∧ 0 ≤ sumL p * o ∧ sumL p * o ≤ 200000000000000 ∧ (0 < sumL p → 0 < sumL p * o) := by
  intro w hw
  obtain ⟨d1, d2, d3, d4⟩ := isD_out hd
  have a1 := inI_fit h q p.length
  have a2 := inI_sum h q p.length (Nat.le_refl _)
  rw [List.take_length] at a2
  have a3 := sum_fit h
  rw [← hw] at a1 a2
  have b1 := mulB (a := w) (b := o - s) (A := 12000000000000) (B := 10) a1.1 (by omega) (by omega) (by omega)
  have b2 := mulB (a := sumL p - w) (b := s) (A := 12000000000000) (B := 10) (by omega) (by omega) (by omega) (by omega)
  have b3 := mulB (a := sumL p) (b := o) (A := 12000000000000) (B := 10) (by omega) (by omega) (by omega) (by omega)
  refine ⟨b1.1, by omega, by omega, by omega, b2.1, by omega, b3.1, by omega, fun hs => Int.mul_pos hs (by omega)⟩
def a_ChanceYes (f_sharesAfter : FuncId) (f_isQuestion : FuncId) (f_within : FuncId) (f_fraction : FuncId) : AFn := ⟨4, 
  .seq (.reg [⟨some 7, none, .w (.box 2 (.t 3))⟩,
    ⟨some 8, none, .w (.alloc [.int .i64 0, .int .i64 0])⟩,
    ⟨some 9, none, .d (.mv (.c (.bool false)))⟩])
  (.seq (.reg [⟨some 15, none, .d (.mv (.t 0))⟩,
    ⟨some 16, none, .d (.mv (.t 1))⟩,
    ⟨some 17, none, .d (.load true 2 (.t 7))⟩,
    ⟨some 18, none, .d (.call (.f f_sharesAfter) [(.t 15), (.t 16), (.t 17), (.c (.int .i64 11))])⟩,
    ⟨some 14, none, .d (.mv (.t 18))⟩,
    ⟨some 19, none, .d (.extract (.t 14) 0)⟩,
    ⟨some 20, none, .d (.extract (.t 14) 1)⟩,
    ⟨some 21, none, .d (.extract (.t 14) 2)⟩,
    ⟨some 10, none, .d (.mv (.t 19))⟩,
    ⟨some 11, none, .d (.mv (.t 20))⟩,
    ⟨some 12, none, .d (.mv (.t 21))⟩])
  (.seq (.seq (.reg [⟨some 22, none, .d (.mv (.t 12))⟩,
    ⟨some 23, none, .d (.not (.t 22))⟩,
    ⟨some 24, none, .d (.mv (.t 23))⟩,
    ⟨some 25, some (24, false), .d (.mv (.t 0))⟩,
    ⟨some 26, some (24, false), .d (.mv (.t 2))⟩,
    ⟨some 27, some (24, false), .d (.call (.f f_isQuestion) [(.t 25), (.t 26)])⟩,
    ⟨some 28, some (24, false), .d (.not (.t 27))⟩,
    ⟨some 29, none, .d (.pick (.t 24) (.c (.bool true)) (.t 28))⟩])
  (.cond (.t 29) (.seq (.reg [⟨some 30, none, .d (.build [.int .i64 0, .int .i64 0] [])⟩,
     ⟨none, none, .w (.store 2 (.t 8) (.t 30))⟩,
     ⟨some 9, none, .d (.mv (.c (.bool false)))⟩])
   (.ret)) (.skip)))
  (.seq (.reg [⟨some 31, none, .d (.mv (.t 10))⟩,
    ⟨some 32, none, .d (.mv (.t 2))⟩,
    ⟨some 33, none, .d (.call (.f f_within) [(.t 31), (.t 32)])⟩,
    ⟨some 13, none, .d (.mv (.t 33))⟩])
  (.seq (.reg [⟨some 34, none, .d (.mv (.t 13))⟩,
    ⟨some 35, none, .d (.fa 1 (.t 7))⟩,
    ⟨some 36, none, .d (.load false 1 (.t 35))⟩,
    ⟨some 37, none, .d (.fa 0 (.t 7))⟩,
    ⟨some 38, none, .d (.load false 1 (.t 37))⟩,
    ⟨some 39, none, .d (.bin .arith .sub (.t 36) (.t 38))⟩,
    ⟨some 40, none, .d (.bin .arith .mul (.t 34) (.t 39))⟩,
    ⟨some 41, none, .d (.mv (.t 11))⟩,
    ⟨some 42, none, .d (.mv (.t 13))⟩,
    ⟨some 43, none, .d (.bin .arith .sub (.t 41) (.t 42))⟩,
    ⟨some 44, none, .d (.fa 0 (.t 7))⟩,
    ⟨some 45, none, .d (.load false 1 (.t 44))⟩,
    ⟨some 46, none, .d (.bin .arith .mul (.t 43) (.t 45))⟩,
    ⟨some 47, none, .d (.bin .arith .add (.t 40) (.t 46))⟩,
    ⟨some 48, none, .d (.mv (.t 11))⟩,
    ⟨some 49, none, .d (.fa 1 (.t 7))⟩,
    ⟨some 50, none, .d (.load false 1 (.t 49))⟩,
    ⟨some 51, none, .d (.bin .arith .mul (.t 48) (.t 50))⟩,
    ⟨some 52, none, .d (.call (.f f_fraction) [(.t 47), (.t 51)])⟩,
    ⟨none, none, .w (.store 2 (.t 8) (.t 52))⟩,
    ⟨some 9, none, .d (.mv (.c (.bool true)))⟩])
  (.ret))))), [.cell 8 2 true, .tmp 9]⟩
def n_ChanceYes : Nat → Option Ann := fun _ => none
abbrev k_ChanceYes : List Nat := [0, 1, 2, 3, 7, 8, 9, 10, 11, 12, 13, 29]
abbrev o_ChanceYes : List Nat := [7, 8]
def a_s_ChanceYes (f_l7Answers : FuncId) (f_l2Asks : FuncId) (f_l7After : FuncId) (f_l7In : FuncId) (f_l7Cut : FuncId) : AFn := ⟨4, 
  .seq (.reg [⟨some 7, none, .w (.box 2 (.t 3))⟩,
    ⟨some 8, none, .w (.alloc [.int .i64 0, .int .i64 0])⟩,
    ⟨some 9, none, .d (.mv (.c (.bool false)))⟩])
  (.seq (.seq (.reg [⟨some 13, none, .d (.mv (.t 0))⟩,
    ⟨some 14, none, .d (.mv (.t 1))⟩,
    ⟨some 15, none, .d (.load true 2 (.t 7))⟩,
    ⟨some 16, none, .d (.call (.f f_l7Answers) [(.t 13), (.t 14), (.t 15)])⟩,
    ⟨some 17, none, .d (.not (.t 16))⟩,
    ⟨some 18, none, .d (.mv (.t 17))⟩,
    ⟨some 19, some (18, false), .d (.mv (.t 1))⟩,
    ⟨some 20, some (18, false), .d (.len (.t 19))⟩,
    ⟨some 21, some (18, false), .d (.bin .arith .eql (.t 20) (.c (.int .i64 12)))⟩,
    ⟨some 22, none, .d (.pick (.t 18) (.c (.bool true)) (.t 21))⟩,
    ⟨some 23, none, .d (.mv (.t 22))⟩,
    ⟨some 24, some (23, false), .d (.mv (.t 0))⟩,
    ⟨some 25, some (23, false), .d (.mv (.t 2))⟩,
    ⟨some 26, some (23, false), .d (.call (.f f_l2Asks) [(.t 24), (.t 25)])⟩,
    ⟨some 27, some (23, false), .d (.not (.t 26))⟩,
    ⟨some 28, none, .d (.pick (.t 23) (.c (.bool true)) (.t 27))⟩])
  (.cond (.t 28) (.seq (.reg [⟨some 29, none, .d (.build [.int .i64 0, .int .i64 0] [])⟩,
     ⟨none, none, .w (.store 2 (.t 8) (.t 29))⟩,
     ⟨some 9, none, .d (.mv (.c (.bool false)))⟩])
   (.ret)) (.skip)))
  (.seq (.reg [⟨some 31, none, .d (.mv (.t 0))⟩,
    ⟨some 32, none, .d (.mv (.t 1))⟩,
    ⟨some 33, none, .d (.load true 2 (.t 7))⟩,
    ⟨some 34, none, .d (.call (.f f_l7After) [(.t 31), (.t 32), (.t 33)])⟩,
    ⟨some 30, none, .d (.mv (.t 34))⟩,
    ⟨some 35, none, .d (.extract (.t 30) 0)⟩,
    ⟨some 36, none, .d (.extract (.t 30) 1)⟩,
    ⟨some 10, none, .d (.mv (.t 35))⟩,
    ⟨some 11, none, .d (.mv (.t 36))⟩])
  (.seq (.seq (.reg [⟨some 37, none, .d (.mv (.t 11))⟩,
    ⟨some 38, none, .d (.bin .arith .eql (.t 37) (.c (.int .i64 0)))⟩])
  (.cond (.t 38) (.seq (.reg [⟨some 39, none, .d (.build [.int .i64 0, .int .i64 0] [])⟩,
     ⟨none, none, .w (.store 2 (.t 8) (.t 39))⟩,
     ⟨some 9, none, .d (.mv (.c (.bool false)))⟩])
   (.ret)) (.skip)))
  (.seq (.reg [⟨some 40, none, .d (.mv (.t 10))⟩,
    ⟨some 41, none, .d (.mv (.t 2))⟩,
    ⟨some 42, none, .d (.call (.f f_l7In) [(.t 40), (.t 41)])⟩,
    ⟨some 12, none, .d (.mv (.t 42))⟩])
  (.seq (.reg [⟨some 43, none, .d (.mv (.t 12))⟩,
    ⟨some 44, none, .d (.fa 1 (.t 7))⟩,
    ⟨some 45, none, .d (.load false 1 (.t 44))⟩,
    ⟨some 46, none, .d (.fa 0 (.t 7))⟩,
    ⟨some 47, none, .d (.load false 1 (.t 46))⟩,
    ⟨some 48, none, .d (.bin .arith .sub (.t 45) (.t 47))⟩,
    ⟨some 49, none, .d (.bin .arith .mul (.t 43) (.t 48))⟩,
    ⟨some 50, none, .d (.mv (.t 11))⟩,
    ⟨some 51, none, .d (.mv (.t 12))⟩,
    ⟨some 52, none, .d (.bin .arith .sub (.t 50) (.t 51))⟩,
    ⟨some 53, none, .d (.fa 0 (.t 7))⟩,
    ⟨some 54, none, .d (.load false 1 (.t 53))⟩,
    ⟨some 55, none, .d (.bin .arith .mul (.t 52) (.t 54))⟩,
    ⟨some 56, none, .d (.bin .arith .add (.t 49) (.t 55))⟩,
    ⟨some 57, none, .d (.mv (.t 11))⟩,
    ⟨some 58, none, .d (.fa 1 (.t 7))⟩,
    ⟨some 59, none, .d (.load false 1 (.t 58))⟩,
    ⟨some 60, none, .d (.bin .arith .mul (.t 57) (.t 59))⟩,
    ⟨some 61, none, .d (.call (.f f_l7Cut) [(.t 56), (.t 60)])⟩,
    ⟨none, none, .w (.store 2 (.t 8) (.t 61))⟩,
    ⟨some 9, none, .d (.mv (.c (.bool true)))⟩])
  (.ret)))))), [.cell 8 2 true, .tmp 9]⟩
def n_s_ChanceYes : Nat → Option Ann := fun _ => none
abbrev k_s_ChanceYes : List Nat := [0, 1, 2, 3, 7, 8, 9, 10, 11, 12, 28, 38]
abbrev o_s_ChanceYes : List Nat := [7, 8]
def c_ChanceYes : Con := pure' fun
  | [.p (.int .i64 n), .p (.sl 2 l_), .p (.int .i64 q), .p (.agg [.int .i64 s, .int .i64 o])] => if isAs l_ = true ∧ ((ofAs l_).length ≤ 1100000) then some (if okY n (ofAs l_) q s o = true then .tp [.ag [.p (.int .i64 (frN (yesN (partL s o (ofAs l_) n.toNat) s o q).toNat (yesD (partL s o (ofAs l_) n.toNat) o).toNat)), .p (.int .i64 (frD (yesN (partL s o (ofAs l_) n.toNat) s o q).toNat (yesD (partL s o (ofAs l_) n.toNat) o).toNat))], .p (.bool true)] else .tp [.ag [.p (.int .i64 0), .p (.int .i64 0)], .p (.bool false)], []) else none
  | _ => none
theorem s_ChanceYes {P : Program} (hm : P.follows .mixedOrders = true) {Γ : Gam} (hΓ : GS P Γ) {n : FuncId} {f_sharesAfter : FuncId} {f_isQuestion : FuncId} {f_within : FuncId} {f_fraction : FuncId} (is : Is P n (a_ChanceYes f_sharesAfter f_isQuestion f_within f_fraction)) (h_sharesAfter : Γ f_sharesAfter = c_sharesAfter) (h_isQuestion : Γ f_isQuestion = c_isQuestion) (h_within : Γ f_within = c_within) (h_fraction : Γ f_fraction = c_fraction)  : Says P n c_ChanceYes := by
  refine Says.pure fun args r fs h => ?_
  split at h
  case h_2 => cases h
  rename_i n l_ q s o
  split at h
  case isFalse => cases h
  rename_i hc
  obtain ⟨hl_, hc⟩ := hc
  obtain ⟨l, rfl⟩ := isAs_out hl_
  simp only [ofI_ints, ofBo_bools, ofAs_asks, Option.some.injEq, Prod.mk.injEq] at h hc
  obtain ⟨rfl, rfl⟩ := h
  cases hAD : (areA n l 11 && isD s o) with
  | false =>
    have hok : okY n l q s o = false := by simp only [okY, hAD, Bool.false_and]
    refine is.go hm hΓ k_ChanceYes o_ChanceYes (by simp [a_ChanceYes]) ?_
    simp only [a_ChanceYes, h_sharesAfter, c_sharesAfter, h_isQuestion, c_isQuestion, h_within, c_within, h_fraction, c_fraction, hc, hAD, hok, Bool.false_eq_true, Int.reduceLE, List.zipIdx_cons, List.zipIdx_nil, ↓SP, SQ, Gam.add, stepM, callC, argC, lendO, nmBy, nmC, likeL, likeB, plainOb, offs, X, F, trP, trO, stepD, stepW, newA, SV.tr, SV.trL, fz, allP, Ob.tr, loadA, cellsA, SV.cells, binA, binI, eqOut, isSl, isPt, natOf, callee, snap, SV.refsL, SV.refs, thaw, fzAll, loA, hiA, elemOf, partsA, buildA, putCells, ↓reduceIte, reduceCtorEq, okCell, Nat.reduceAdd, Nat.reduceEqDiff, Nat.reduceSub, Nat.reduceMul, Nat.reduceLeDiff, Nat.reduceLT, Nat.reduceBEq, PV.scal, PV.scalL, SV.scal, SV.scalL, Ob.scal, PV.isCell, pure', resO]
    exact finA_val (by simp [retA, rvA, List.mapM_cons, List.mapM_nil, Option.pure_def, Option.bind_eq_bind, Option.bind_some, Option.map_some, mkE_cons, mk_nil, mkO_cons, mkO_nil, loadA, ↓reduceIte, List.take_succ_cons, List.take_zero, List.drop_zero, List.drop_succ_cons, List.length_cons, List.length_nil, Nat.reduceAdd, Nat.reduceEqDiff, Nat.reduceLeDiff, Nat.zero_add, Nat.le_refl, reduceCtorEq, SV.tr, SV.trL, nmF, rn_nil, rn_cons1, rn_cons2, List.map_cons, List.map_nil, List.all_cons, List.all_nil, plainOb, SV.refsL, SV.refs, Ob.refs, X, F, List.range_succ, List.range_zero, List.nil_append, List.cons_append, List.isEmpty_nil, decide_true, Nat.reduceLT, Bool.and_self, Bool.and_true, and_self, and_true, List.getElem?_cons_zero, List.getElem?_cons_succ, List.nodup_cons, List.nodup_nil, List.mem_cons, List.not_mem_nil, not_false_eq_true, or_false, List.append_nil, mkO, setO_mk, List.mem_singleton]) (by simp [SV.tr, SV.trL])
  | true =>
    by_cases hs : 0 < sumL (partL s o l n.toNat)
    · cases hQ : isQ n q with
      | false =>
        have hok : okY n l q s o = false := by simp only [okY, hQ, Bool.and_false]
        refine is.go hm hΓ k_ChanceYes o_ChanceYes (by simp [a_ChanceYes]) ?_
        simp only [a_ChanceYes, h_sharesAfter, c_sharesAfter, h_isQuestion, c_isQuestion, h_within, c_within, h_fraction, c_fraction, hc, hAD, hs, hQ, hok, Bool.false_eq_true, Int.reduceLE, List.zipIdx_cons, List.zipIdx_nil, ↓SP, SQ, Gam.add, stepM, callC, argC, lendO, nmBy, nmC, likeL, likeB, plainOb, offs, X, F, trP, trO, stepD, stepW, newA, SV.tr, SV.trL, fz, allP, Ob.tr, loadA, cellsA, SV.cells, binA, binI, eqOut, isSl, isPt, natOf, callee, snap, SV.refsL, SV.refs, thaw, fzAll, loA, hiA, elemOf, partsA, buildA, putCells, ↓reduceIte, reduceCtorEq, okCell, Nat.reduceAdd, Nat.reduceEqDiff, Nat.reduceSub, Nat.reduceMul, Nat.reduceLeDiff, Nat.reduceLT, Nat.reduceBEq, PV.scal, PV.scalL, SV.scal, SV.scalL, Ob.scal, PV.isCell, pure', resO]
        exact finA_val (by simp [retA, rvA, List.mapM_cons, List.mapM_nil, Option.pure_def, Option.bind_eq_bind, Option.bind_some, Option.map_some, mkE_cons, mk_nil, mkO_cons, mkO_nil, loadA, ↓reduceIte, List.take_succ_cons, List.take_zero, List.drop_zero, List.drop_succ_cons, List.length_cons, List.length_nil, Nat.reduceAdd, Nat.reduceEqDiff, Nat.reduceLeDiff, Nat.zero_add, Nat.le_refl, reduceCtorEq, SV.tr, SV.trL, nmF, rn_nil, rn_cons1, rn_cons2, List.map_cons, List.map_nil, List.all_cons, List.all_nil, plainOb, SV.refsL, SV.refs, Ob.refs, X, F, List.range_succ, List.range_zero, List.nil_append, List.cons_append, List.isEmpty_nil, decide_true, Nat.reduceLT, Bool.and_self, Bool.and_true, and_self, and_true, List.getElem?_cons_zero, List.getElem?_cons_succ, List.nodup_cons, List.nodup_nil, List.mem_cons, List.not_mem_nil, not_false_eq_true, or_false, List.append_nil, mkO, setO_mk, List.mem_singleton]) (by simp [SV.tr, SV.trL])
      | true =>
        have hok : okY n l q s o = true := by simp only [okY, hAD, dec_t hs, hQ, Bool.and_self]
        have hAD2 := hAD
        rw [Bool.and_eq_true] at hAD2
        obtain ⟨a1, a2, a3⟩ := areA_out hAD2.1
        have hpl := partL_len s o l n.toNat
        have hpf := partL_fit hAD2.2 (show l.length ≤ 12 by omega) n.toNat
        generalize hp : partL s o l n.toNat = p at *
        have hn : n.toNat = p.length := hpl.symm
        have hl4 : p.length ≤ 4096 := by omega
        have hy := yes_fit hpf (by omega) hAD2.2 q _ rfl
        obtain ⟨d1, d2, d3, d4⟩ := isD_out hAD2.2
        have hN : yesN p s o q = inI p q p.length * (o - s) + (sumL p - inI p q p.length) * s := rfl
        have hD : yesD p o = sumL p * o := rfl
        have hp2 : partL s o l p.length = p := by rw [← hn]; exact hp
        generalize hgw : inI p q p.length = w at *
        obtain ⟨y1, y2, y3, y4, y5, y6, y7, y8, y9⟩ := hy
        have y9 := y9 hs
        have w0 : IntKind.i64.wrap (o - s) = o - s := wrap64 (by omega) (by omega)
        have w1 : IntKind.i64.wrap (w * (o - s)) = w * (o - s) := wrap64 (by omega) (by omega)
        have w2 : IntKind.i64.wrap (sumL p - w) = sumL p - w := wrap64 (by omega) (by omega)
        have w3 : IntKind.i64.wrap ((sumL p - w) * s) = (sumL p - w) * s := wrap64 (by omega) (by omega)
        have w4 : IntKind.i64.wrap (w * (o - s) + (sumL p - w) * s) = yesN p s o q := by rw [hN]; exact wrap64 (by omega) (by omega)
        have w5 : IntKind.i64.wrap (sumL p * o) = yesD p o := by rw [hD]; exact wrap64 (by omega) (by omega)
        have g1 : 0 ≤ yesN p s o q := by rw [hN]; omega
        have g2 : yesN p s o q ≤ 4000000000000000000 := by rw [hN]; omega
        have g3 : 0 < yesD p o := by rw [hD]; omega
        have g4 : yesD p o ≤ 4000000000000000000 := by rw [hD]; omega
        refine is.go hm hΓ k_ChanceYes o_ChanceYes (by simp [a_ChanceYes]) ?_
        simp only [a_ChanceYes, h_sharesAfter, c_sharesAfter, h_isQuestion, c_isQuestion, h_within, c_within, h_fraction, c_fraction, hc, hAD, hs, hQ, hok, hp2, hn, hl4, hpf, hgw, w0, w1, w2, w3, w4, w5, g1, g2, g3, g4, Int.reduceLE, List.zipIdx_cons, List.zipIdx_nil, ↓SP, SQ, Gam.add, stepM, callC, argC, lendO, nmBy, nmC, likeL, likeB, plainOb, offs, X, F, trP, trO, stepD, stepW, newA, SV.tr, SV.trL, fz, allP, Ob.tr, loadA, cellsA, SV.cells, binA, binI, eqOut, isSl, isPt, natOf, callee, snap, SV.refsL, SV.refs, thaw, fzAll, loA, hiA, elemOf, partsA, buildA, putCells, ↓reduceIte, reduceCtorEq, okCell, Nat.reduceAdd, Nat.reduceEqDiff, Nat.reduceSub, Nat.reduceMul, Nat.reduceLeDiff, Nat.reduceLT, Nat.reduceBEq, PV.scal, PV.scalL, SV.scal, SV.scalL, Ob.scal, PV.isCell, pure', resO]
        exact finA_val (by simp [retA, rvA, List.mapM_cons, List.mapM_nil, Option.pure_def, Option.bind_eq_bind, Option.bind_some, Option.map_some, mkE_cons, mk_nil, mkO_cons, mkO_nil, loadA, ↓reduceIte, List.take_succ_cons, List.take_zero, List.drop_zero, List.drop_succ_cons, List.length_cons, List.length_nil, Nat.reduceAdd, Nat.reduceEqDiff, Nat.reduceLeDiff, Nat.zero_add, Nat.le_refl, reduceCtorEq, SV.tr, SV.trL, nmF, rn_nil, rn_cons1, rn_cons2, List.map_cons, List.map_nil, List.all_cons, List.all_nil, plainOb, SV.refsL, SV.refs, Ob.refs, X, F, List.range_succ, List.range_zero, List.nil_append, List.cons_append, List.isEmpty_nil, decide_true, Nat.reduceLT, Bool.and_self, Bool.and_true, and_self, and_true, List.getElem?_cons_zero, List.getElem?_cons_succ, List.nodup_cons, List.nodup_nil, List.mem_cons, List.not_mem_nil, not_false_eq_true, or_false, List.append_nil, mkO, setO_mk, List.mem_singleton]) (by simp [SV.tr, SV.trL])
    · have hok : okY n l q s o = false := by simp only [okY, dec_f hs, Bool.and_false, Bool.false_and]
      refine is.go hm hΓ k_ChanceYes o_ChanceYes (by simp [a_ChanceYes]) ?_
      simp only [a_ChanceYes, h_sharesAfter, c_sharesAfter, h_isQuestion, c_isQuestion, h_within, c_within, h_fraction, c_fraction, hc, hAD, hok, hs, Bool.false_eq_true, Int.reduceLE, List.zipIdx_cons, List.zipIdx_nil, ↓SP, SQ, Gam.add, stepM, callC, argC, lendO, nmBy, nmC, likeL, likeB, plainOb, offs, X, F, trP, trO, stepD, stepW, newA, SV.tr, SV.trL, fz, allP, Ob.tr, loadA, cellsA, SV.cells, binA, binI, eqOut, isSl, isPt, natOf, callee, snap, SV.refsL, SV.refs, thaw, fzAll, loA, hiA, elemOf, partsA, buildA, putCells, ↓reduceIte, reduceCtorEq, okCell, Nat.reduceAdd, Nat.reduceEqDiff, Nat.reduceSub, Nat.reduceMul, Nat.reduceLeDiff, Nat.reduceLT, Nat.reduceBEq, PV.scal, PV.scalL, SV.scal, SV.scalL, Ob.scal, PV.isCell, pure', resO]
      exact finA_val (by simp [retA, rvA, List.mapM_cons, List.mapM_nil, Option.pure_def, Option.bind_eq_bind, Option.bind_some, Option.map_some, mkE_cons, mk_nil, mkO_cons, mkO_nil, loadA, ↓reduceIte, List.take_succ_cons, List.take_zero, List.drop_zero, List.drop_succ_cons, List.length_cons, List.length_nil, Nat.reduceAdd, Nat.reduceEqDiff, Nat.reduceLeDiff, Nat.zero_add, Nat.le_refl, reduceCtorEq, SV.tr, SV.trL, nmF, rn_nil, rn_cons1, rn_cons2, List.map_cons, List.map_nil, List.all_cons, List.all_nil, plainOb, SV.refsL, SV.refs, Ob.refs, X, F, List.range_succ, List.range_zero, List.nil_append, List.cons_append, List.isEmpty_nil, decide_true, Nat.reduceLT, Bool.and_self, Bool.and_true, and_self, and_true, List.getElem?_cons_zero, List.getElem?_cons_succ, List.nodup_cons, List.nodup_nil, List.mem_cons, List.not_mem_nil, not_false_eq_true, or_false, List.append_nil, mkO, setO_mk, List.mem_singleton]) (by simp [SV.tr, SV.trL])
theorem okY_12 (n : Int) (l : List (Int × Bool)) : areA n l 11 = (areA n l 12 && !((l.length : Int) == 12)) := by
  simp only [areA]
  by_cases h : (l.length : Int) ≤ 11
  · have h2 : (l.length : Int) ≤ 12 := by omega
    have h3 : ((l.length : Int) == 12) = false := beq_eq_false_iff_ne.2 (by omega)
    simp only [dec_t h, dec_t h2, h3, Bool.and_true, Bool.not_false]
  · by_cases h2 : (l.length : Int) ≤ 12
    · have h3 : ((l.length : Int) == 12) = true := beq_iff_eq.2 (by omega)
      simp only [dec_f h, h3, Bool.and_false, Bool.false_and, Bool.not_true]
    · simp only [dec_f h, dec_f h2, Bool.and_false, Bool.false_and]
theorem s_s_ChanceYes {P : Program} (hm : P.follows .mixedOrders = true) {Γ : Gam} (hΓ : GS P Γ) {n : FuncId} {f_l7Answers : FuncId} {f_l2Asks : FuncId} {f_l7After : FuncId} {f_l7In : FuncId} {f_l7Cut : FuncId} (is : Is P n (a_s_ChanceYes f_l7Answers f_l2Asks f_l7After f_l7In f_l7Cut)) (h_l7Answers : Γ f_l7Answers = c_l7Answers) (h_l2Asks : Γ f_l2Asks = c_isQuestion) (h_l7After : Γ f_l7After = c_shares) (h_l7In : Γ f_l7In = c_within) (h_l7Cut : Γ f_l7Cut = c_fraction)  : Says P n c_ChanceYes := by
  refine Says.pure fun args r fs h => ?_
  split at h
  case h_2 => cases h
  rename_i n l_ q s o
  split at h
  case isFalse => cases h
  rename_i hc
  obtain ⟨hl_, hc⟩ := hc
  obtain ⟨l, rfl⟩ := isAs_out hl_
  simp only [ofI_ints, ofBo_bools, ofAs_asks, Option.some.injEq, Prod.mk.injEq] at h hc
  obtain ⟨rfl, rfl⟩ := h
  have h12 := okY_12 n l
  cases hAD : (areA n l 12 && isD s o) with
  | false =>
    have hok : okY n l q s o = false := by
      have e : (areA n l 11 && isD s o) = false := by
        rw [h12]
        cases hA : areA n l 12 with
        | false => rfl
        | true => rw [hA, Bool.true_and] at hAD; rw [hAD, Bool.and_false]
      simp only [okY, e, Bool.false_and]
    refine is.go hm hΓ k_s_ChanceYes o_s_ChanceYes (by simp [a_s_ChanceYes]) ?_
    simp only [a_s_ChanceYes, h_l7Answers, c_l7Answers, h_l2Asks, c_isQuestion, h_l7After, c_shares, h_l7In, c_within, h_l7Cut, c_fraction, hc, hAD, hok, Bool.false_eq_true, Int.reduceLE, List.zipIdx_cons, List.zipIdx_nil, ↓SP, SQ, Gam.add, stepM, callC, argC, lendO, nmBy, nmC, likeL, likeB, plainOb, offs, X, F, trP, trO, stepD, stepW, newA, SV.tr, SV.trL, fz, allP, Ob.tr, loadA, cellsA, SV.cells, binA, binI, eqOut, isSl, isPt, natOf, callee, snap, SV.refsL, SV.refs, thaw, fzAll, loA, hiA, elemOf, partsA, buildA, putCells, ↓reduceIte, reduceCtorEq, okCell, Nat.reduceAdd, Nat.reduceEqDiff, Nat.reduceSub, Nat.reduceMul, Nat.reduceLeDiff, Nat.reduceLT, Nat.reduceBEq, PV.scal, PV.scalL, SV.scal, SV.scalL, Ob.scal, PV.isCell, pure', resO]
    exact finA_val (by simp [retA, rvA, List.mapM_cons, List.mapM_nil, Option.pure_def, Option.bind_eq_bind, Option.bind_some, Option.map_some, mkE_cons, mk_nil, mkO_cons, mkO_nil, loadA, ↓reduceIte, List.take_succ_cons, List.take_zero, List.drop_zero, List.drop_succ_cons, List.length_cons, List.length_nil, Nat.reduceAdd, Nat.reduceEqDiff, Nat.reduceLeDiff, Nat.zero_add, Nat.le_refl, reduceCtorEq, SV.tr, SV.trL, nmF, rn_nil, rn_cons1, rn_cons2, List.map_cons, List.map_nil, List.all_cons, List.all_nil, plainOb, SV.refsL, SV.refs, Ob.refs, X, F, List.range_succ, List.range_zero, List.nil_append, List.cons_append, List.isEmpty_nil, decide_true, Nat.reduceLT, Bool.and_self, Bool.and_true, and_self, and_true, List.getElem?_cons_zero, List.getElem?_cons_succ, List.nodup_cons, List.nodup_nil, List.mem_cons, List.not_mem_nil, not_false_eq_true, or_false, List.append_nil, mkO, setO_mk, List.mem_singleton]) (by simp [SV.tr, SV.trL])
  | true =>
    have hAD2 := hAD
    rw [Bool.and_eq_true] at hAD2
    cases h3 : ((l.length : Int) == 12) with
    | true =>
      have hok : okY n l q s o = false := by simp only [okY, h12, h3, Bool.not_true, Bool.and_false, Bool.false_and]
      refine is.go hm hΓ k_s_ChanceYes o_s_ChanceYes (by simp [a_s_ChanceYes]) ?_
      simp only [a_s_ChanceYes, h_l7Answers, c_l7Answers, h_l2Asks, c_isQuestion, h_l7After, c_shares, h_l7In, c_within, h_l7Cut, c_fraction, hc, hAD, hAD2.1, hAD2.2, Bool.and_self, h3, hok, Bool.false_eq_true, Int.reduceLE, List.zipIdx_cons, List.zipIdx_nil, ↓SP, SQ, Gam.add, stepM, callC, argC, lendO, nmBy, nmC, likeL, likeB, plainOb, offs, X, F, trP, trO, stepD, stepW, newA, SV.tr, SV.trL, fz, allP, Ob.tr, loadA, cellsA, SV.cells, binA, binI, eqOut, isSl, isPt, natOf, callee, snap, SV.refsL, SV.refs, thaw, fzAll, loA, hiA, elemOf, partsA, buildA, putCells, ↓reduceIte, reduceCtorEq, okCell, Nat.reduceAdd, Nat.reduceEqDiff, Nat.reduceSub, Nat.reduceMul, Nat.reduceLeDiff, Nat.reduceLT, Nat.reduceBEq, PV.scal, PV.scalL, SV.scal, SV.scalL, Ob.scal, PV.isCell, pure', resO]
      exact finA_val (by simp [retA, rvA, List.mapM_cons, List.mapM_nil, Option.pure_def, Option.bind_eq_bind, Option.bind_some, Option.map_some, mkE_cons, mk_nil, mkO_cons, mkO_nil, loadA, ↓reduceIte, List.take_succ_cons, List.take_zero, List.drop_zero, List.drop_succ_cons, List.length_cons, List.length_nil, Nat.reduceAdd, Nat.reduceEqDiff, Nat.reduceLeDiff, Nat.zero_add, Nat.le_refl, reduceCtorEq, SV.tr, SV.trL, nmF, rn_nil, rn_cons1, rn_cons2, List.map_cons, List.map_nil, List.all_cons, List.all_nil, plainOb, SV.refsL, SV.refs, Ob.refs, X, F, List.range_succ, List.range_zero, List.nil_append, List.cons_append, List.isEmpty_nil, decide_true, Nat.reduceLT, Bool.and_self, Bool.and_true, and_self, and_true, List.getElem?_cons_zero, List.getElem?_cons_succ, List.nodup_cons, List.nodup_nil, List.mem_cons, List.not_mem_nil, not_false_eq_true, or_false, List.append_nil, mkO, setO_mk, List.mem_singleton]) (by simp [SV.tr, SV.trL])
    | false =>
      have hA11 : areA n l 11 = true := by rw [h12, h3, hAD2.1]; rfl
      cases hQ : isQ n q with
      | false =>
        have hok : okY n l q s o = false := by simp only [okY, hQ, Bool.and_false]
        refine is.go hm hΓ k_s_ChanceYes o_s_ChanceYes (by simp [a_s_ChanceYes]) ?_
        simp only [a_s_ChanceYes, h_l7Answers, c_l7Answers, h_l2Asks, c_isQuestion, h_l7After, c_shares, h_l7In, c_within, h_l7Cut, c_fraction, hc, hAD, hAD2.1, hAD2.2, Bool.and_self, h3, hQ, hok, Bool.false_eq_true, Int.reduceLE, List.zipIdx_cons, List.zipIdx_nil, ↓SP, SQ, Gam.add, stepM, callC, argC, lendO, nmBy, nmC, likeL, likeB, plainOb, offs, X, F, trP, trO, stepD, stepW, newA, SV.tr, SV.trL, fz, allP, Ob.tr, loadA, cellsA, SV.cells, binA, binI, eqOut, isSl, isPt, natOf, callee, snap, SV.refsL, SV.refs, thaw, fzAll, loA, hiA, elemOf, partsA, buildA, putCells, ↓reduceIte, reduceCtorEq, okCell, Nat.reduceAdd, Nat.reduceEqDiff, Nat.reduceSub, Nat.reduceMul, Nat.reduceLeDiff, Nat.reduceLT, Nat.reduceBEq, PV.scal, PV.scalL, SV.scal, SV.scalL, Ob.scal, PV.isCell, pure', resO]
        exact finA_val (by simp [retA, rvA, List.mapM_cons, List.mapM_nil, Option.pure_def, Option.bind_eq_bind, Option.bind_some, Option.map_some, mkE_cons, mk_nil, mkO_cons, mkO_nil, loadA, ↓reduceIte, List.take_succ_cons, List.take_zero, List.drop_zero, List.drop_succ_cons, List.length_cons, List.length_nil, Nat.reduceAdd, Nat.reduceEqDiff, Nat.reduceLeDiff, Nat.zero_add, Nat.le_refl, reduceCtorEq, SV.tr, SV.trL, nmF, rn_nil, rn_cons1, rn_cons2, List.map_cons, List.map_nil, List.all_cons, List.all_nil, plainOb, SV.refsL, SV.refs, Ob.refs, X, F, List.range_succ, List.range_zero, List.nil_append, List.cons_append, List.isEmpty_nil, decide_true, Nat.reduceLT, Bool.and_self, Bool.and_true, and_self, and_true, List.getElem?_cons_zero, List.getElem?_cons_succ, List.nodup_cons, List.nodup_nil, List.mem_cons, List.not_mem_nil, not_false_eq_true, or_false, List.append_nil, mkO, setO_mk, List.mem_singleton]) (by simp [SV.tr, SV.trL])
      | true =>
        obtain ⟨a1, a2, a3⟩ := areA_out hA11
        have g0 : 0 ≤ n := by omega
        have hl12 : l.length ≤ 12 := by omega
        have hpl := partL_len s o l n.toNat
        have hpf := partL_fit hAD2.2 hl12 n.toNat
        have hok : okY n l q s o = decide (0 < sumL (partL s o l n.toNat)) := by simp only [okY, hA11, hAD2.2, hQ, Bool.true_and, Bool.and_true]
        have hD0 := hAD2.2
        have hA0 := hAD2.1
        clear hAD2 h12
        generalize hp : partL s o l n.toNat = p at *
        have hn : n.toNat = p.length := hpl.symm
        have hp2 : partL s o l p.length = p := by rw [← hn]; exact hp
        by_cases hs : 0 < sumL p
        · have hok2 : okY n l q s o = true := by rw [hok]; exact dec_t hs
          have hsb : (sumL p == 0) = false := beq_eq_false_iff_ne.2 (by omega)
          have hl4 : p.length ≤ 4096 := by omega
          have hy := yes_fit hpf (by omega) hD0 q _ rfl
          obtain ⟨d1, d2, d3, d4⟩ := isD_out hD0
          have hN : yesN p s o q = inI p q p.length * (o - s) + (sumL p - inI p q p.length) * s := rfl
          have hD : yesD p o = sumL p * o := rfl
          generalize hgw : inI p q p.length = w at *
          obtain ⟨y1, y2, y3, y4, y5, y6, y7, y8, y9⟩ := hy
          have y9 := y9 hs
          have w0 : IntKind.i64.wrap (o - s) = o - s := wrap64 (by omega) (by omega)
          have w1 : IntKind.i64.wrap (w * (o - s)) = w * (o - s) := wrap64 (by omega) (by omega)
          have w2 : IntKind.i64.wrap (sumL p - w) = sumL p - w := wrap64 (by omega) (by omega)
          have w3 : IntKind.i64.wrap ((sumL p - w) * s) = (sumL p - w) * s := wrap64 (by omega) (by omega)
          have w4 : IntKind.i64.wrap (w * (o - s) + (sumL p - w) * s) = yesN p s o q := by rw [hN]; exact wrap64 (by omega) (by omega)
          have w5 : IntKind.i64.wrap (sumL p * o) = yesD p o := by rw [hD]; exact wrap64 (by omega) (by omega)
          have g1 : 0 ≤ yesN p s o q := by rw [hN]; omega
          have g2 : yesN p s o q ≤ 4000000000000000000 := by rw [hN]; omega
          have g3 : 0 < yesD p o := by rw [hD]; omega
          have g4 : yesD p o ≤ 4000000000000000000 := by rw [hD]; omega
          refine is.go hm hΓ k_s_ChanceYes o_s_ChanceYes (by simp [a_s_ChanceYes]) ?_
          simp only [a_s_ChanceYes, h_l7Answers, c_l7Answers, h_l2Asks, c_isQuestion, h_l7After, c_shares, h_l7In, c_within, h_l7Cut, c_fraction, hc, hAD, hA0, hD0, Bool.and_self, h3, hQ, g0, a2, hl12, hsb, hok2, hp2, hn, hl4, hpf, hgw, w0, w1, w2, w3, w4, w5, g1, g2, g3, g4, Int.reduceLE, List.zipIdx_cons, List.zipIdx_nil, ↓SP, SQ, Gam.add, stepM, callC, argC, lendO, nmBy, nmC, likeL, likeB, plainOb, offs, X, F, trP, trO, stepD, stepW, newA, SV.tr, SV.trL, fz, allP, Ob.tr, loadA, cellsA, SV.cells, binA, binI, eqOut, isSl, isPt, natOf, callee, snap, SV.refsL, SV.refs, thaw, fzAll, loA, hiA, elemOf, partsA, buildA, putCells, ↓reduceIte, reduceCtorEq, okCell, Nat.reduceAdd, Nat.reduceEqDiff, Nat.reduceSub, Nat.reduceMul, Nat.reduceLeDiff, Nat.reduceLT, Nat.reduceBEq, PV.scal, PV.scalL, SV.scal, SV.scalL, Ob.scal, PV.isCell, pure', resO]
          exact finA_val (by simp [retA, rvA, List.mapM_cons, List.mapM_nil, Option.pure_def, Option.bind_eq_bind, Option.bind_some, Option.map_some, mkE_cons, mk_nil, mkO_cons, mkO_nil, loadA, ↓reduceIte, List.take_succ_cons, List.take_zero, List.drop_zero, List.drop_succ_cons, List.length_cons, List.length_nil, Nat.reduceAdd, Nat.reduceEqDiff, Nat.reduceLeDiff, Nat.zero_add, Nat.le_refl, reduceCtorEq, SV.tr, SV.trL, nmF, rn_nil, rn_cons1, rn_cons2, List.map_cons, List.map_nil, List.all_cons, List.all_nil, plainOb, SV.refsL, SV.refs, Ob.refs, X, F, List.range_succ, List.range_zero, List.nil_append, List.cons_append, List.isEmpty_nil, decide_true, Nat.reduceLT, Bool.and_self, Bool.and_true, and_self, and_true, List.getElem?_cons_zero, List.getElem?_cons_succ, List.nodup_cons, List.nodup_nil, List.mem_cons, List.not_mem_nil, not_false_eq_true, or_false, List.append_nil, mkO, setO_mk, List.mem_singleton]) (by simp [SV.tr, SV.trL])
        · have hok2 : okY n l q s o = false := by rw [hok]; exact dec_f hs
          have hsb : (sumL p == 0) = true := beq_iff_eq.2 (by have := (sum_fit hpf).1; omega)
          refine is.go hm hΓ k_s_ChanceYes o_s_ChanceYes (by simp [a_s_ChanceYes]) ?_
          simp only [a_s_ChanceYes, h_l7Answers, c_l7Answers, h_l2Asks, c_isQuestion, h_l7After, c_shares, h_l7In, c_within, h_l7Cut, c_fraction, hc, hAD, hA0, hD0, Bool.and_self, h3, hQ, g0, a2, hl12, hsb, hok2, hp2, hn, Bool.false_eq_true, Int.reduceLE, List.zipIdx_cons, List.zipIdx_nil, ↓SP, SQ, Gam.add, stepM, callC, argC, lendO, nmBy, nmC, likeL, likeB, plainOb, offs, X, F, trP, trO, stepD, stepW, newA, SV.tr, SV.trL, fz, allP, Ob.tr, loadA, cellsA, SV.cells, binA, binI, eqOut, isSl, isPt, natOf, callee, snap, SV.refsL, SV.refs, thaw, fzAll, loA, hiA, elemOf, partsA, buildA, putCells, ↓reduceIte, reduceCtorEq, okCell, Nat.reduceAdd, Nat.reduceEqDiff, Nat.reduceSub, Nat.reduceMul, Nat.reduceLeDiff, Nat.reduceLT, Nat.reduceBEq, PV.scal, PV.scalL, SV.scal, SV.scalL, Ob.scal, PV.isCell, pure', resO]
          exact finA_val (by simp [retA, rvA, List.mapM_cons, List.mapM_nil, Option.pure_def, Option.bind_eq_bind, Option.bind_some, Option.map_some, mkE_cons, mk_nil, mkO_cons, mkO_nil, loadA, ↓reduceIte, List.take_succ_cons, List.take_zero, List.drop_zero, List.drop_succ_cons, List.length_cons, List.length_nil, Nat.reduceAdd, Nat.reduceEqDiff, Nat.reduceLeDiff, Nat.zero_add, Nat.le_refl, reduceCtorEq, SV.tr, SV.trL, nmF, rn_nil, rn_cons1, rn_cons2, List.map_cons, List.map_nil, List.all_cons, List.all_nil, plainOb, SV.refsL, SV.refs, Ob.refs, X, F, List.range_succ, List.range_zero, List.nil_append, List.cons_append, List.isEmpty_nil, decide_true, Nat.reduceLT, Bool.and_self, Bool.and_true, and_self, and_true, List.getElem?_cons_zero, List.getElem?_cons_succ, List.nodup_cons, List.nodup_nil, List.mem_cons, List.not_mem_nil, not_false_eq_true, or_false, List.append_nil, mkO, setO_mk, List.mem_singleton]) (by simp [SV.tr, SV.trL])
def a_x_ChanceYes (f_szAskedS : FuncId) (f_toAskedS : FuncId) (f_toDoubt : FuncId) (f_s_ChanceYes : FuncId) (f_ChanceYes : FuncId) (f_eqIntA2 : FuncId) (f_eqAskedS : FuncId) : AFn := ⟨4, 
  .seq (.reg [⟨some 7, none, .w (.box 2 (.t 3))⟩,
    ⟨some 8, none, .d (.mv (.c (.bool false)))⟩])
  (.seq (.reg [⟨some 9, none, .d (.mv (.c (.int .i64 1048576)))⟩])
  (.seq (.reg [⟨some 15, none, .d (.mv (.t 1))⟩,
    ⟨some 16, none, .d (.mv (.t 9))⟩,
    ⟨some 17, none, .d (.call (.f f_szAskedS) [(.t 15), (.t 16)])⟩,
    ⟨some 9, none, .d (.mv (.t 17))⟩])
  (.seq (.seq (.reg [⟨some 18, none, .d (.mv (.t 9))⟩,
    ⟨some 19, none, .d (.bin .arith .lss (.t 18) (.c (.int .i64 0)))⟩])
  (.cond (.t 19) (.seq (.reg [⟨some 8, none, .d (.mv (.c (.bool true)))⟩])
   (.ret)) (.skip)))
  (.seq (.dreg [10] [([10], ⟨some 21, none, .d (.mv (.t 0))⟩),
    ([10], ⟨some 22, none, .d (.mv (.t 1))⟩),
    ([10], ⟨some 23, none, .d (.call (.f f_toAskedS) [(.t 22)])⟩),
    ([10], ⟨some 24, none, .d (.mv (.t 2))⟩),
    ([10], ⟨some 25, none, .d (.load true 2 (.t 7))⟩),
    ([10], ⟨some 26, none, .d (.call (.f f_toDoubt) [(.t 25)])⟩),
    ([10], ⟨some 27, none, .d (.call (.f f_s_ChanceYes) [(.t 21), (.t 23), (.t 24), (.t 26)])⟩),
    ([10], ⟨some 20, none, .d (.mv (.t 27))⟩),
    ([10], ⟨some 28, none, .d (.extract (.t 20) 0)⟩),
    ([10], ⟨some 29, none, .d (.extract (.t 20) 1)⟩),
    ([], ⟨some 10, none, .w (.alloc [.int .i64 0, .int .i64 0])⟩),
    ([], ⟨none, none, .w (.store 2 (.t 10) (.t 28))⟩)] [⟨some 11, none, .d (.mv (.t 29))⟩])
  (.seq (.reg [⟨some 30, none, .d (.mv (.t 1))⟩,
    ⟨some 31, none, .d (.call (.f f_toAskedS) [(.t 30)])⟩,
    ⟨some 12, none, .d (.mv (.t 31))⟩])
  (.seq (.reg [⟨some 33, none, .d (.mv (.t 0))⟩,
    ⟨some 34, none, .d (.mv (.t 12))⟩,
    ⟨some 35, none, .d (.mv (.t 2))⟩,
    ⟨some 36, none, .d (.load true 2 (.t 7))⟩,
    ⟨some 37, none, .d (.call (.f f_toDoubt) [(.t 36)])⟩,
    ⟨some 38, none, .d (.call (.f f_ChanceYes) [(.t 33), (.t 34), (.t 35), (.t 37)])⟩,
    ⟨some 32, none, .d (.mv (.t 38))⟩,
    ⟨some 39, none, .d (.extract (.t 32) 0)⟩,
    ⟨some 40, none, .d (.extract (.t 32) 1)⟩,
    ⟨some 13, none, .w (.alloc [.int .i64 0, .int .i64 0])⟩,
    ⟨none, none, .w (.store 2 (.t 13) (.t 39))⟩,
    ⟨some 14, none, .d (.mv (.t 40))⟩])
  (.seq (.seq (.reg [⟨some 41, none, .d (.load true 2 (.t 13))⟩,
    ⟨some 42, none, .d (.load true 2 (.t 10))⟩,
    ⟨some 43, none, .d (.call (.f f_eqIntA2) [(.t 41), (.t 42)])⟩,
    ⟨some 44, none, .d (.not (.t 43))⟩,
    ⟨some 45, none, .d (.mv (.t 44))⟩,
    ⟨some 46, some (45, false), .d (.mv (.t 14))⟩,
    ⟨some 47, some (45, false), .d (.mv (.t 11))⟩,
    ⟨some 48, some (45, false), .d (.bin .bool .neq (.t 46) (.t 47))⟩,
    ⟨some 49, none, .d (.pick (.t 45) (.c (.bool true)) (.t 48))⟩])
  (.cond (.t 49) (.seq (.reg [⟨some 8, none, .d (.mv (.c (.bool false)))⟩])
   (.ret)) (.skip)))
  (.seq (.seq (.reg [⟨some 50, none, .d (.mv (.t 12))⟩,
    ⟨some 51, none, .d (.mv (.t 1))⟩,
    ⟨some 52, none, .d (.call (.f f_toAskedS) [(.t 51)])⟩,
    ⟨some 53, none, .d (.call (.f f_eqAskedS) [(.t 50), (.t 52)])⟩,
    ⟨some 54, none, .d (.not (.t 53))⟩])
  (.cond (.t 54) (.seq (.reg [⟨some 8, none, .d (.mv (.c (.bool false)))⟩])
   (.ret)) (.skip)))
  (.seq (.reg [⟨some 8, none, .d (.mv (.c (.bool true)))⟩])
  (.ret)))))))))), [.tmp 8]⟩
def n_x_ChanceYes : Nat → Option Ann := fun _ => none
abbrev k_x_ChanceYes : List Nat := [0, 1, 2, 3, 7, 8, 9, 10, 11, 12, 13, 14, 19, 49, 54]
abbrev o_x_ChanceYes : List Nat := [7, 10, 13]
def c_x_ChanceYes : Con := pure' fun
  | [.p (.int .i64 n), .p v, .p (.int .i64 q), .p (.agg [.int .i64 s, .int .i64 o])] => match slA v with
    | some l => if l.length ≤ 9223372036854775807 then some (.p (.bool true), []) else none
    | none => none
  | _ => none
set_option maxRecDepth 100000 in
theorem s_x_ChanceYes {P : Program} (hm : P.follows .mixedOrders = true) {Γ : Gam} (hΓ : GS P Γ) {n : FuncId} {f_szAskedS : FuncId} {f_toAskedS : FuncId} {f_toDoubt : FuncId} {f_s_ChanceYes : FuncId} {f_ChanceYes : FuncId} {f_eqIntA2 : FuncId} {f_eqAskedS : FuncId} (is : Is P n (a_x_ChanceYes f_szAskedS f_toAskedS f_toDoubt f_s_ChanceYes f_ChanceYes f_eqIntA2 f_eqAskedS)) (h_szAskedS : Γ f_szAskedS = c_szAskedS) (h_toAskedS : Γ f_toAskedS = c_toAskedS) (h_toDoubt : Γ f_toDoubt = c_toDoubt) (h_s_ChanceYes : Γ f_s_ChanceYes = c_ChanceYes) (h_ChanceYes : Γ f_ChanceYes = c_ChanceYes) (h_eqIntA2 : Γ f_eqIntA2 = c_eqIntA2) (h_eqAskedS : Γ f_eqAskedS = c_eqAskedS)  : Says P n c_x_ChanceYes := by
  refine Says.pure fun args r fs h => ?_
  split at h
  case h_2 => cases h
  rename_i n v q s o
  split at h
  case h_2 => cases h
  rename_i l hl
  split at h
  case isFalse => cases h
  rename_i hc
  simp only [Option.some.injEq, Prod.mk.injEq] at h
  obtain ⟨rfl, rfl⟩ := h
  have hlp := slA_lenP hl
  by_cases hk : (1048576 : Int) - (l.length : Int) < 0
  · refine is.go hm hΓ k_x_ChanceYes o_x_ChanceYes (by simp [a_x_ChanceYes]) ?_
    simp only [a_x_ChanceYes, h_szAskedS, c_szAskedS, h_toAskedS, c_toAskedS, h_toDoubt, c_toDoubt, h_s_ChanceYes, c_ChanceYes, h_ChanceYes, c_ChanceYes, h_eqIntA2, c_eqIntA2, h_eqAskedS, c_eqAskedS, hlp, hc, hk, Int.reduceLE, Int.reduceNeg, Int.reduceLT, List.zipIdx_cons, List.zipIdx_nil, ↓SP, SQ, Gam.add, stepM, callC, argC, lendO, nmBy, nmC, likeL, likeB, plainOb, offs, X, F, trP, trO, stepD, stepW, newA, SV.tr, SV.trL, fz, allP, Ob.tr, loadA, cellsA, SV.cells, binA, binI, eqOut, isSl, isPt, natOf, callee, snap, SV.refsL, SV.refs, thaw, fzAll, loA, hiA, elemOf, partsA, buildA, putCells, ↓reduceIte, reduceCtorEq, okCell, Nat.reduceAdd, Nat.reduceEqDiff, Nat.reduceSub, Nat.reduceMul, Nat.reduceLeDiff, Nat.reduceLT, Nat.reduceBEq, PV.scal, PV.scalL, SV.scal, SV.scalL, Ob.scal, PV.isCell, pure', resO]
    exact finA_val (by simp [retA, rvA, List.mapM_cons, List.mapM_nil, Option.pure_def, Option.bind_eq_bind, Option.bind_some, Option.map_some, mkE_cons, mk_nil, mkO_cons, mkO_nil, loadA, ↓reduceIte, List.take_succ_cons, List.take_zero, List.drop_zero, List.drop_succ_cons, List.length_cons, List.length_nil, Nat.reduceAdd, Nat.reduceEqDiff, Nat.reduceLeDiff, Nat.zero_add, Nat.le_refl, reduceCtorEq, SV.tr, SV.trL, nmF, rn_nil, rn_cons1, rn_cons2, List.map_cons, List.map_nil, List.all_cons, List.all_nil, plainOb, SV.refsL, SV.refs, Ob.refs, X, F, List.range_succ, List.range_zero, List.nil_append, List.cons_append, List.isEmpty_nil, decide_true, Nat.reduceLT, Bool.and_self, Bool.and_true, and_self, and_true, List.getElem?_cons_zero, List.getElem?_cons_succ, List.nodup_cons, List.nodup_nil, List.mem_cons, List.not_mem_nil, not_false_eq_true, or_false, List.append_nil, mkO, setO_mk, List.mem_singleton]) (by simp [SV.tr, SV.trL])
  · have hlen : l.length ≤ 1048576 := by omega
    have hlen2 : l.length ≤ 1100000 := by omega
    cases hok : okY n l q s o with
    | true =>
      refine is.go hm hΓ k_x_ChanceYes o_x_ChanceYes (by simp [a_x_ChanceYes]) ?_
      simp only [a_x_ChanceYes, h_szAskedS, c_szAskedS, h_toAskedS, c_toAskedS, h_toDoubt, c_toDoubt, h_s_ChanceYes, c_ChanceYes, h_ChanceYes, c_ChanceYes, h_eqIntA2, c_eqIntA2, h_eqAskedS, c_eqAskedS, hl, hlp, hc, hk, hlen, hlen2, hok, slA_sl, beq_self_eq_true, Bool.not_true, Int.reduceLE, Int.reduceNeg, Int.reduceLT, bne_self_eq_false, List.zipIdx_cons, List.zipIdx_nil, ↓SP, SQ, Gam.add, stepM, callC, argC, lendO, nmBy, nmC, likeL, likeB, plainOb, offs, X, F, trP, trO, stepD, stepW, newA, SV.tr, SV.trL, fz, allP, Ob.tr, loadA, cellsA, SV.cells, binA, binI, eqOut, isSl, isPt, natOf, callee, snap, SV.refsL, SV.refs, thaw, fzAll, loA, hiA, elemOf, partsA, buildA, putCells, ↓reduceIte, reduceCtorEq, okCell, Nat.reduceAdd, Nat.reduceEqDiff, Nat.reduceSub, Nat.reduceMul, Nat.reduceLeDiff, Nat.reduceLT, Nat.reduceBEq, PV.scal, PV.scalL, SV.scal, SV.scalL, Ob.scal, PV.isCell, pure', resO]
      exact finA_val (by simp [retA, rvA, List.mapM_cons, List.mapM_nil, Option.pure_def, Option.bind_eq_bind, Option.bind_some, Option.map_some, mkE_cons, mk_nil, mkO_cons, mkO_nil, loadA, ↓reduceIte, List.take_succ_cons, List.take_zero, List.drop_zero, List.drop_succ_cons, List.length_cons, List.length_nil, Nat.reduceAdd, Nat.reduceEqDiff, Nat.reduceLeDiff, Nat.zero_add, Nat.le_refl, reduceCtorEq, SV.tr, SV.trL, nmF, rn_nil, rn_cons1, rn_cons2, List.map_cons, List.map_nil, List.all_cons, List.all_nil, plainOb, SV.refsL, SV.refs, Ob.refs, X, F, List.range_succ, List.range_zero, List.nil_append, List.cons_append, List.isEmpty_nil, decide_true, Nat.reduceLT, Bool.and_self, Bool.and_true, and_self, and_true, List.getElem?_cons_zero, List.getElem?_cons_succ, List.nodup_cons, List.nodup_nil, List.mem_cons, List.not_mem_nil, not_false_eq_true, or_false, List.append_nil, mkO, setO_mk, List.mem_singleton]) (by simp [SV.tr, SV.trL])
    | false =>
      refine is.go hm hΓ k_x_ChanceYes o_x_ChanceYes (by simp [a_x_ChanceYes]) ?_
      simp only [a_x_ChanceYes, h_szAskedS, c_szAskedS, h_toAskedS, c_toAskedS, h_toDoubt, c_toDoubt, h_s_ChanceYes, c_ChanceYes, h_ChanceYes, c_ChanceYes, h_eqIntA2, c_eqIntA2, h_eqAskedS, c_eqAskedS, hl, hlp, hc, hk, hlen, hlen2, hok, Bool.false_eq_true, slA_sl, beq_self_eq_true, Bool.not_true, Int.reduceLE, Int.reduceNeg, Int.reduceLT, bne_self_eq_false, List.zipIdx_cons, List.zipIdx_nil, ↓SP, SQ, Gam.add, stepM, callC, argC, lendO, nmBy, nmC, likeL, likeB, plainOb, offs, X, F, trP, trO, stepD, stepW, newA, SV.tr, SV.trL, fz, allP, Ob.tr, loadA, cellsA, SV.cells, binA, binI, eqOut, isSl, isPt, natOf, callee, snap, SV.refsL, SV.refs, thaw, fzAll, loA, hiA, elemOf, partsA, buildA, putCells, ↓reduceIte, reduceCtorEq, okCell, Nat.reduceAdd, Nat.reduceEqDiff, Nat.reduceSub, Nat.reduceMul, Nat.reduceLeDiff, Nat.reduceLT, Nat.reduceBEq, PV.scal, PV.scalL, SV.scal, SV.scalL, Ob.scal, PV.isCell, pure', resO]
      exact finA_val (by simp [retA, rvA, List.mapM_cons, List.mapM_nil, Option.pure_def, Option.bind_eq_bind, Option.bind_some, Option.map_some, mkE_cons, mk_nil, mkO_cons, mkO_nil, loadA, ↓reduceIte, List.take_succ_cons, List.take_zero, List.drop_zero, List.drop_succ_cons, List.length_cons, List.length_nil, Nat.reduceAdd, Nat.reduceEqDiff, Nat.reduceLeDiff, Nat.zero_add, Nat.le_refl, reduceCtorEq, SV.tr, SV.trL, nmF, rn_nil, rn_cons1, rn_cons2, List.map_cons, List.map_nil, List.all_cons, List.all_nil, plainOb, SV.refsL, SV.refs, Ob.refs, X, F, List.range_succ, List.range_zero, List.nil_append, List.cons_append, List.isEmpty_nil, decide_true, Nat.reduceLT, Bool.and_self, Bool.and_true, and_self, and_true, List.getElem?_cons_zero, List.getElem?_cons_succ, List.nodup_cons, List.nodup_nil, List.mem_cons, List.not_mem_nil, not_false_eq_true, or_false, List.append_nil, mkO, setO_mk, List.mem_singleton]) (by simp [SV.tr, SV.trL])
end Go.Proofs.Ytmbljmolegalhaa.Pam
