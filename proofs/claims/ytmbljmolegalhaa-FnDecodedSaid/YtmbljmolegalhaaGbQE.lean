/- A part of the proof that stands in this folder: a small machine whose steps are shown to be the steps of the model, or walks of functions by it. No condition of its own. -/
import Derived.Test.YtmbljmolegalhaaGbQC
set_option linter.unusedVariables false
set_option linter.unusedSimpArgs false
namespace Go.Proofs.Ytmbljmolegalhaa.Pam
open Go
def a_vBigD : AFn := ⟨1, 
  .seq (.reg [⟨some 2, none, .d (.mv (.c (.bool false)))⟩])
  (.seq (.reg [⟨some 3, none, .d (.mv (.t 0))⟩,
    ⟨some 4, none, .d (.len (.t 3))⟩,
    ⟨some 5, none, .d (.bin .arith .gtr (.t 4) (.c (.int .i64 65536)))⟩,
    ⟨some 2, none, .d (.mv (.t 5))⟩])
  (.ret)), [.tmp 2]⟩
def n_vBigD : Nat → Option Ann := fun _ => none
abbrev k_vBigD : List Nat := [0, 2]
abbrev o_vBigD : List Nat := []
def c_vBigD : Con := pure' fun
  | [.p v] => match slU v with
    | some l => some (.p (.bool (decide (l.length > 65536))), [])
    | none => none
  | _ => none
theorem slU_lenD {v : PV} {l : List Int} (h : slU v = some l) (O : Objs) : lenA O (.p v) = some l.length := by
  rcases (slU_out h).1 with rfl | ⟨rfl, rfl⟩
  · simp [lenA, u8s_len]
  · simp [lenA]
theorem s_vBigD {P : Program} (hm : P.follows .mixedOrders = true) {Γ : Gam} (hΓ : GS P Γ) {n : FuncId} (is : Is P n a_vBigD)  : Says P n c_vBigD := by
  refine Says.pure fun args r fs h => ?_
  split at h
  case h_2 => cases h
  rename_i v
  split at h
  case h_2 => cases h
  rename_i l hv
  simp only [Option.some.injEq, Prod.mk.injEq] at h
  obtain ⟨rfl, rfl⟩ := h
  have hlv := slU_lenD hv
  by_cases hk : l.length > 65536
  · have h2 : (l.length : Int) > 65536 := by omega
    refine is.go hm hΓ k_vBigD o_vBigD (by simp [a_vBigD]) ?_
    simp only [a_vBigD, hlv, h2, List.zipIdx_cons, List.zipIdx_nil, ↓SP, SQ, Gam.add, stepM, callC, argC, lendO, nmBy, nmC, likeL, likeB, plainOb, offs, exL, X, F, trP, trO, stepD, stepW, newA, SV.tr, SV.trL, fz, allP, Ob.tr, loadA, cellsA, SV.cells, binA, binI, eqOut, isSl, isPt, natOf, callee, snap, SV.refsL, SV.refs, thaw, fzAll, loA, hiA, elemOf, partsA, buildA, putCells, ↓reduceIte, reduceCtorEq, okCell, Nat.reduceAdd, Nat.reduceEqDiff, Nat.reduceSub, Nat.reduceMul, Nat.reduceLeDiff, Nat.reduceLT, Nat.reduceBEq, PV.scal, PV.scalL, SV.scal, SV.scalL, Ob.scal, PV.isCell, pure', resO]
    exact finA_val (by simp [hk, retA, rvA, mkE_cons, mk_nil, mkO_cons, mkO_nil, loadA, SV.tr, SV.trL, nmF, rn_nil, rn_cons1, rn_cons2, plainOb, SV.refsL, SV.refs, Ob.refs, X, F, List.range_succ, mkO, setO_mk]) (by simp [SV.tr, SV.trL])
  · have h2 : ¬ (l.length : Int) > 65536 := by omega
    refine is.go hm hΓ k_vBigD o_vBigD (by simp [a_vBigD]) ?_
    simp only [a_vBigD, hlv, h2, List.zipIdx_cons, List.zipIdx_nil, ↓SP, SQ, Gam.add, stepM, callC, argC, lendO, nmBy, nmC, likeL, likeB, plainOb, offs, exL, X, F, trP, trO, stepD, stepW, newA, SV.tr, SV.trL, fz, allP, Ob.tr, loadA, cellsA, SV.cells, binA, binI, eqOut, isSl, isPt, natOf, callee, snap, SV.refsL, SV.refs, thaw, fzAll, loA, hiA, elemOf, partsA, buildA, putCells, ↓reduceIte, reduceCtorEq, okCell, Nat.reduceAdd, Nat.reduceEqDiff, Nat.reduceSub, Nat.reduceMul, Nat.reduceLeDiff, Nat.reduceLT, Nat.reduceBEq, PV.scal, PV.scalL, SV.scal, SV.scalL, Ob.scal, PV.isCell, pure', resO]
    exact finA_val (by simp [hk, retA, rvA, mkE_cons, mk_nil, mkO_cons, mkO_nil, loadA, SV.tr, SV.trL, nmF, rn_nil, rn_cons1, rn_cons2, plainOb, SV.refsL, SV.refs, Ob.refs, X, F, List.range_succ, mkO, setO_mk]) (by simp [SV.tr, SV.trL])
theorem key_ag (a b : Int) : keyA (some 2) (.ag [.p (.int .i64 a), .p (.int .i64 b)]) = some (.agg [.int .i64 a, .int .i64 b]) := by simp [keyA, elemOf, allP, PV.isInt]
theorem key_eq (a b c d : Int) : keyEq (.agg [.int .i64 a, .int .i64 b]) (.agg [.int .i64 c, .int .i64 d]) = some (a == c && b == d) := by
  simp only [keyEq, scalEqL, scalEq, if_true]
  cases (a == c) <;> cases (b == d) <;> rfl
def a_vLessD : AFn := ⟨2, 
  .seq (.reg [⟨some 2, none, .w (.box 2 (.t 0))⟩,
    ⟨some 3, none, .w (.box 2 (.t 1))⟩,
    ⟨some 4, none, .d (.mv (.c (.bool false)))⟩])
  (.seq (.dreg [] [([], ⟨some 7, none, .d (.iaA 2 1 (.t 2) (.c (.int .i64 1)))⟩),
    ([], ⟨some 8, none, .d (.load false 1 (.t 7))⟩),
    ([], ⟨some 9, none, .d (.iaA 2 1 (.t 3) (.c (.int .i64 1)))⟩),
    ([], ⟨some 10, none, .d (.load false 1 (.t 9))⟩),
    ([], ⟨some 5, none, .d (.mv (.t 8))⟩)] [⟨some 6, none, .d (.mv (.t 10))⟩])
  (.seq (.block 0 (.loop (.seq (.seq (.reg [⟨some 11, none, .d (.mv (.t 6))⟩,
      ⟨some 12, none, .d (.bin .arith .gtr (.t 11) (.c (.int .i64 0)))⟩])
    (.cond (.t 12) (.skip) (.exit 0)))
    (.block 1 (.dreg [] [([], ⟨some 13, none, .d (.mv (.t 6))⟩),
       ([], ⟨some 14, none, .d (.mv (.t 5))⟩),
       ([], ⟨some 15, none, .d (.mv (.t 6))⟩),
       ([], ⟨some 16, none, .d (.bin .arith .rem (.t 14) (.t 15))⟩),
       ([], ⟨some 5, none, .d (.mv (.t 13))⟩)] [⟨some 6, none, .d (.mv (.t 16))⟩])))))
  (.seq (.dreg [] [([], ⟨some 17, none, .d (.iaA 2 1 (.t 2) (.c (.int .i64 0)))⟩),
    ([], ⟨some 18, none, .d (.load false 1 (.t 17))⟩),
    ([], ⟨some 19, none, .d (.iaA 2 1 (.t 3) (.c (.int .i64 1)))⟩),
    ([], ⟨some 20, none, .d (.load false 1 (.t 19))⟩),
    ([], ⟨some 21, none, .d (.mv (.t 5))⟩),
    ([], ⟨some 22, none, .d (.bin .arith .quo (.t 20) (.t 21))⟩),
    ([], ⟨some 23, none, .d (.bin .arith .mul (.t 18) (.t 22))⟩),
    ([], ⟨some 24, none, .d (.iaA 2 1 (.t 3) (.c (.int .i64 0)))⟩),
    ([], ⟨some 25, none, .d (.load false 1 (.t 24))⟩),
    ([], ⟨some 26, none, .d (.iaA 2 1 (.t 2) (.c (.int .i64 1)))⟩),
    ([], ⟨some 27, none, .d (.load false 1 (.t 26))⟩),
    ([], ⟨some 28, none, .d (.mv (.t 5))⟩),
    ([], ⟨some 29, none, .d (.bin .arith .quo (.t 27) (.t 28))⟩),
    ([], ⟨some 30, none, .d (.bin .arith .mul (.t 25) (.t 29))⟩)] [⟨some 31, none, .d (.bin .arith .lss (.t 23) (.t 30))⟩,
    ⟨some 4, none, .d (.mv (.t 31))⟩])
  (.ret)))), [.tmp 4]⟩
def n_vLessD : Nat → Option Ann := fun _ => none
abbrev k_vLessD : List Nat := [0, 1, 2, 3, 4, 5, 6, 12]
abbrev o_vLessD : List Nat := [2, 3]
def c_vLessD : Con := pure' fun
  | [.p (.agg [.int .i64 a, .int .i64 b]), .p (.agg [.int .i64 c, .int .i64 d])] => if (0 ≤ a ∧ 1 ≤ b ∧ 0 ≤ c ∧ 1 ≤ d ∧ b ≤ 4000000000000000000 ∧ d ≤ 4000000000000000000 ∧ a.toNat * (d.toNat / Nat.gcd b.toNat d.toNat) ≤ 4000000000000000000 ∧ c.toNat * (b.toNat / Nat.gcd b.toNat d.toNat) ≤ 4000000000000000000) then some (.p (.bool (decide (a.toNat * (d.toNat / Nat.gcd b.toNat d.toNat) < c.toNat * (b.toNat / Nat.gcd b.toNat d.toNat)))), []) else none
  | _ => none
theorem s_vLessD {P : Program} (hm : P.follows .mixedOrders = true) {Γ : Gam} (hΓ : GS P Γ) {n : FuncId} (is : Is P n a_vLessD)  : Says P n c_vLessD := by
  refine Says.pure fun args r fs h => ?_
  split at h
  case h_2 => cases h
  rename_i a b c d
  split at h
  case isFalse => cases h
  rename_i hc
  simp only [ofI_ints, ofBo_bools, ofAs_asks, Option.some.injEq, Prod.mk.injEq] at h hc
  obtain ⟨rfl, rfl⟩ := h
  obtain ⟨h0, h1, h2, h3, h4, h5, h6, h7⟩ := hc
  obtain ⟨a, rfl⟩ : ∃ j : Nat, a = j := ⟨a.toNat, by omega⟩
  obtain ⟨b, rfl⟩ : ∃ j : Nat, b = j := ⟨b.toNat, by omega⟩
  obtain ⟨c, rfl⟩ : ∃ j : Nat, c = j := ⟨c.toNat, by omega⟩
  obtain ⟨d, rfl⟩ : ∃ j : Nat, d = j := ⟨d.toNat, by omega⟩
  simp only [Int.toNat_natCast] at h6 h7 ⊢
  refine is.go hm hΓ k_vLessD o_vLessD (by simp [a_vLessD]) ?_
  simp only [a_vLessD, Int.le_refl, Int.reduceToNat, Int.reduceLT, Int.reduceLE, List.zipIdx_cons, List.zipIdx_nil, ↓SP, SQ, Gam.add, stepM, callC, argC, lendO, nmBy, nmC, likeL, likeB, plainOb, offs, exL, X, F, trP, trO, stepD, stepW, newA, SV.tr, SV.trL, fz, allP, Ob.tr, loadA, cellsA, SV.cells, binA, binI, eqOut, isSl, isPt, natOf, callee, snap, SV.refsL, SV.refs, thaw, fzAll, loA, hiA, elemOf, partsA, buildA, putCells, ↓reduceIte, reduceCtorEq, okCell, Nat.reduceAdd, Nat.reduceEqDiff, Nat.reduceSub, Nat.reduceMul, Nat.reduceLeDiff, Nat.reduceLT, Nat.reduceBEq, PV.scal, PV.scalL, SV.scal, SV.scalL, Ob.scal, PV.isCell, pure', resO]
  refine loop_at (fun s : Nat × Nat × SV => mkEnv [(0, .p (.agg [.int .i64 (a : Int), .int .i64 (b : Int)])), (1, .p (.agg [.int .i64 (c : Int), .int .i64 (d : Int)])), (2, .bx 2 0), (3, .bx 3 0), (4, sb false), (5, si s.1), (6, si s.2.1), (12, s.2.2)]) (fun s => mkO [(2, some (.box [si a, si b])), (3, some (.box [si c, si d]))]) (fun s => Nat.gcd s.1 s.2.1 = Nat.gcd b d ∧ s.1 ≤ 4000000000000000000 ∧ s.2.1 ≤ 4000000000000000000) (fun s => s.2.1) (b, d, .junk) ⟨rfl, by simp only; omega, by simp only; omega⟩ rfl rfl ?_
  rintro ⟨x, y, c1⟩ ⟨hg, hx, hy⟩ R hR hN
  simp only at hg hx hy
  by_cases h : y = 0
  · have hb : ¬ (y : Int) > 0 := by omega
    have hgx : x = Nat.gcd b d := by rw [← hg, h, Nat.gcd_zero_right]
    have hgp : 0 < Nat.gcd b d := Nat.gcd_pos_of_pos_right b (by omega)
    have hz : ¬ (x : Int) = 0 := by omega
    have d1 := div_wrap (a := d) (g := x) (by omega)
    have d2 := div_wrap (a := b) (g := x) (by omega)
    rw [← hgx] at h6 h7
    have m1 := mul_wrap (a := a) (b := d / x) (by omega)
    have m2 := mul_wrap (a := c) (b := b / x) (by omega)
    have hcast : (((a * (d / x) : Nat) : Int) < ((c * (b / x) : Nat) : Int)) = (a * (d / x) < c * (b / x)) := propext Int.ofNat_lt
    simp only [hb, ↓SP, SQ, Gam.add, stepM, callC, argC, lendO, nmBy, nmC, likeL, likeB, plainOb, offs, exL, X, F, trP, trO, stepD, stepW, newA, SV.tr, SV.trL, fz, allP, Ob.tr, loadA, cellsA, SV.cells, binA, binI, eqOut, isSl, isPt, natOf, callee, snap, SV.refsL, SV.refs, thaw, fzAll, loA, hiA, elemOf, partsA, buildA, putCells, ↓reduceIte, reduceCtorEq, okCell, Nat.reduceAdd, Nat.reduceEqDiff, Nat.reduceSub, Nat.reduceMul, Nat.reduceLeDiff, Nat.reduceLT, Nat.reduceBEq, PV.scal, PV.scalL, SV.scal, SV.scalL, Ob.scal, PV.isCell, pure', resO]
    refine hR _ _ _ (by intro h; cases h) ?_
    simp only [hz, d1, d2, m1, m2, hcast, Int.le_refl, Int.reduceToNat, Int.reduceLT, Int.reduceLE, ↓SP, SQ, Gam.add, stepM, callC, argC, lendO, nmBy, nmC, likeL, likeB, plainOb, offs, exL, X, F, trP, trO, stepD, stepW, newA, SV.tr, SV.trL, fz, allP, Ob.tr, loadA, cellsA, SV.cells, binA, binI, eqOut, isSl, isPt, natOf, callee, snap, SV.refsL, SV.refs, thaw, fzAll, loA, hiA, elemOf, partsA, buildA, putCells, ↓reduceIte, reduceCtorEq, okCell, Nat.reduceAdd, Nat.reduceEqDiff, Nat.reduceSub, Nat.reduceMul, Nat.reduceLeDiff, Nat.reduceLT, Nat.reduceBEq, PV.scal, PV.scalL, SV.scal, SV.scalL, Ob.scal, PV.isCell, pure', resO]
    rw [hgx]
    exact finA_val (by simp [retA, rvA, mkE_cons, mk_nil, mkO_cons, mkO_nil, loadA, SV.tr, SV.trL, nmF, rn_nil, rn_cons1, rn_cons2, plainOb, SV.refsL, SV.refs, Ob.refs, X, F, List.range_succ, mkO, setO_mk]) (by simp [SV.tr, SV.trL])
  · have hb : (y : Int) > 0 := by omega
    have hz : ¬ (y : Int) = 0 := by omega
    have m5 := Int.ofNat_tmod x y
    have m6 : (x : Int).tmod (y : Int) = ((x % y : Nat) : Int) := m5.symm
    have hlt : x % y < y := Nat.mod_lt _ (by omega)
    simp only [hb, hz, m6, ↓SP, SQ, Gam.add, stepM, callC, argC, lendO, nmBy, nmC, likeL, likeB, plainOb, offs, exL, X, F, trP, trO, stepD, stepW, newA, SV.tr, SV.trL, fz, allP, Ob.tr, loadA, cellsA, SV.cells, binA, binI, eqOut, isSl, isPt, natOf, callee, snap, SV.refsL, SV.refs, thaw, fzAll, loA, hiA, elemOf, partsA, buildA, putCells, ↓reduceIte, reduceCtorEq, okCell, Nat.reduceAdd, Nat.reduceEqDiff, Nat.reduceSub, Nat.reduceMul, Nat.reduceLeDiff, Nat.reduceLT, Nat.reduceBEq, PV.scal, PV.scalL, SV.scal, SV.scalL, Ob.scal, PV.isCell, pure', resO]
    exact hN (y, x % y, _) _ _ ⟨gcd_step hg, hy, by simp only; omega⟩ (by simp only; omega) rfl rfl
def a_l1LeastD : AFn := ⟨2, 
  .seq (.reg [⟨some 4, none, .d (.mv (.c (.int .i64 0)))⟩])
  (.seq (.seq (.reg [⟨some 5, none, .d (.mv (.t 0))⟩,
    ⟨some 6, none, .d (.mv (.t 1))⟩,
    ⟨some 7, none, .d (.bin .arith .lss (.t 5) (.t 6))⟩])
  (.cond (.t 7) (.seq (.reg [⟨some 8, none, .d (.mv (.t 0))⟩,
     ⟨some 4, none, .d (.mv (.t 8))⟩])
   (.ret)) (.skip)))
  (.seq (.reg [⟨some 9, none, .d (.mv (.t 1))⟩,
    ⟨some 4, none, .d (.mv (.t 9))⟩])
  (.ret))), [.tmp 4]⟩
def n_l1LeastD : Nat → Option Ann := fun _ => none
abbrev k_l1LeastD : List Nat := [0, 1, 4, 7]
abbrev o_l1LeastD : List Nat := []
def c_l1LeastD : Con := pure' fun
  | [.p (.int .i64 a), .p (.int .i64 b)] => if (True) then some (.p (.int .i64 (if a < b then a else b)), []) else none
  | _ => none
theorem s_l1LeastD {P : Program} (hm : P.follows .mixedOrders = true) {Γ : Gam} (hΓ : GS P Γ) {n : FuncId} (is : Is P n a_l1LeastD)  : Says P n c_l1LeastD := by
  refine Says.pure fun args r fs h => ?_
  split at h
  case h_2 => cases h
  rename_i a b
  split at h
  case isFalse => cases h
  rename_i hc
  simp only [ofI_ints, ofBo_bools, ofAs_asks, Option.some.injEq, Prod.mk.injEq] at h hc
  obtain ⟨rfl, rfl⟩ := h
  by_cases h : a < b
  · refine is.go hm hΓ k_l1LeastD o_l1LeastD (by simp [a_l1LeastD]) ?_
    simp only [a_l1LeastD, h, List.zipIdx_cons, List.zipIdx_nil, ↓SP, SQ, Gam.add, stepM, callC, argC, lendO, nmBy, nmC, likeL, likeB, plainOb, offs, exL, X, F, trP, trO, stepD, stepW, newA, SV.tr, SV.trL, fz, allP, Ob.tr, loadA, cellsA, SV.cells, binA, binI, eqOut, isSl, isPt, natOf, callee, snap, SV.refsL, SV.refs, thaw, fzAll, loA, hiA, elemOf, partsA, buildA, putCells, ↓reduceIte, reduceCtorEq, okCell, Nat.reduceAdd, Nat.reduceEqDiff, Nat.reduceSub, Nat.reduceMul, Nat.reduceLeDiff, Nat.reduceLT, Nat.reduceBEq, PV.scal, PV.scalL, SV.scal, SV.scalL, Ob.scal, PV.isCell, pure', resO]
    exact finA_val (by simp [retA, rvA, mkE_cons, mk_nil, mkO_cons, mkO_nil, loadA, SV.tr, SV.trL, nmF, rn_nil, rn_cons1, rn_cons2, plainOb, SV.refsL, SV.refs, Ob.refs, X, F, List.range_succ, mkO, setO_mk]) (by simp [SV.tr, SV.trL])
  · refine is.go hm hΓ k_l1LeastD o_l1LeastD (by simp [a_l1LeastD]) ?_
    simp only [a_l1LeastD, h, List.zipIdx_cons, List.zipIdx_nil, ↓SP, SQ, Gam.add, stepM, callC, argC, lendO, nmBy, nmC, likeL, likeB, plainOb, offs, exL, X, F, trP, trO, stepD, stepW, newA, SV.tr, SV.trL, fz, allP, Ob.tr, loadA, cellsA, SV.cells, binA, binI, eqOut, isSl, isPt, natOf, callee, snap, SV.refsL, SV.refs, thaw, fzAll, loA, hiA, elemOf, partsA, buildA, putCells, ↓reduceIte, reduceCtorEq, okCell, Nat.reduceAdd, Nat.reduceEqDiff, Nat.reduceSub, Nat.reduceMul, Nat.reduceLeDiff, Nat.reduceLT, Nat.reduceBEq, PV.scal, PV.scalL, SV.scal, SV.scalL, Ob.scal, PV.isCell, pure', resO]
    exact finA_val (by simp [retA, rvA, mkE_cons, mk_nil, mkO_cons, mkO_nil, loadA, SV.tr, SV.trL, nmF, rn_nil, rn_cons1, rn_cons2, plainOb, SV.refsL, SV.refs, Ob.refs, X, F, List.range_succ, mkO, setO_mk]) (by simp [SV.tr, SV.trL])
def a_GapOf (f_IsScheme : FuncId) (f_gap : FuncId) : AFn := ⟨2, 
  .seq (.reg [⟨some 4, none, .d (.mv (.c (.int .i64 0)))⟩,
    ⟨some 5, none, .d (.mv (.c (.bool false)))⟩])
  (.seq (.seq (.reg [⟨some 6, none, .d (.mv (.t 0))⟩,
    ⟨some 7, none, .d (.mv (.t 1))⟩,
    ⟨some 8, none, .d (.call (.f f_IsScheme) [(.t 6), (.t 7)])⟩,
    ⟨some 9, none, .d (.not (.t 8))⟩])
  (.cond (.t 9) (.seq (.reg [⟨some 4, none, .d (.mv (.c (.int .i64 0)))⟩,
     ⟨some 5, none, .d (.mv (.c (.bool false)))⟩])
   (.ret)) (.skip)))
  (.seq (.reg [⟨some 10, none, .d (.mv (.t 0))⟩,
    ⟨some 11, none, .d (.mv (.t 1))⟩,
    ⟨some 12, none, .d (.call (.f f_gap) [(.t 10), (.t 11)])⟩,
    ⟨some 4, none, .d (.mv (.t 12))⟩,
    ⟨some 5, none, .d (.mv (.c (.bool true)))⟩])
  (.ret))), [.tmp 4, .tmp 5]⟩
def n_GapOf : Nat → Option Ann := fun _ => none
abbrev k_GapOf : List Nat := [0, 1, 4, 5, 9]
abbrev o_GapOf : List Nat := []
def c_GapOf : Con := pure' fun
  | [.p (.int .i64 n), .p (.sl 1 l_)] => if isI l_ = true ∧ ((ofI l_).length ≤ 1100000) then some (.tp [.p (.int .i64 (if isSm n (ofI l_) = true then gO (wdL (ofI l_) n.toNat) n.toNat else 0)), .p (.bool (isSm n (ofI l_)))], []) else none
  | _ => none
theorem s_GapOf {P : Program} (hm : P.follows .mixedOrders = true) {Γ : Gam} (hΓ : GS P Γ) {n : FuncId} {f_IsScheme : FuncId} {f_gap : FuncId} (is : Is P n (a_GapOf f_IsScheme f_gap)) (h_IsScheme : Γ f_IsScheme = c_IsScheme) (h_gap : Γ f_gap = c_gap)  : Says P n c_GapOf := by
  refine Says.pure fun args r fs h => ?_
  split at h
  case h_2 => cases h
  rename_i n l_
  split at h
  case isFalse => cases h
  rename_i hc
  obtain ⟨hl_, hc⟩ := hc
  obtain ⟨l, rfl⟩ := isI_out hl_
  simp only [ofI_ints, ofBo_bools, ofAs_asks, Option.some.injEq, Prod.mk.injEq] at h hc
  obtain ⟨rfl, rfl⟩ := h
  cases h : isSm n l with
  | false =>
    refine is.go hm hΓ k_GapOf o_GapOf (by simp [a_GapOf]) ?_
    simp only [a_GapOf, h_IsScheme, c_IsScheme, h_gap, c_gap, hc, h, Bool.false_eq_true, List.zipIdx_cons, List.zipIdx_nil, ↓SP, SQ, Gam.add, stepM, callC, argC, lendO, nmBy, nmC, likeL, likeB, plainOb, offs, exL, X, F, trP, trO, stepD, stepW, newA, SV.tr, SV.trL, fz, allP, Ob.tr, loadA, cellsA, SV.cells, binA, binI, eqOut, isSl, isPt, natOf, callee, snap, SV.refsL, SV.refs, thaw, fzAll, loA, hiA, elemOf, partsA, buildA, putCells, ↓reduceIte, reduceCtorEq, okCell, Nat.reduceAdd, Nat.reduceEqDiff, Nat.reduceSub, Nat.reduceMul, Nat.reduceLeDiff, Nat.reduceLT, Nat.reduceBEq, PV.scal, PV.scalL, SV.scal, SV.scalL, Ob.scal, PV.isCell, pure', resO]
    exact finA_val (by simp [retA, rvA, mkE_cons, mk_nil, mkO_cons, mkO_nil, loadA, SV.tr, SV.trL, nmF, rn_nil, rn_cons1, rn_cons2, plainOb, SV.refsL, SV.refs, Ob.refs, X, F, List.range_succ, mkO, setO_mk]) (by simp [SV.tr, SV.trL])
  | true =>
    have h2 := h
    simp only [isSm, Bool.and_eq_true, decide_eq_true_eq] at h2
    have g1 : l.length ≤ 14 := by omega
    have g2 : 0 ≤ n := by omega
    have g3 : n ≤ 12 := h2.1.1.2
    refine is.go hm hΓ k_GapOf o_GapOf (by simp [a_GapOf]) ?_
    simp only [a_GapOf, h_IsScheme, c_IsScheme, h_gap, c_gap, hc, h, g1, g2, g3, List.zipIdx_cons, List.zipIdx_nil, ↓SP, SQ, Gam.add, stepM, callC, argC, lendO, nmBy, nmC, likeL, likeB, plainOb, offs, exL, X, F, trP, trO, stepD, stepW, newA, SV.tr, SV.trL, fz, allP, Ob.tr, loadA, cellsA, SV.cells, binA, binI, eqOut, isSl, isPt, natOf, callee, snap, SV.refsL, SV.refs, thaw, fzAll, loA, hiA, elemOf, partsA, buildA, putCells, ↓reduceIte, reduceCtorEq, okCell, Nat.reduceAdd, Nat.reduceEqDiff, Nat.reduceSub, Nat.reduceMul, Nat.reduceLeDiff, Nat.reduceLT, Nat.reduceBEq, PV.scal, PV.scalL, SV.scal, SV.scalL, Ob.scal, PV.isCell, pure', resO]
    exact finA_val (by simp [retA, rvA, mkE_cons, mk_nil, mkO_cons, mkO_nil, loadA, SV.tr, SV.trL, nmF, rn_nil, rn_cons1, rn_cons2, plainOb, SV.refsL, SV.refs, Ob.refs, X, F, List.range_succ, mkO, setO_mk]) (by simp [SV.tr, SV.trL])
/-- The numbers below a number. -/
def ups (k : Nat) : List Int := (List.range k).map fun j : Nat => (j : Int)
theorem ups_one (k : Nat) : ups k ++ [(k : Int)] = ups (k + 1) := by simp [ups, List.range_succ]
theorem ups_len (k : Nat) : (ups k).length = k := by simp [ups]
def isN (n : Int) : Bool := decide (1 ≤ n) && decide (n ≤ 12)
def bqN (n : Int) : Nat := if n ≤ 1 then 0 else if n ≤ 2 then 1 else if n ≤ 4 then 2 else if n ≤ 8 then 3 else 4
theorem bqN_lt {n : Int} (h1 : 1 ≤ n) (h2 : n ≤ 12) : ∀ q, q ≤ 4 → (((2 ^ q : Nat) : Int) < n ↔ q < bqN n) := fun q hq => by
  have : q = 0 ∨ q = 1 ∨ q = 2 ∨ q = 3 ∨ q = 4 := by omega
  unfold bqN
  rcases this with h | h | h | h | h <;> subst h <;> (simp only [Nat.reducePow]; split; omega; split; omega; split; omega; split <;> omega)
theorem bqN_le (n : Int) : bqN n ≤ 4 := by
  unfold bqN; split; omega; split; omega; split; omega; split <;> omega
def bsL (n : Int) : List Int := if isN n = true then ofL5 (ups n.toNat) (bqN n) else []
def a_BitScheme (f_l2Numbers : FuncId) (f_l5Of : FuncId) : AFn := ⟨1, 
  .seq (.reg [⟨some 2, none, .d (.mv (.c (.nilsl)))⟩,
    ⟨some 3, none, .d (.mv (.c (.bool false)))⟩])
  (.seq (.seq (.reg [⟨some 7, none, .d (.mv (.t 0))⟩,
    ⟨some 8, none, .d (.call (.f f_l2Numbers) [(.t 7)])⟩,
    ⟨some 9, none, .d (.not (.t 8))⟩])
  (.cond (.t 9) (.seq (.reg [⟨some 10, none, .w (.bslice 1 [] [])⟩,
     ⟨some 2, none, .d (.mv (.t 10))⟩,
     ⟨some 3, none, .d (.mv (.c (.bool false)))⟩])
   (.ret)) (.skip)))
  (.seq (.reg [⟨some 11, none, .w (.bslice 1 [] [])⟩,
    ⟨some 4, none, .d (.mv (.t 11))⟩,
    ⟨some 5, none, .d (.mv (.c (.int .i64 0)))⟩])
  (.seq (.seq (.reg [⟨some 6, none, .d (.mv (.c (.int .i64 0)))⟩])
  (.block 0 (.loop (.seq (.seq (.reg [⟨some 12, none, .d (.mv (.t 6))⟩,
      ⟨some 13, none, .d (.mv (.t 0))⟩,
      ⟨some 14, none, .d (.bin .arith .lss (.t 12) (.t 13))⟩])
    (.cond (.t 14) (.skip) (.exit 0)))
    (.seq (.block 1 (.reg [⟨some 17, none, .d (.mv (.t 4))⟩,
       ⟨some 18, none, .d (.mv (.t 6))⟩,
       ⟨some 19, none, .w (.bslice 1 [.int .i64 0] [(0, (.t 18))])⟩,
       ⟨some 20, none, .w (.append 1 (.t 17) (.t 19))⟩,
       ⟨some 4, none, .d (.mv (.t 20))⟩]))
    (.reg [⟨some 15, none, .d (.mv (.t 6))⟩,
      ⟨some 16, none, .d (.bin .arith .add (.t 15) (.c (.int .i64 1)))⟩,
      ⟨some 6, none, .d (.mv (.t 16))⟩]))))))
  (.seq (.block 2 (.loop (.seq (.seq (.reg [⟨some 21, none, .d (.mv (.t 5))⟩,
      ⟨some 22, none, .d (.bin .arith .shl (.c (.int .i64 1)) (.t 21))⟩,
      ⟨some 23, none, .d (.mv (.t 0))⟩,
      ⟨some 24, none, .d (.bin .arith .lss (.t 22) (.t 23))⟩])
    (.cond (.t 24) (.skip) (.exit 2)))
    (.block 3 (.reg [⟨some 25, none, .d (.mv (.t 5))⟩,
       ⟨some 26, none, .d (.bin .arith .add (.t 25) (.c (.int .i64 1)))⟩,
       ⟨some 5, none, .d (.mv (.t 26))⟩])))))
  (.seq (.reg [⟨some 27, none, .d (.mv (.t 4))⟩,
    ⟨some 28, none, .d (.mv (.t 5))⟩,
    ⟨some 29, none, .w (.callL (.f f_l5Of) [(.t 27), (.t 28)] [] 1 false)⟩,
    ⟨some 2, none, .d (.mv (.t 29))⟩,
    ⟨some 3, none, .d (.mv (.c (.bool true)))⟩])
  (.ret)))))), [.tmp 2, .tmp 3]⟩
def n_BitScheme : Nat → Option Ann := fun d => if d = 29 then some ⟨[], 1, false⟩ else none
abbrev k_BitScheme : List Nat := [0, 2, 3, 4, 5, 6, 9, 14, 24]
abbrev o_BitScheme : List Nat := [10, 11, 19, 20, 29]
def c_BitScheme : Con := pure' fun
  | [.p (.int .i64 n)] => if (True) then some (.tp [.ar 2000000, .p (.bool (isN n))], [.arr 1 (ints (bsL n))]) else none
  | _ => none
theorem s_BitScheme {P : Program} (hm : P.follows .mixedOrders = true) {Γ : Gam} (hΓ : GS P Γ) {n : FuncId} {f_l2Numbers : FuncId} {f_l5Of : FuncId} (is : Is P n (a_BitScheme f_l2Numbers f_l5Of)) (h_l2Numbers : Γ f_l2Numbers = c_isCount) (h_l5Of : Γ f_l5Of = c_l5Of)  : Says P n c_BitScheme := by
  refine Says.pure fun args r fs h => ?_
  split at h
  case h_2 => cases h
  rename_i n
  split at h
  case isFalse => cases h
  rename_i hc
  simp only [ofI_ints, ofBo_bools, ofAs_asks, Option.some.injEq, Prod.mk.injEq] at h hc
  obtain ⟨rfl, rfl⟩ := h
  cases h : isN n with
  | false =>
    have h' : (decide (1 ≤ n) && decide (n ≤ 12)) = false := h
    have hb : bsL n = [] := by simp only [bsL, h, Bool.false_eq_true, if_false]
    refine is.go hm hΓ k_BitScheme o_BitScheme (by simp [a_BitScheme]) ?_
    simp only [a_BitScheme, h_l2Numbers, c_isCount, h_l5Of, c_l5Of, h', Bool.false_eq_true, List.zipIdx_cons, List.zipIdx_nil, ↓SP, SQ, Gam.add, stepM, callC, argC, lendO, nmBy, nmC, likeL, likeB, plainOb, offs, exL, X, F, trP, trO, stepD, stepW, newA, SV.tr, SV.trL, fz, allP, Ob.tr, loadA, cellsA, SV.cells, binA, binI, eqOut, isSl, isPt, natOf, callee, snap, SV.refsL, SV.refs, thaw, fzAll, loA, hiA, elemOf, partsA, buildA, putCells, ↓reduceIte, reduceCtorEq, okCell, Nat.reduceAdd, Nat.reduceEqDiff, Nat.reduceSub, Nat.reduceMul, Nat.reduceLeDiff, Nat.reduceLT, Nat.reduceBEq, PV.scal, PV.scalL, SV.scal, SV.scalL, Ob.scal, PV.isCell, pure', resO]
    refine finA_gen [10] trivial (by simp [retA, rvA, mkE_cons, mk_nil, mkO_cons, mkO_nil, loadA, SV.tr, SV.trL, nmF, rn_nil, rn_cons1, rn_cons2, plainOb, SV.refsL, SV.refs, Ob.refs, X, F, List.range_succ, mkO, setO_mk]; rfl) ?_ ?_ ?_ ?_ ?_ ?_ ?_ <;> simp [hb, ints, retA, rvA, mkE_cons, mk_nil, mkO_cons, mkO_nil, loadA, SV.tr, SV.trL, nmF, rn_nil, rn_cons1, rn_cons2, plainOb, SV.refsL, SV.refs, Ob.refs, X, F, List.range_succ, mkO, setO_mk]
  | true =>
    have h' : (decide (1 ≤ n) && decide (n ≤ 12)) = true := h
    have hb : bsL n = ofL5 (ups n.toNat) (bqN n) := by simp only [bsL, h, if_true]
    have hn : 1 ≤ n ∧ n ≤ 12 := by simpa using h'
    obtain ⟨n, rfl⟩ : ∃ j : Nat, n = j := ⟨n.toNat, by omega⟩
    rw [Int.toNat_natCast] at hb
    have hq4 := bqN_le n
    rw [hb]
    have hu0 : ([] : List PV) = ints (ups 0) := rfl
    refine is.go hm hΓ k_BitScheme o_BitScheme (by simp [a_BitScheme]) ?_
    simp only [a_BitScheme, h_l2Numbers, c_isCount, h', List.zipIdx_cons, List.zipIdx_nil, ↓SP, SQ, Gam.add, stepM, callC, argC, lendO, nmBy, nmC, likeL, likeB, plainOb, offs, exL, X, F, trP, trO, stepD, stepW, newA, SV.tr, SV.trL, fz, allP, Ob.tr, loadA, cellsA, SV.cells, binA, binI, eqOut, isSl, isPt, natOf, callee, snap, SV.refsL, SV.refs, thaw, fzAll, loA, hiA, elemOf, partsA, buildA, putCells, ↓reduceIte, reduceCtorEq, okCell, Nat.reduceAdd, Nat.reduceEqDiff, Nat.reduceSub, Nat.reduceMul, Nat.reduceLeDiff, Nat.reduceLT, Nat.reduceBEq, PV.scal, PV.scalL, SV.scal, SV.scalL, Ob.scal, PV.isCell, pure', resO]
    refine loop_at (fun s : Nat × SV × Option Ob => mkEnv [(0, si n), (2, .p .nilsl), (3, sb false), (4, .ar 11), (5, si 0), (6, si s.1), (9, sb false), (14, s.2.1), (24, .junk)]) (fun s => mkO [(10, none), (11, some (.arr 1 (ints (ups s.1)))), (19, s.2.2), (20, none), (29, none)]) (fun s => s.1 ≤ n) (fun s => n - s.1) (0, .junk, none) (by simp) rfl rfl ?_
    rintro ⟨i, c1, o1⟩ hi R hR hN
    simp only at hi
    by_cases hlt : i < n
    · have h1 : (i : Int) < n := by omega
      have hw := wrap_one (i := i) (by omega)
      have hul := ups_len i
      have hr : i + 1 ≤ roomA := Nat.le_trans (by omega) (by decide : 13 ≤ roomA)
      have huo := ups_one i
      simp only [h1, hw, hul, hr, huo, ints_len, ints_app1, ints_cell, ↓SP, SQ, Gam.add, stepM, callC, argC, lendO, nmBy, nmC, likeL, likeB, plainOb, offs, exL, X, F, trP, trO, stepD, stepW, newA, SV.tr, SV.trL, fz, allP, Ob.tr, loadA, cellsA, SV.cells, binA, binI, eqOut, isSl, isPt, natOf, callee, snap, SV.refsL, SV.refs, thaw, fzAll, loA, hiA, elemOf, partsA, buildA, putCells, ↓reduceIte, reduceCtorEq, okCell, Nat.reduceAdd, Nat.reduceEqDiff, Nat.reduceSub, Nat.reduceMul, Nat.reduceLeDiff, Nat.reduceLT, Nat.reduceBEq, PV.scal, PV.scalL, SV.scal, SV.scalL, Ob.scal, PV.isCell, pure', resO]
      exact hN (i + 1, _, _) _ _ (by simp only; omega) (by simp only; omega) rfl rfl
    · have he : i = n := by omega
      subst he
      have h1 : ¬ (i : Int) < i := by omega
      simp only [h1, ↓SP, SQ, Gam.add, stepM, callC, argC, lendO, nmBy, nmC, likeL, likeB, plainOb, offs, exL, X, F, trP, trO, stepD, stepW, newA, SV.tr, SV.trL, fz, allP, Ob.tr, loadA, cellsA, SV.cells, binA, binI, eqOut, isSl, isPt, natOf, callee, snap, SV.refsL, SV.refs, thaw, fzAll, loA, hiA, elemOf, partsA, buildA, putCells, ↓reduceIte, reduceCtorEq, okCell, Nat.reduceAdd, Nat.reduceEqDiff, Nat.reduceSub, Nat.reduceMul, Nat.reduceLeDiff, Nat.reduceLT, Nat.reduceBEq, PV.scal, PV.scalL, SV.scal, SV.scalL, Ob.scal, PV.isCell, pure', resO]
      refine hR _ _ _ (by intro h; cases h) ?_
      simp only [↓SP, SQ, Gam.add, stepM, callC, argC, lendO, nmBy, nmC, likeL, likeB, plainOb, offs, exL, X, F, trP, trO, stepD, stepW, newA, SV.tr, SV.trL, fz, allP, Ob.tr, loadA, cellsA, SV.cells, binA, binI, eqOut, isSl, isPt, natOf, callee, snap, SV.refsL, SV.refs, thaw, fzAll, loA, hiA, elemOf, partsA, buildA, putCells, ↓reduceIte, reduceCtorEq, okCell, Nat.reduceAdd, Nat.reduceEqDiff, Nat.reduceSub, Nat.reduceMul, Nat.reduceLeDiff, Nat.reduceLT, Nat.reduceBEq, PV.scal, PV.scalL, SV.scal, SV.scalL, Ob.scal, PV.isCell, pure', resO]
      refine loop_at (fun s : Nat × SV => mkEnv [(0, si i), (2, .p .nilsl), (3, sb false), (4, .ar 11), (5, si s.1), (6, si i), (9, sb false), (14, sb false), (24, s.2)]) (fun s => mkO [(10, none), (11, some (.arr 1 (ints (ups i)))), (19, o1), (20, none), (29, none)]) (fun s => s.1 ≤ bqN i) (fun s => bqN i - s.1) (0, .junk) (by simp) rfl rfl ?_
      rintro ⟨q, c2⟩ hq R' hR' hN'
      simp only at hq
      have hsh := (shl_nat (i := q) (by omega)).1
      have hq0 : ¬ (q : Int) < 0 := by omega
      have hlt2 := bqN_lt hn.1 hn.2 q (by omega)
      have hwq := wrap_one (i := q) (by omega)
      by_cases hl : q < bqN i
      · have h2 : ((2 ^ q : Nat) : Int) < i := hlt2.2 hl
        simp only [hsh, hq0, h2, hwq, ↓SP, SQ, Gam.add, stepM, callC, argC, lendO, nmBy, nmC, likeL, likeB, plainOb, offs, exL, X, F, trP, trO, stepD, stepW, newA, SV.tr, SV.trL, fz, allP, Ob.tr, loadA, cellsA, SV.cells, binA, binI, eqOut, isSl, isPt, natOf, callee, snap, SV.refsL, SV.refs, thaw, fzAll, loA, hiA, elemOf, partsA, buildA, putCells, ↓reduceIte, reduceCtorEq, okCell, Nat.reduceAdd, Nat.reduceEqDiff, Nat.reduceSub, Nat.reduceMul, Nat.reduceLeDiff, Nat.reduceLT, Nat.reduceBEq, PV.scal, PV.scalL, SV.scal, SV.scalL, Ob.scal, PV.isCell, pure', resO]
        exact hN' (q + 1, _) _ _ (by simp only; omega) (by simp only; omega) rfl rfl
      · have h2 : ¬ ((2 ^ q : Nat) : Int) < i := fun x => hl (hlt2.1 x)
        have he2 : q = bqN i := by omega
        subst he2
        have hul := ups_len i
        have q1 : i ≤ 4096 := by omega
        have q2 : ((bqN i : Nat) : Int) ≤ 14 := by omega
        simp only [hsh, hq0, h2, ↓SP, SQ, Gam.add, stepM, callC, argC, lendO, nmBy, nmC, likeL, likeB, plainOb, offs, exL, X, F, trP, trO, stepD, stepW, newA, SV.tr, SV.trL, fz, allP, Ob.tr, loadA, cellsA, SV.cells, binA, binI, eqOut, isSl, isPt, natOf, callee, snap, SV.refsL, SV.refs, thaw, fzAll, loA, hiA, elemOf, partsA, buildA, putCells, ↓reduceIte, reduceCtorEq, okCell, Nat.reduceAdd, Nat.reduceEqDiff, Nat.reduceSub, Nat.reduceMul, Nat.reduceLeDiff, Nat.reduceLT, Nat.reduceBEq, PV.scal, PV.scalL, SV.scal, SV.scalL, Ob.scal, PV.isCell, pure', resO]
        refine hR' _ _ _ (by intro h; cases h) ?_
        simp only [hul, q1, q2, Int.natCast_nonneg, h_l5Of, c_l5Of, isI_ints, ofI_ints, ints_len, Int.toNat_natCast, ↓SP, SQ, Gam.add, stepM, callC, argC, lendO, nmBy, nmC, likeL, likeB, plainOb, offs, exL, X, F, trP, trO, stepD, stepW, newA, SV.tr, SV.trL, fz, allP, Ob.tr, loadA, cellsA, SV.cells, binA, binI, eqOut, isSl, isPt, natOf, callee, snap, SV.refsL, SV.refs, thaw, fzAll, loA, hiA, elemOf, partsA, buildA, putCells, ↓reduceIte, reduceCtorEq, okCell, Nat.reduceAdd, Nat.reduceEqDiff, Nat.reduceSub, Nat.reduceMul, Nat.reduceLeDiff, Nat.reduceLT, Nat.reduceBEq, PV.scal, PV.scalL, SV.scal, SV.scalL, Ob.scal, PV.isCell, pure', resO]
        refine finA_gen [29] trivial (by simp [retA, rvA, mkE_cons, mk_nil, mkO_cons, mkO_nil, loadA, SV.tr, SV.trL, nmF, rn_nil, rn_cons1, rn_cons2, plainOb, SV.refsL, SV.refs, Ob.refs, X, F, List.range_succ, mkO, setO_mk]; rfl) ?_ ?_ ?_ ?_ ?_ ?_ ?_ <;> simp [retA, rvA, mkE_cons, mk_nil, mkO_cons, mkO_nil, loadA, SV.tr, SV.trL, nmF, rn_nil, rn_cons1, rn_cons2, plainOb, SV.refsL, SV.refs, Ob.refs, X, F, List.range_succ, mkO, setO_mk]
/-- The first number of questions that does, below k, and its scheme. -/
def gsF (n m : Int) : Nat → Option (List Int)
  | 0 => none
  | q + 1 => match gsF n m q with
    | some x => some x
    | none => if (((grW n m (2 ^ q - 1)).length : Nat) : Int) = n then some (ofL5 (grW n m (2 ^ q - 1)) q) else none
theorem gsF_st {n m : Int} {q : Nat} {x : List Int} (h : gsF n m q = some x) : ∀ j, gsF n m (q + j) = some x
  | 0 => h
  | j + 1 => by
    have := gsF_st h j
    rw [← Nat.add_assoc, gsF, this]
def isG (n m : Int) : Bool := isN n && (decide (0 ≤ m) && decide (m ≤ 2))
def gsR (n m : Int) : Option (List Int) := if isG n m = true then gsF n m 15 else none
def gsO : Option (List Int) → SV × List Ob
  | some x => (.tp [.ar 2000000, .p (.bool true)], [.arr 1 (ints x)])
  | none => (.tp [.ar 2000000, .p (.bool false)], [.arr 1 []])
def a_GreedyScheme (f_l2Numbers : FuncId) (f_l1In : FuncId) (f_l5Greedy : FuncId) (f_l5Of : FuncId) : AFn := ⟨2, 
  .seq (.reg [⟨some 4, none, .d (.mv (.c (.nilsl)))⟩,
    ⟨some 5, none, .d (.mv (.c (.bool false)))⟩])
  (.seq (.seq (.reg [⟨some 8, none, .d (.mv (.t 0))⟩,
    ⟨some 9, none, .d (.call (.f f_l2Numbers) [(.t 8)])⟩,
    ⟨some 10, none, .d (.not (.t 9))⟩,
    ⟨some 11, none, .d (.mv (.t 10))⟩,
    ⟨some 12, some (11, false), .d (.mv (.t 1))⟩,
    ⟨some 13, some (11, false), .d (.call (.f f_l1In) [(.t 12), (.c (.int .i64 0)), (.c (.int .i64 2))])⟩,
    ⟨some 14, some (11, false), .d (.not (.t 13))⟩,
    ⟨some 15, none, .d (.pick (.t 11) (.c (.bool true)) (.t 14))⟩])
  (.cond (.t 15) (.seq (.reg [⟨some 16, none, .w (.bslice 1 [] [])⟩,
     ⟨some 4, none, .d (.mv (.t 16))⟩,
     ⟨some 5, none, .d (.mv (.c (.bool false)))⟩])
   (.ret)) (.skip)))
  (.seq (.seq (.reg [⟨some 6, none, .d (.mv (.c (.int .i64 0)))⟩])
  (.block 0 (.loop (.seq (.seq (.reg [⟨some 17, none, .d (.mv (.t 6))⟩,
      ⟨some 18, none, .d (.bin .arith .leq (.t 17) (.c (.int .i64 14)))⟩])
    (.cond (.t 18) (.skip) (.exit 0)))
    (.seq (.block 1 (.seq (.reg [⟨some 21, none, .d (.mv (.t 0))⟩,
       ⟨some 22, none, .d (.mv (.t 1))⟩,
       ⟨some 23, none, .d (.mv (.t 6))⟩,
       ⟨some 24, none, .d (.call (.f f_l5Greedy) [(.t 21), (.t 22), (.t 23)])⟩,
       ⟨some 7, none, .d (.mv (.t 24))⟩])
     (.seq (.reg [⟨some 25, none, .d (.mv (.t 7))⟩,
       ⟨some 26, none, .d (.len (.t 25))⟩,
       ⟨some 27, none, .d (.mv (.t 0))⟩,
       ⟨some 28, none, .d (.bin .arith .eql (.t 26) (.t 27))⟩])
     (.cond (.t 28) (.seq (.reg [⟨some 29, none, .d (.mv (.t 7))⟩,
        ⟨some 30, none, .d (.mv (.t 6))⟩,
        ⟨some 31, none, .w (.callL (.f f_l5Of) [(.t 29), (.t 30)] [] 1 false)⟩,
        ⟨some 4, none, .d (.mv (.t 31))⟩,
        ⟨some 5, none, .d (.mv (.c (.bool true)))⟩])
      (.ret)) (.skip)))))
    (.reg [⟨some 19, none, .d (.mv (.t 6))⟩,
      ⟨some 20, none, .d (.bin .arith .add (.t 19) (.c (.int .i64 1)))⟩,
      ⟨some 6, none, .d (.mv (.t 20))⟩]))))))
  (.seq (.reg [⟨some 32, none, .w (.bslice 1 [] [])⟩,
    ⟨some 4, none, .d (.mv (.t 32))⟩,
    ⟨some 5, none, .d (.mv (.c (.bool false)))⟩])
  (.ret)))), [.tmp 4, .tmp 5]⟩
def n_GreedyScheme : Nat → Option Ann := fun d => if d = 31 then some ⟨[], 1, false⟩ else none
abbrev k_GreedyScheme : List Nat := [0, 1, 4, 5, 6, 7, 15, 18, 28]
abbrev o_GreedyScheme : List Nat := [16, 31, 32]
def c_GreedyScheme : Con := pure' fun
  | [.p (.int .i64 n), .p (.int .i64 m)] => some (gsO (gsR n m))
  | _ => none
theorem s_GreedyScheme {P : Program} (hm : P.follows .mixedOrders = true) {Γ : Gam} (hΓ : GS P Γ) {n : FuncId} {f_l2Numbers : FuncId} {f_l1In : FuncId} {f_l5Greedy : FuncId} {f_l5Of : FuncId} (is : Is P n (a_GreedyScheme f_l2Numbers f_l1In f_l5Greedy f_l5Of)) (h_l2Numbers : Γ f_l2Numbers = c_isCount) (h_l1In : Γ f_l1In = c_in) (h_l5Greedy : Γ f_l5Greedy = c_l5Greedy) (h_l5Of : Γ f_l5Of = c_l5Of)  : Says P n c_GreedyScheme := by
  refine Says.pure fun args r fs h => ?_
  split at h
  case h_2 => cases h
  rename_i n m
  simp only [Option.some.injEq] at h
  cases h1 : isN n with
  | false =>
    have h1' : (decide (1 ≤ n) && decide (n ≤ 12)) = false := h1
    have hg : gsR n m = none := by simp only [gsR, isG, h1, Bool.false_and, Bool.false_eq_true, if_false]
    simp only [hg, gsO, Prod.mk.injEq] at h
    obtain ⟨rfl, rfl⟩ := h
    refine is.go hm hΓ k_GreedyScheme o_GreedyScheme (by simp [a_GreedyScheme]) ?_
    simp only [a_GreedyScheme, h_l2Numbers, c_isCount, h_l1In, c_in, h_l5Greedy, c_l5Greedy, h_l5Of, c_l5Of, h1', Bool.false_eq_true, List.zipIdx_cons, List.zipIdx_nil, ↓SP, SQ, Gam.add, stepM, callC, argC, lendO, nmBy, nmC, likeL, likeB, plainOb, offs, exL, X, F, trP, trO, stepD, stepW, newA, SV.tr, SV.trL, fz, allP, Ob.tr, loadA, cellsA, SV.cells, binA, binI, eqOut, isSl, isPt, natOf, callee, snap, SV.refsL, SV.refs, thaw, fzAll, loA, hiA, elemOf, partsA, buildA, putCells, ↓reduceIte, reduceCtorEq, okCell, Nat.reduceAdd, Nat.reduceEqDiff, Nat.reduceSub, Nat.reduceMul, Nat.reduceLeDiff, Nat.reduceLT, Nat.reduceBEq, PV.scal, PV.scalL, SV.scal, SV.scalL, Ob.scal, PV.isCell, pure', resO]
    refine finA_gen [16] trivial (by simp [retA, rvA, mkE_cons, mk_nil, mkO_cons, mkO_nil, loadA, SV.tr, SV.trL, nmF, rn_nil, rn_cons1, rn_cons2, plainOb, SV.refsL, SV.refs, Ob.refs, X, F, List.range_succ, mkO, setO_mk]; rfl) ?_ ?_ ?_ ?_ ?_ ?_ ?_ <;> simp [retA, rvA, mkE_cons, mk_nil, mkO_cons, mkO_nil, loadA, SV.tr, SV.trL, nmF, rn_nil, rn_cons1, rn_cons2, plainOb, SV.refsL, SV.refs, Ob.refs, X, F, List.range_succ, mkO, setO_mk]
  | true =>
    have h1' : (decide (1 ≤ n) && decide (n ≤ 12)) = true := h1
    cases h2 : (decide (0 ≤ m) && decide (m ≤ 2)) with
    | false =>
      have hg : gsR n m = none := by simp only [gsR, isG, h2, Bool.and_false, Bool.false_eq_true, if_false]
      simp only [hg, gsO, Prod.mk.injEq] at h
      obtain ⟨rfl, rfl⟩ := h
      refine is.go hm hΓ k_GreedyScheme o_GreedyScheme (by simp [a_GreedyScheme]) ?_
      simp only [a_GreedyScheme, h_l2Numbers, c_isCount, h_l1In, c_in, h_l5Greedy, c_l5Greedy, h_l5Of, c_l5Of, h1', h2, Bool.false_eq_true, List.zipIdx_cons, List.zipIdx_nil, ↓SP, SQ, Gam.add, stepM, callC, argC, lendO, nmBy, nmC, likeL, likeB, plainOb, offs, exL, X, F, trP, trO, stepD, stepW, newA, SV.tr, SV.trL, fz, allP, Ob.tr, loadA, cellsA, SV.cells, binA, binI, eqOut, isSl, isPt, natOf, callee, snap, SV.refsL, SV.refs, thaw, fzAll, loA, hiA, elemOf, partsA, buildA, putCells, ↓reduceIte, reduceCtorEq, okCell, Nat.reduceAdd, Nat.reduceEqDiff, Nat.reduceSub, Nat.reduceMul, Nat.reduceLeDiff, Nat.reduceLT, Nat.reduceBEq, PV.scal, PV.scalL, SV.scal, SV.scalL, Ob.scal, PV.isCell, pure', resO]
      refine finA_gen [16] trivial (by simp [retA, rvA, mkE_cons, mk_nil, mkO_cons, mkO_nil, loadA, SV.tr, SV.trL, nmF, rn_nil, rn_cons1, rn_cons2, plainOb, SV.refsL, SV.refs, Ob.refs, X, F, List.range_succ, mkO, setO_mk]; rfl) ?_ ?_ ?_ ?_ ?_ ?_ ?_ <;> simp [retA, rvA, mkE_cons, mk_nil, mkO_cons, mkO_nil, loadA, SV.tr, SV.trL, nmF, rn_nil, rn_cons1, rn_cons2, plainOb, SV.refsL, SV.refs, Ob.refs, X, F, List.range_succ, mkO, setO_mk]
    | true =>
      have hg : gsR n m = gsF n m 15 := by simp only [gsR, isG, h1, h2, Bool.and_self, if_true]
      rw [hg] at h
      have n1 : 1 ≤ n ∧ n ≤ 12 := by simpa using h1'
      have m1 : 0 ≤ m ∧ m ≤ 2 := by simpa using h2
      have n2 := n1.1
      have n3 := n1.2
      have m2 := m1.1
      have m3 := m1.2
      refine is.go hm hΓ k_GreedyScheme o_GreedyScheme (by simp [a_GreedyScheme]) ?_
      simp only [a_GreedyScheme, h_l2Numbers, c_isCount, h_l1In, c_in, h_l5Greedy, c_l5Greedy, h_l5Of, c_l5Of, h1', h2, List.zipIdx_cons, List.zipIdx_nil, ↓SP, SQ, Gam.add, stepM, callC, argC, lendO, nmBy, nmC, likeL, likeB, plainOb, offs, exL, X, F, trP, trO, stepD, stepW, newA, SV.tr, SV.trL, fz, allP, Ob.tr, loadA, cellsA, SV.cells, binA, binI, eqOut, isSl, isPt, natOf, callee, snap, SV.refsL, SV.refs, thaw, fzAll, loA, hiA, elemOf, partsA, buildA, putCells, ↓reduceIte, reduceCtorEq, okCell, Nat.reduceAdd, Nat.reduceEqDiff, Nat.reduceSub, Nat.reduceMul, Nat.reduceLeDiff, Nat.reduceLT, Nat.reduceBEq, PV.scal, PV.scalL, SV.scal, SV.scalL, Ob.scal, PV.isCell, pure', resO]
      refine loop_at (fun s : Nat × SV × SV × SV => mkEnv [(0, si n), (1, si m), (4, .p .nilsl), (5, sb false), (6, si s.1), (7, s.2.1), (15, sb false), (18, s.2.2.1), (28, s.2.2.2)]) (fun s => mkO [(16, none), (31, none), (32, none)]) (fun s => s.1 ≤ 15 ∧ gsF n m s.1 = none) (fun s => 15 - s.1) (0, .junk, .junk, .junk) (by simp [gsF]) rfl rfl ?_
      rintro ⟨q, c1, c2, c3⟩ ⟨hq, hN0⟩ R hR hN
      simp only at hq hN0
      by_cases hl : q < 15
      · have h3 : (q : Int) ≤ 14 := by omega
        have hw := wrap_one (i := q) (by omega)
        have hlen := grW_len n m (2 ^ q - 1)
        have hp := pow14 (i := q) (by omega)
        have hln := grW_len2 n m n2 (2 ^ q - 1)
        have hl4 : (grW n m (2 ^ q - 1)).length ≤ 4096 := by omega
        by_cases he : (((grW n m (2 ^ q - 1)).length : Nat) : Int) = n
        · have he' : ((((grW n m (2 ^ q - 1)).length : Nat) : Int) == n) = true := beq_iff_eq.2 he
          have hs : gsF n m (q + 1) = some (ofL5 (grW n m (2 ^ q - 1)) q) := by simp only [gsF, hN0, he, if_true]
          have hs2 := gsF_st hs (14 - q)
          rw [show q + 1 + (14 - q) = 15 by omega] at hs2
          simp only [hs2, gsO, Prod.mk.injEq] at h
          obtain ⟨rfl, rfl⟩ := h
          simp only [h3, n2, n3, m2, m3, he', hl4, Int.natCast_nonneg, h_l5Greedy, c_l5Greedy, h_l5Of, c_l5Of, isI_ints, ofI_ints, ints_len, Int.toNat_natCast, ↓SP, SQ, Gam.add, stepM, callC, argC, lendO, nmBy, nmC, likeL, likeB, plainOb, offs, exL, X, F, trP, trO, stepD, stepW, newA, SV.tr, SV.trL, fz, allP, Ob.tr, loadA, cellsA, SV.cells, binA, binI, eqOut, isSl, isPt, natOf, callee, snap, SV.refsL, SV.refs, thaw, fzAll, loA, hiA, elemOf, partsA, buildA, putCells, ↓reduceIte, reduceCtorEq, okCell, Nat.reduceAdd, Nat.reduceEqDiff, Nat.reduceSub, Nat.reduceMul, Nat.reduceLeDiff, Nat.reduceLT, Nat.reduceBEq, PV.scal, PV.scalL, SV.scal, SV.scalL, Ob.scal, PV.isCell, pure', resO]
          refine hR _ _ _ (by intro h; cases h) ?_
          simp only [↓SP, SQ, Gam.add, stepM, callC, argC, lendO, nmBy, nmC, likeL, likeB, plainOb, offs, exL, X, F, trP, trO, stepD, stepW, newA, SV.tr, SV.trL, fz, allP, Ob.tr, loadA, cellsA, SV.cells, binA, binI, eqOut, isSl, isPt, natOf, callee, snap, SV.refsL, SV.refs, thaw, fzAll, loA, hiA, elemOf, partsA, buildA, putCells, ↓reduceIte, reduceCtorEq, okCell, Nat.reduceAdd, Nat.reduceEqDiff, Nat.reduceSub, Nat.reduceMul, Nat.reduceLeDiff, Nat.reduceLT, Nat.reduceBEq, PV.scal, PV.scalL, SV.scal, SV.scalL, Ob.scal, PV.isCell, pure', resO]
          refine finA_gen [31] trivial (by simp [retA, rvA, mkE_cons, mk_nil, mkO_cons, mkO_nil, loadA, SV.tr, SV.trL, nmF, rn_nil, rn_cons1, rn_cons2, plainOb, SV.refsL, SV.refs, Ob.refs, X, F, List.range_succ, mkO, setO_mk]; rfl) ?_ ?_ ?_ ?_ ?_ ?_ ?_ <;> simp [retA, rvA, mkE_cons, mk_nil, mkO_cons, mkO_nil, loadA, SV.tr, SV.trL, nmF, rn_nil, rn_cons1, rn_cons2, plainOb, SV.refsL, SV.refs, Ob.refs, X, F, List.range_succ, mkO, setO_mk]
        · have he' : ((((grW n m (2 ^ q - 1)).length : Nat) : Int) == n) = false := beq_eq_false_iff_ne.2 he
          simp only [h3, hw, n2, n3, m2, m3, he', Int.natCast_nonneg, h_l5Greedy, c_l5Greedy, isI_ints, ofI_ints, ints_len, Int.toNat_natCast, ↓SP, SQ, Gam.add, stepM, callC, argC, lendO, nmBy, nmC, likeL, likeB, plainOb, offs, exL, X, F, trP, trO, stepD, stepW, newA, SV.tr, SV.trL, fz, allP, Ob.tr, loadA, cellsA, SV.cells, binA, binI, eqOut, isSl, isPt, natOf, callee, snap, SV.refsL, SV.refs, thaw, fzAll, loA, hiA, elemOf, partsA, buildA, putCells, ↓reduceIte, reduceCtorEq, okCell, Nat.reduceAdd, Nat.reduceEqDiff, Nat.reduceSub, Nat.reduceMul, Nat.reduceLeDiff, Nat.reduceLT, Nat.reduceBEq, PV.scal, PV.scalL, SV.scal, SV.scalL, Ob.scal, PV.isCell, pure', resO]
          exact hN (q + 1, _, _, _) _ _ ⟨by simp only; omega, by simp only [gsF, hN0, he, if_false]⟩ (by simp only; omega) rfl rfl
      · have he : q = 15 := by omega
        subst he
        have h3 : ¬ ((15 : Nat) : Int) ≤ 14 := by decide
        simp only [hN0, gsO, Prod.mk.injEq] at h
        obtain ⟨rfl, rfl⟩ := h
        simp only [h3, ↓SP, SQ, Gam.add, stepM, callC, argC, lendO, nmBy, nmC, likeL, likeB, plainOb, offs, exL, X, F, trP, trO, stepD, stepW, newA, SV.tr, SV.trL, fz, allP, Ob.tr, loadA, cellsA, SV.cells, binA, binI, eqOut, isSl, isPt, natOf, callee, snap, SV.refsL, SV.refs, thaw, fzAll, loA, hiA, elemOf, partsA, buildA, putCells, ↓reduceIte, reduceCtorEq, okCell, Nat.reduceAdd, Nat.reduceEqDiff, Nat.reduceSub, Nat.reduceMul, Nat.reduceLeDiff, Nat.reduceLT, Nat.reduceBEq, PV.scal, PV.scalL, SV.scal, SV.scalL, Ob.scal, PV.isCell, pure', resO]
        refine hR _ _ _ (by intro h; cases h) ?_
        simp only [↓SP, SQ, Gam.add, stepM, callC, argC, lendO, nmBy, nmC, likeL, likeB, plainOb, offs, exL, X, F, trP, trO, stepD, stepW, newA, SV.tr, SV.trL, fz, allP, Ob.tr, loadA, cellsA, SV.cells, binA, binI, eqOut, isSl, isPt, natOf, callee, snap, SV.refsL, SV.refs, thaw, fzAll, loA, hiA, elemOf, partsA, buildA, putCells, ↓reduceIte, reduceCtorEq, okCell, Nat.reduceAdd, Nat.reduceEqDiff, Nat.reduceSub, Nat.reduceMul, Nat.reduceLeDiff, Nat.reduceLT, Nat.reduceBEq, PV.scal, PV.scalL, SV.scal, SV.scalL, Ob.scal, PV.isCell, pure', resO]
        refine finA_gen [32] trivial (by simp [retA, rvA, mkE_cons, mk_nil, mkO_cons, mkO_nil, loadA, SV.tr, SV.trL, nmF, rn_nil, rn_cons1, rn_cons2, plainOb, SV.refsL, SV.refs, Ob.refs, X, F, List.range_succ, mkO, setO_mk]; rfl) ?_ ?_ ?_ ?_ ?_ ?_ ?_ <;> simp [retA, rvA, mkE_cons, mk_nil, mkO_cons, mkO_nil, loadA, SV.tr, SV.trL, nmF, rn_nil, rn_cons1, rn_cons2, plainOb, SV.refsL, SV.refs, Ob.refs, X, F, List.range_succ, mkO, setO_mk]
def a_many (f_among : FuncId) : AFn := ⟨1, 
  .seq (.reg [⟨some 2, none, .d (.mv (.c (.int .i64 0)))⟩])
  (.seq (.reg [⟨some 3, none, .d (.mv (.t 0))⟩,
    ⟨some 4, none, .w (.bslice 1 [.int .i64 0, .int .i64 0, .int .i64 0, .int .i64 0, .int .i64 0, .int .i64 0, .int .i64 0, .int .i64 0, .int .i64 0, .int .i64 0, .int .i64 0, .int .i64 0, .int .i64 0, .int .i64 0, .int .i64 0, .int .i64 0] [(0, (.c (.int .i64 4))), (1, (.c (.int .i64 6))), (2, (.c (.int .i64 8))), (3, (.c (.int .i64 3))), (4, (.c (.int .i64 5))), (5, (.c (.int .i64 2))), (6, (.c (.int .i64 7))), (7, (.c (.int .i64 12))), (8, (.c (.int .i64 1))), (9, (.c (.int .i64 0))), (10, (.c (.int .i64 13))), (11, (.c (.int .i64 4))), (12, (.c (.int .i64 6))), (13, (.c (.int .i64 8))), (14, (.c (.int .i64 3))), (15, (.c (.int .i64 5)))])⟩,
    ⟨some 5, none, .w (.callL (.f f_among) [(.t 3), (.t 4)] [1000000] 0 true)⟩,
    ⟨some 2, none, .d (.mv (.t 5))⟩])
  (.ret)), [.tmp 2]⟩
def n_many : Nat → Option Ann := fun d => if d = 5 then some ⟨[1000000], 0, true⟩ else none
abbrev k_many : List Nat := [0, 2]
abbrev o_many : List Nat := [4]
def maL : List Int := [4, 6, 8, 3, 5, 2, 7, 12, 1, 0, 13, 4, 6, 8, 3, 5]
def c_many : Con
  | [.bx 1000000 0], [.box [.p v, .p (.int .i64 a), .p (.int .u64 s)]] => match slU v with
    | some l => if 0 ≤ a ∧ a ≤ 900 then some (.p (.int .i64 (amV l maL (a, s))), [.box [.p v, .p (.int .i64 (pkC l 16 (a, s)).1), .p (.int .u64 (pkC l 16 (a, s)).2)]], []) else none
    | none => none
  | _, _ => none
theorem s_many {P : Program} (hm : P.follows .mixedOrders = true) {Γ : Gam} (hΓ : GS P Γ) {n : FuncId} {f_among : FuncId} (is : Is P n (a_many f_among)) (h_among : Γ f_among = c_among)  : Says P n c_many := by
  intro args ext r ext' fs h
  unfold c_many at h
  split at h
  case h_2 => cases h
  rename_i v a s
  split at h
  case h_2 => cases h
  rename_i l hv
  split at h
  case isFalse => cases h
  rename_i hc
  obtain ⟨h0, h1⟩ := hc
  simp only [Option.some.injEq, Prod.mk.injEq] at h
  obtain ⟨rfl, rfl, rfl⟩ := h
  have h1' : a ≤ 1000 := by omega
  refine is.goX hm hΓ k_many (1000000 :: o_many) (by simp [a_many]) (by simp) ?_
  simp only [a_many, h_among, c_among, hv, h0, h1', isI, ofI, Int.cast_ofNat_Int, List.zipIdx_cons, List.zipIdx_nil, ↓SP, SQ, Gam.add, stepM, callC, argC, lendO, nmBy, nmC, likeL, likeB, plainOb, offs, exL, X, F, trP, trO, stepD, stepW, newA, SV.tr, SV.trL, fz, allP, Ob.tr, loadA, cellsA, SV.cells, binA, binI, eqOut, isSl, isPt, natOf, callee, snap, SV.refsL, SV.refs, thaw, fzAll, loA, hiA, elemOf, partsA, buildA, putCells, ↓reduceIte, reduceCtorEq, okCell, Nat.reduceAdd, Nat.reduceEqDiff, Nat.reduceSub, Nat.reduceMul, Nat.reduceLeDiff, Nat.reduceLT, Nat.reduceBEq, PV.scal, PV.scalL, SV.scal, SV.scalL, Ob.scal, PV.isCell, pure', resO]
  refine finA_gen [] trivial (by simp [retA, rvA, mkE_cons, mk_nil, mkO_cons, mkO_nil, loadA, SV.tr, SV.trL, nmF, rn_nil, rn_cons1, rn_cons2, plainOb, SV.refsL, SV.refs, Ob.refs, X, F, List.range_succ, mkO, setO_mk]; rfl) ?_ ?_ ?_ ?_ ?_ ?_ ?_ <;> simp [maL, retA, rvA, mkE_cons, mk_nil, mkO_cons, mkO_nil, loadA, SV.tr, SV.trL, nmF, rn_nil, rn_cons1, rn_cons2, plainOb, SV.refsL, SV.refs, Ob.refs, X, F, List.range_succ, mkO, setO_mk]
/-- How many bits a question has, at most b. -/
def qsK (b n : Int) : Nat := (if 0 > (if n < b then n else b) then 0 else (if n < b then n else b)).toNat
theorem qsK_le {b n : Int} (hb : 0 ≤ b) : ((qsK b n : Nat) : Int) = (if 0 > (if n < b then n else b) then 0 else (if n < b then n else b)) ∧ ((qsK b n : Nat) : Int) ≤ b := by
  unfold qsK
  split <;> split <;> omega
def qsR (l : List Int) (n : Int) (c : Cu) : Int × Cu :=
  if pkV l 24 c = 0 then (amV l [-1, ((2 ^ qsK 13 n : Nat) : Int), 4611686018427387904] (pkC l 24 c), pkC l 3 (pkC l 24 c))
  else (if ((2 ^ qsK 12 n : Nat) : Int) ≤ 200 then pkV l ((2 ^ qsK 12 n : Nat) : Int) (pkC l 24 c) else pkY l ((2 ^ qsK 12 n : Nat) : Int) (pkC l 24 c), if ((2 ^ qsK 12 n : Nat) : Int) ≤ 200 then pkC l ((2 ^ qsK 12 n : Nat) : Int) (pkC l 24 c) else nxC l (nxC l (pkC l 24 c)))
theorem nx_at {c : Cu} {b : Int} (l : List Int) (h : CuA c b) : CuA (nxC l c) (b + 1) := ⟨by have := h.1; simp only [nxC]; omega, by have := h.2; simp only [nxC]; omega⟩
theorem qsR_at {l : List Int} {n : Int} {c : Cu} {b : Int} (h : CuA c b) : CuA (qsR l n c).2 (b + 3) := by
  have h1 := h.pk l 24
  unfold qsR
  split
  · exact (h1.pk l 3).mono (by omega)
  · simp only
    split
    · exact (h1.pk l _).mono (by omega)
    · exact (nx_at l (nx_at l h1)).mono (by omega)
def a_question (f_one : FuncId) (f_l1LeastD : FuncId) (f_l1Most : FuncId) (f_among : FuncId) (f_pick : FuncId) : AFn := ⟨2, 
  .seq (.reg [⟨some 4, none, .d (.mv (.c (.int .i64 0)))⟩])
  (.seq (.seq (.reg [⟨some 5, none, .d (.mv (.t 0))⟩,
    ⟨some 6, none, .w (.callL (.f f_one) [(.t 5), (.c (.int .i64 24))] [1000000] 0 false)⟩])
  (.cond (.t 6) (.seq (.reg [⟨some 7, none, .d (.mv (.t 0))⟩,
     ⟨some 8, none, .d (.mv (.t 1))⟩,
     ⟨some 9, none, .d (.call (.f f_l1LeastD) [(.t 8), (.c (.int .i64 13))])⟩,
     ⟨some 10, none, .d (.call (.f f_l1Most) [(.c (.int .i64 0)), (.t 9)])⟩,
     ⟨some 11, none, .d (.bin .arith .shl (.c (.int .i64 1)) (.t 10))⟩,
     ⟨some 12, none, .w (.bslice 1 [.int .i64 0, .int .i64 0, .int .i64 0] [(0, (.c (.int .i64 (-1)))), (1, (.t 11)), (2, (.c (.int .i64 4611686018427387904)))])⟩,
     ⟨some 13, none, .w (.callL (.f f_among) [(.t 7), (.t 12)] [1000000] 0 true)⟩,
     ⟨some 4, none, .d (.mv (.t 13))⟩])
   (.ret)) (.skip)))
  (.seq (.reg [⟨some 14, none, .d (.mv (.t 0))⟩,
    ⟨some 15, none, .d (.mv (.t 1))⟩,
    ⟨some 16, none, .d (.call (.f f_l1LeastD) [(.t 15), (.c (.int .i64 12))])⟩,
    ⟨some 17, none, .d (.call (.f f_l1Most) [(.c (.int .i64 0)), (.t 16)])⟩,
    ⟨some 18, none, .d (.bin .arith .shl (.c (.int .i64 1)) (.t 17))⟩,
    ⟨some 19, none, .w (.callL (.f f_pick) [(.t 14), (.t 18)] [1000000] 0 false)⟩,
    ⟨some 4, none, .d (.mv (.t 19))⟩])
  (.ret))), [.tmp 4]⟩
def n_question : Nat → Option Ann := fun d => if d = 6 then some ⟨[1000000], 0, false⟩ else if d = 13 then some ⟨[1000000], 0, true⟩ else if d = 19 then some ⟨[1000000], 0, false⟩ else none
abbrev k_question : List Nat := [0, 1, 4, 6]
abbrev o_question : List Nat := [12]
def c_question : Con
  | [.bx 1000000 0, .p (.int .i64 n)], [.box [.p v, .p (.int .i64 a), .p (.int .u64 s)]] => match slU v with
    | some l => if 0 ≤ a ∧ a ≤ 900 then some (.p (.int .i64 (qsR l n (a, s)).1), [.box [.p v, .p (.int .i64 (qsR l n (a, s)).2.1), .p (.int .u64 (qsR l n (a, s)).2.2)]], []) else none
    | none => none
  | _, _ => none
theorem s_question {P : Program} (hm : P.follows .mixedOrders = true) {Γ : Gam} (hΓ : GS P Γ) {n : FuncId} {f_one : FuncId} {f_l1LeastD : FuncId} {f_l1Most : FuncId} {f_among : FuncId} {f_pick : FuncId} (is : Is P n (a_question f_one f_l1LeastD f_l1Most f_among f_pick)) (h_one : Γ f_one = c_one) (h_l1LeastD : Γ f_l1LeastD = c_l1LeastD) (h_l1Most : Γ f_l1Most = c_l1Most) (h_among : Γ f_among = c_among) (h_pick : Γ f_pick = c_pick)  : Says P n c_question := by
  intro args ext r ext' fs h
  unfold c_question at h
  split at h
  case h_2 => cases h
  rename_i n' v a s
  split at h
  case h_2 => cases h
  rename_i l hv
  split at h
  case isFalse => cases h
  rename_i hc
  obtain ⟨h0, h1⟩ := hc
  simp only [Option.some.injEq, Prod.mk.injEq] at h
  obtain ⟨rfl, rfl, rfl⟩ := h
  have h1' : a ≤ 1000 := by omega
  have ha0 : CuA (a, s) 900 := ⟨h0, h1⟩
  have ha1 := ha0.pk l 24
  have q1 := ha1.1
  have q1' : (pkC l 24 (a, s)).1 ≤ 1000 := by have := ha1.2; omega
  obtain ⟨k1, k2⟩ := qsK_le (b := 13) (n := n') (by decide)
  obtain ⟨k3, k4⟩ := qsK_le (b := 12) (n := n') (by decide)
  have sh1 := (shl_nat (i := qsK 13 n') (by omega)).1
  have sh2 := (shl_nat (i := qsK 12 n') (by omega)).1
  have p1 : ¬ ((qsK 13 n' : Nat) : Int) < 0 := by omega
  have p2 : ¬ ((qsK 12 n' : Nat) : Int) < 0 := by omega
  have p3 : ((2 ^ qsK 12 n' : Nat) : Int) ≤ 5000 := by
    have : 2 ^ qsK 12 n' ≤ 2 ^ 12 := Nat.pow_le_pow_right (by omega) (by omega)
    omega
  refine is.goX hm hΓ k_question (1000000 :: o_question) (by simp [a_question]) (by simp) ?_
  by_cases z0 : pkV l 24 (a, s) = 0
  · have hR : qsR l n' (a, s) = (amV l [-1, ((2 ^ qsK 13 n' : Nat) : Int), 4611686018427387904] (pkC l 24 (a, s)), pkC l 3 (pkC l 24 (a, s))) := by simp only [qsR, z0, if_true]
    have z0' : (pkV l 24 (a, s) == 0) = true := by simp [z0]
    rw [hR]
    simp only [a_question, h_one, c_one, h_among, c_among, h_l1LeastD, c_l1LeastD, h_l1Most, c_l1Most, ← k1, hv, h0, h1', q1, q1', sh1, p1, z0', (by decide : (24 : Int) ≤ 200), isI, ofI, cuEta, Int.toNat_natCast, Int.cast_ofNat_Int, List.zipIdx_cons, List.zipIdx_nil, ↓SP, SQ, Gam.add, stepM, callC, argC, lendO, nmBy, nmC, likeL, likeB, plainOb, offs, exL, X, F, trP, trO, stepD, stepW, newA, SV.tr, SV.trL, fz, allP, Ob.tr, loadA, cellsA, SV.cells, binA, binI, eqOut, isSl, isPt, natOf, callee, snap, SV.refsL, SV.refs, thaw, fzAll, loA, hiA, elemOf, partsA, buildA, putCells, ↓reduceIte, reduceCtorEq, okCell, Nat.reduceAdd, Nat.reduceEqDiff, Nat.reduceSub, Nat.reduceMul, Nat.reduceLeDiff, Nat.reduceLT, Nat.reduceBEq, PV.scal, PV.scalL, SV.scal, SV.scalL, Ob.scal, PV.isCell, pure', resO]
    refine finA_gen [] trivial (by simp [retA, rvA, mkE_cons, mk_nil, mkO_cons, mkO_nil, loadA, SV.tr, SV.trL, nmF, rn_nil, rn_cons1, rn_cons2, plainOb, SV.refsL, SV.refs, Ob.refs, X, F, List.range_succ, mkO, setO_mk]; rfl) ?_ ?_ ?_ ?_ ?_ ?_ ?_ <;> simp [retA, rvA, mkE_cons, mk_nil, mkO_cons, mkO_nil, loadA, SV.tr, SV.trL, nmF, rn_nil, rn_cons1, rn_cons2, plainOb, SV.refsL, SV.refs, Ob.refs, X, F, List.range_succ, mkO, setO_mk]
  · have hR : qsR l n' (a, s) = (if ((2 ^ qsK 12 n' : Nat) : Int) ≤ 200 then pkV l ((2 ^ qsK 12 n' : Nat) : Int) (pkC l 24 (a, s)) else pkY l ((2 ^ qsK 12 n' : Nat) : Int) (pkC l 24 (a, s)), if ((2 ^ qsK 12 n' : Nat) : Int) ≤ 200 then pkC l ((2 ^ qsK 12 n' : Nat) : Int) (pkC l 24 (a, s)) else nxC l (nxC l (pkC l 24 (a, s)))) := by simp only [qsR, z0, if_false]
    have z0' : (pkV l 24 (a, s) == 0) = false := by simp [z0]
    rw [hR]
    simp only [a_question, h_one, c_one, h_pick, c_pick, h_l1LeastD, c_l1LeastD, h_l1Most, c_l1Most, ← k3, hv, h0, h1', q1, q1', sh2, p2, p3, z0', (by decide : (24 : Int) ≤ 200), isI, ofI, cuEta, Int.toNat_natCast, Int.cast_ofNat_Int, List.zipIdx_cons, List.zipIdx_nil, ↓SP, SQ, Gam.add, stepM, callC, argC, lendO, nmBy, nmC, likeL, likeB, plainOb, offs, exL, X, F, trP, trO, stepD, stepW, newA, SV.tr, SV.trL, fz, allP, Ob.tr, loadA, cellsA, SV.cells, binA, binI, eqOut, isSl, isPt, natOf, callee, snap, SV.refsL, SV.refs, thaw, fzAll, loA, hiA, elemOf, partsA, buildA, putCells, ↓reduceIte, reduceCtorEq, okCell, Nat.reduceAdd, Nat.reduceEqDiff, Nat.reduceSub, Nat.reduceMul, Nat.reduceLeDiff, Nat.reduceLT, Nat.reduceBEq, PV.scal, PV.scalL, SV.scal, SV.scalL, Ob.scal, PV.isCell, pure', resO]
    refine finA_gen [] trivial (by simp [retA, rvA, mkE_cons, mk_nil, mkO_cons, mkO_nil, loadA, SV.tr, SV.trL, nmF, rn_nil, rn_cons1, rn_cons2, plainOb, SV.refsL, SV.refs, Ob.refs, X, F, List.range_succ, mkO, setO_mk]; rfl) ?_ ?_ ?_ ?_ ?_ ?_ ?_ <;> simp [retA, rvA, mkE_cons, mk_nil, mkO_cons, mkO_nil, loadA, SV.tr, SV.trL, nmF, rn_nil, rn_cons1, rn_cons2, plainOb, SV.refsL, SV.refs, Ob.refs, X, F, List.range_succ, mkO, setO_mk]
end Go.Proofs.Ytmbljmolegalhaa.Pam
