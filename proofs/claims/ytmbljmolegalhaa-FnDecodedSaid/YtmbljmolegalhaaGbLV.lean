/- A part of the proof that stands in this folder: a small machine whose steps are shown to be the steps of the model, or walks of functions by it. No condition of its own. -/
import Derived.Test.YtmbljmolegalhaaGbLU
set_option linter.unusedVariables false
set_option linter.unusedSimpArgs false
namespace Go.Proofs.Ytmbljmolegalhaa.Pam
open Go
/-- The ones of a number, of f places. -/
def pcN : Nat → Nat → Nat
  | 0, _ => 0
  | f + 1, x => x % 2 + pcN f (x / 2)
theorem pcN_zero : ∀ f, pcN f 0 = 0
  | 0 => rfl
  | f + 1 => by simp only [pcN, Nat.zero_mod, Nat.zero_div, pcN_zero f]
theorem pcN_le : ∀ f x, pcN f x ≤ f
  | 0, _ => by simp [pcN]
  | f + 1, x => by
    have := pcN_le f (x / 2)
    have := Nat.mod_lt x (y := 2) (by omega)
    simp only [pcN]; omega
/-- The stages of counting ones. -/
def oc1 (x : Int) : Int := IntKind.u64.wrap (andW .u64 (x.fdiv (2 ^ min (Int.toNat 1) IntKind.u64.bits)) 6148914691236517205 + andW .u64 x 6148914691236517205)
def oc2 (x : Int) : Int := IntKind.u64.wrap (andW .u64 (x.fdiv (2 ^ min (Int.toNat 2) IntKind.u64.bits)) 3689348814741910323 + andW .u64 x 3689348814741910323)
def oc3 (x : Int) : Int := andW .u64 (IntKind.u64.wrap (x.fdiv (2 ^ min (Int.toNat 4) IntKind.u64.bits) + x)) 1085102592571150095
def oc4 (x : Int) : Int := IntKind.u64.wrap (x + x.fdiv (2 ^ min (Int.toNat 8) IntKind.u64.bits))
def oc5 (x : Int) : Int := IntKind.u64.wrap (x + x.fdiv (2 ^ min (Int.toNat 16) IntKind.u64.bits))
def oc6 (x : Int) : Int := IntKind.u64.wrap (x + x.fdiv (2 ^ min (Int.toNat 32) IntKind.u64.bits))
def oc (x : Int) : Int := andW .i64 (IntKind.i64.wrap (oc6 (oc5 (oc4 (oc3 (oc2 (oc1 x))))))) 127
theorem oc_all2 : ∀ a, a < 128 → ∀ b, b < 128 → oc ((128 * a + b : Nat) : Int) = (pcN 14 (128 * a + b) : Int) := by decide +kernel
theorem oc_all (x : Nat) (h : x < 16384) : oc (x : Nat) = (pcN 14 x : Int) := by
  have := oc_all2 (x / 128) (by omega) (x % 128) (by omega)
  rwa [show 128 * (x / 128) + x % 128 = x by omega] at this
def a_OnesCount64 : AFn := ⟨1, 
  .seq (.reg [⟨some 2, none, .d (.mv (.c (.int .i64 0)))⟩])
  (.seq (.reg [⟨some 3, none, .d (.mv (.t 0))⟩,
    ⟨some 4, none, .d (.bin .arith .shr (.t 3) (.c (.int .u64 1)))⟩,
    ⟨some 5, none, .d (.bin .arith .and (.t 4) (.c (.int .u64 6148914691236517205)))⟩,
    ⟨some 6, none, .d (.mv (.t 0))⟩,
    ⟨some 7, none, .d (.bin .arith .and (.t 6) (.c (.int .u64 6148914691236517205)))⟩,
    ⟨some 8, none, .d (.bin .arith .add (.t 5) (.t 7))⟩,
    ⟨some 0, none, .d (.mv (.t 8))⟩])
  (.seq (.reg [⟨some 9, none, .d (.mv (.t 0))⟩,
    ⟨some 10, none, .d (.bin .arith .shr (.t 9) (.c (.int .u64 2)))⟩,
    ⟨some 11, none, .d (.bin .arith .and (.t 10) (.c (.int .u64 3689348814741910323)))⟩,
    ⟨some 12, none, .d (.mv (.t 0))⟩,
    ⟨some 13, none, .d (.bin .arith .and (.t 12) (.c (.int .u64 3689348814741910323)))⟩,
    ⟨some 14, none, .d (.bin .arith .add (.t 11) (.t 13))⟩,
    ⟨some 0, none, .d (.mv (.t 14))⟩])
  (.seq (.reg [⟨some 15, none, .d (.mv (.t 0))⟩,
    ⟨some 16, none, .d (.bin .arith .shr (.t 15) (.c (.int .u64 4)))⟩,
    ⟨some 17, none, .d (.mv (.t 0))⟩,
    ⟨some 18, none, .d (.bin .arith .add (.t 16) (.t 17))⟩,
    ⟨some 19, none, .d (.bin .arith .and (.t 18) (.c (.int .u64 1085102592571150095)))⟩,
    ⟨some 0, none, .d (.mv (.t 19))⟩])
  (.seq (.reg [⟨some 20, none, .d (.mv (.t 0))⟩,
    ⟨some 21, none, .d (.mv (.t 0))⟩,
    ⟨some 22, none, .d (.bin .arith .shr (.t 21) (.c (.int .u64 8)))⟩,
    ⟨some 23, none, .d (.bin .arith .add (.t 20) (.t 22))⟩,
    ⟨some 0, none, .d (.mv (.t 23))⟩])
  (.seq (.reg [⟨some 24, none, .d (.mv (.t 0))⟩,
    ⟨some 25, none, .d (.mv (.t 0))⟩,
    ⟨some 26, none, .d (.bin .arith .shr (.t 25) (.c (.int .u64 16)))⟩,
    ⟨some 27, none, .d (.bin .arith .add (.t 24) (.t 26))⟩,
    ⟨some 0, none, .d (.mv (.t 27))⟩])
  (.seq (.reg [⟨some 28, none, .d (.mv (.t 0))⟩,
    ⟨some 29, none, .d (.mv (.t 0))⟩,
    ⟨some 30, none, .d (.bin .arith .shr (.t 29) (.c (.int .u64 32)))⟩,
    ⟨some 31, none, .d (.bin .arith .add (.t 28) (.t 30))⟩,
    ⟨some 0, none, .d (.mv (.t 31))⟩])
  (.seq (.reg [⟨some 32, none, .d (.mv (.t 0))⟩,
    ⟨some 33, none, .d (.conv .i64 (.t 32))⟩,
    ⟨some 34, none, .d (.bin .arith .and (.t 33) (.c (.int .i64 127)))⟩,
    ⟨some 2, none, .d (.mv (.t 34))⟩])
  (.ret)))))))), [.tmp 2]⟩
def n_OnesCount64 : Nat → Option Ann := fun _ => none
abbrev k_OnesCount64 : List Nat := [0, 2]
abbrev o_OnesCount64 : List Nat := []
def c_OnesCount64 : Con := pure' fun
  | [.p (.int .u64 x)] => if 0 ≤ x ∧ x < 16384 then some (.p (.int .i64 (pcN 14 x.toNat : Int)), []) else none
  | _ => none
theorem s_OnesCount64 {P : Program} (hm : P.follows .mixedOrders = true) {Γ : Gam} (hΓ : GS P Γ) {n : FuncId} (is : Is P n a_OnesCount64)  : Says P n c_OnesCount64 := by
  refine Says.pure fun args r fs h => ?_
  split at h
  case h_2 => cases h
  rename_i x
  split at h
  case isFalse => cases h
  rename_i hc
  simp only [Option.some.injEq, Prod.mk.injEq] at h
  obtain ⟨rfl, rfl⟩ := h
  refine is.go hm hΓ k_OnesCount64 o_OnesCount64 (by simp [a_OnesCount64]) ?_
  simp only [a_OnesCount64, bitA_and, Int.reduceLT, List.zipIdx_cons, List.zipIdx_nil, ↓SP, SQ, Gam.add, stepM, callC, argC, lendO, nmBy, nmC, likeL, likeB, plainOb, offs, exL, X, F, trP, trO, stepD, stepW, newA, SV.tr, SV.trL, fz, allP, Ob.tr, loadA, cellsA, SV.cells, binA, binI, eqOut, isSl, isPt, natOf, callee, snap, SV.refsL, SV.refs, thaw, fzAll, loA, hiA, elemOf, partsA, buildA, putCells, ↓reduceIte, reduceCtorEq, okCell, Nat.reduceAdd, Nat.reduceEqDiff, Nat.reduceSub, Nat.reduceMul, Nat.reduceLeDiff, Nat.reduceLT, Nat.reduceBEq, PV.scal, PV.scalL, SV.scal, SV.scalL, Ob.scal, PV.isCell, pure', resO]
  have e := oc_all x.toNat (by omega)
  rw [show ((x.toNat : Nat) : Int) = x by omega] at e
  simp only [oc, oc1, oc2, oc3, oc4, oc5, oc6] at e
  simp only [e]
  exact finA_val (by simp [retA, rvA, mkE_cons, mk_nil, mkO_cons, mkO_nil, loadA, SV.tr, SV.trL, nmF, rn_nil, rn_cons1, rn_cons2, plainOb, SV.refsL, SV.refs, Ob.refs, X, F, List.range_succ, mkO, setO_mk]) (by simp [SV.tr, SV.trL])
def a_l5Apart : AFn := ⟨2, 
  .seq (.reg [⟨some 4, none, .d (.mv (.c (.int .i64 0)))⟩])
  (.seq (.reg [⟨some 5, none, .d (.mv (.c (.int .i64 0)))⟩])
  (.seq (.seq (.reg [⟨some 7, none, .d (.mv (.t 0))⟩,
    ⟨some 8, none, .d (.mv (.t 1))⟩,
    ⟨some 9, none, .d (.bin .arith .xor (.t 7) (.t 8))⟩,
    ⟨some 6, none, .d (.mv (.t 9))⟩])
  (.block 0 (.loop (.seq (.seq (.reg [⟨some 10, none, .d (.mv (.t 6))⟩,
      ⟨some 11, none, .d (.bin .arith .gtr (.t 10) (.c (.int .i64 0)))⟩])
    (.cond (.t 11) (.skip) (.exit 0)))
    (.seq (.block 1 (.reg [⟨some 14, none, .d (.mv (.t 5))⟩,
       ⟨some 15, none, .d (.mv (.t 6))⟩,
       ⟨some 16, none, .d (.bin .arith .and (.t 15) (.c (.int .i64 1)))⟩,
       ⟨some 17, none, .d (.bin .arith .add (.t 14) (.t 16))⟩,
       ⟨some 5, none, .d (.mv (.t 17))⟩]))
    (.reg [⟨some 12, none, .d (.mv (.t 6))⟩,
      ⟨some 13, none, .d (.bin .arith .shr (.t 12) (.c (.int .u64 1)))⟩,
      ⟨some 6, none, .d (.mv (.t 13))⟩]))))))
  (.seq (.reg [⟨some 18, none, .d (.mv (.t 5))⟩,
    ⟨some 4, none, .d (.mv (.t 18))⟩])
  (.ret)))), [.tmp 4]⟩
def n_l5Apart : Nat → Option Ann := fun _ => none
abbrev k_l5Apart : List Nat := [0, 1, 4, 5, 6, 11]
abbrev o_l5Apart : List Nat := []
def c_l5Apart : Con := pure' fun
  | [.p (.int .i64 a), .p (.int .i64 b)] => if (0 ≤ a ∧ a < 16384 ∧ 0 ≤ b ∧ b < 16384) then some (.p (.int .i64 (pcN 14 (a.toNat ^^^ b.toNat) : Int)), []) else none
  | _ => none
theorem s_l5Apart {P : Program} (hm : P.follows .mixedOrders = true) {Γ : Gam} (hΓ : GS P Γ) {n : FuncId} (is : Is P n a_l5Apart)  : Says P n c_l5Apart := by
  refine Says.pure fun args r fs h => ?_
  split at h
  case h_2 => cases h
  rename_i a b
  split at h
  case isFalse => cases h
  rename_i hc
  simp only [ofI_ints, ofBo_bools, ofAs_asks, Option.some.injEq, Prod.mk.injEq] at h hc
  obtain ⟨rfl, rfl⟩ := h
  obtain ⟨h0, h1, h2, h3⟩ := hc
  obtain ⟨a, rfl⟩ : ∃ j : Nat, a = j := ⟨a.toNat, by omega⟩
  obtain ⟨b, rfl⟩ : ∃ j : Nat, b = j := ⟨b.toNat, by omega⟩
  simp only [Int.toNat_natCast]
  have hx := xorW_nat (a := a) (b := b) (by omega) (by omega)
  have hlt : a ^^^ b < 2 ^ 14 := Nat.xor_lt_two_pow (by omega) (by omega)
  generalize a ^^^ b = x at *
  refine is.go hm hΓ k_l5Apart o_l5Apart (by simp [a_l5Apart]) ?_
  simp only [a_l5Apart, bitA_xor, hx, List.zipIdx_cons, List.zipIdx_nil, ↓SP, SQ, Gam.add, stepM, callC, argC, lendO, nmBy, nmC, likeL, likeB, plainOb, offs, exL, X, F, trP, trO, stepD, stepW, newA, SV.tr, SV.trL, fz, allP, Ob.tr, loadA, cellsA, SV.cells, binA, binI, eqOut, isSl, isPt, natOf, callee, snap, SV.refsL, SV.refs, thaw, fzAll, loA, hiA, elemOf, partsA, buildA, putCells, ↓reduceIte, reduceCtorEq, okCell, Nat.reduceAdd, Nat.reduceEqDiff, Nat.reduceSub, Nat.reduceMul, Nat.reduceLeDiff, Nat.reduceLT, Nat.reduceBEq, PV.scal, PV.scalL, SV.scal, SV.scalL, Ob.scal, PV.isCell, pure', resO]
  refine loop_at (fun s : Nat × Nat × Nat × SV => mkEnv [(0, si a), (1, si b), (4, si 0), (5, si s.2.1), (6, si s.2.2.1), (11, s.2.2.2)]) (fun s => mkO []) (fun s => s.2.2.1 < 2 ^ s.1 ∧ s.1 ≤ 14 ∧ s.2.1 + pcN s.1 s.2.2.1 = pcN 14 x) (fun s => s.2.2.1) (14, 0, x, .junk) ⟨hlt, Nat.le_refl _, by simp⟩ rfl rfl ?_
  rintro ⟨f, c, y, c1⟩ ⟨hy, hf, he⟩ R hR hN
  simp only at hy hf he
  by_cases h : y = 0
  · have h1' : ¬ (y : Int) > 0 := by omega
    have hcc : c = pcN 14 x := by rw [← he, h, pcN_zero]; rfl
    simp only [h1', ↓SP, SQ, Gam.add, stepM, callC, argC, lendO, nmBy, nmC, likeL, likeB, plainOb, offs, exL, X, F, trP, trO, stepD, stepW, newA, SV.tr, SV.trL, fz, allP, Ob.tr, loadA, cellsA, SV.cells, binA, binI, eqOut, isSl, isPt, natOf, callee, snap, SV.refsL, SV.refs, thaw, fzAll, loA, hiA, elemOf, partsA, buildA, putCells, ↓reduceIte, reduceCtorEq, okCell, Nat.reduceAdd, Nat.reduceEqDiff, Nat.reduceSub, Nat.reduceMul, Nat.reduceLeDiff, Nat.reduceLT, Nat.reduceBEq, PV.scal, PV.scalL, SV.scal, SV.scalL, Ob.scal, PV.isCell, pure', resO]
    refine hR _ _ _ (by intro h; cases h) ?_
    simp only [↓SP, SQ, Gam.add, stepM, callC, argC, lendO, nmBy, nmC, likeL, likeB, plainOb, offs, exL, X, F, trP, trO, stepD, stepW, newA, SV.tr, SV.trL, fz, allP, Ob.tr, loadA, cellsA, SV.cells, binA, binI, eqOut, isSl, isPt, natOf, callee, snap, SV.refsL, SV.refs, thaw, fzAll, loA, hiA, elemOf, partsA, buildA, putCells, ↓reduceIte, reduceCtorEq, okCell, Nat.reduceAdd, Nat.reduceEqDiff, Nat.reduceSub, Nat.reduceMul, Nat.reduceLeDiff, Nat.reduceLT, Nat.reduceBEq, PV.scal, PV.scalL, SV.scal, SV.scalL, Ob.scal, PV.isCell, pure', resO]
    rw [hcc]
    exact finA_val (by simp [retA, rvA, mkE_cons, mk_nil, mkO_cons, mkO_nil, loadA, SV.tr, SV.trL, nmF, rn_nil, rn_cons1, rn_cons2, plainOb, SV.refsL, SV.refs, Ob.refs, X, F, List.range_succ, mkO, setO_mk]) (by simp [SV.tr, SV.trL])
  · have h1' : (y : Int) > 0 := by omega
    cases f with
    | zero => simp at hy; omega
    | succ f =>
      have hb := pcN_le (f + 1) y
      have hb2 := pcN_le 14 x
      have hand : andW .i64 (y : Int) 1 = ((y % 2 : Nat) : Int) := by
        have := andW_nat (a := y) (b := 1) (by have := pow14 hf; omega) (by omega)
        rwa [Nat.and_one_is_mod] at this
      have hdv : (y : Int).fdiv (2 ^ min (Int.toNat 1) IntKind.i64.bits) = ((y / 2 : Nat) : Int) := by
        show (y : Int).fdiv 2 = _
        rw [Int.fdiv_eq_ediv_of_nonneg _ (by omega)]; omega
      have hadd : IntKind.i64.wrap ((c : Int) + ((y % 2 : Nat) : Int)) = ((c + y % 2 : Nat) : Int) := by rw [wrap64 (by omega) (by omega)]; omega
      simp only [h1', bitA_and, hand, hadd, hdv, shfI, Int.reduceLT, ↓SP, SQ, Gam.add, stepM, callC, argC, lendO, nmBy, nmC, likeL, likeB, plainOb, offs, exL, X, F, trP, trO, stepD, stepW, newA, SV.tr, SV.trL, fz, allP, Ob.tr, loadA, cellsA, SV.cells, binA, binI, eqOut, isSl, isPt, natOf, callee, snap, SV.refsL, SV.refs, thaw, fzAll, loA, hiA, elemOf, partsA, buildA, putCells, ↓reduceIte, reduceCtorEq, okCell, Nat.reduceAdd, Nat.reduceEqDiff, Nat.reduceSub, Nat.reduceMul, Nat.reduceLeDiff, Nat.reduceLT, Nat.reduceBEq, PV.scal, PV.scalL, SV.scal, SV.scalL, Ob.scal, PV.isCell, pure', resO]
      refine hN (f, c + y % 2, y / 2, _) _ _ ⟨by simp only; rw [Nat.pow_succ] at hy; omega, by simp only; omega, ?_⟩ (by simp only; omega) rfl rfl
      simp only [pcN] at he ⊢
      omega
def a_OnesCount (f_OnesCount32 : FuncId) (f_OnesCount64 : FuncId) : AFn := ⟨1, 
  .seq (.reg [⟨some 2, none, .d (.mv (.c (.int .i64 0)))⟩])
  (.seq (.cond (.c (.bool false)) (.seq (.reg [⟨some 3, none, .d (.mv (.t 0))⟩,
     ⟨some 4, none, .d (.conv .u32 (.t 3))⟩,
     ⟨some 5, none, .d (.call (.f f_OnesCount32) [(.t 4)])⟩,
     ⟨some 2, none, .d (.mv (.t 5))⟩])
   (.ret)) (.skip))
  (.seq (.reg [⟨some 6, none, .d (.mv (.t 0))⟩,
    ⟨some 7, none, .d (.call (.f f_OnesCount64) [(.t 6)])⟩,
    ⟨some 2, none, .d (.mv (.t 7))⟩])
  (.ret))), [.tmp 2]⟩
def n_OnesCount : Nat → Option Ann := fun _ => none
abbrev k_OnesCount : List Nat := [0, 2]
abbrev o_OnesCount : List Nat := []
theorem s_OnesCount {P : Program} (hm : P.follows .mixedOrders = true) {Γ : Gam} (hΓ : GS P Γ) {n : FuncId} {f_OnesCount32 : FuncId} {f_OnesCount64 : FuncId} (is : Is P n (a_OnesCount f_OnesCount32 f_OnesCount64)) (h_OnesCount64 : Γ f_OnesCount64 = c_OnesCount64)  : Says P n c_OnesCount64 := by
  refine Says.pure fun args r fs h => ?_
  split at h
  case h_2 => cases h
  rename_i x
  split at h
  case isFalse => cases h
  rename_i hc
  simp only [Option.some.injEq, Prod.mk.injEq] at h
  obtain ⟨rfl, rfl⟩ := h
  refine is.go hm hΓ k_OnesCount o_OnesCount (by simp [a_OnesCount]) ?_
  simp only [a_OnesCount, h_OnesCount64, c_OnesCount64, hc, List.zipIdx_cons, List.zipIdx_nil, ↓SP, SQ, Gam.add, stepM, callC, argC, lendO, nmBy, nmC, likeL, likeB, plainOb, offs, exL, X, F, trP, trO, stepD, stepW, newA, SV.tr, SV.trL, fz, allP, Ob.tr, loadA, cellsA, SV.cells, binA, binI, eqOut, isSl, isPt, natOf, callee, snap, SV.refsL, SV.refs, thaw, fzAll, loA, hiA, elemOf, partsA, buildA, putCells, ↓reduceIte, reduceCtorEq, okCell, Nat.reduceAdd, Nat.reduceEqDiff, Nat.reduceSub, Nat.reduceMul, Nat.reduceLeDiff, Nat.reduceLT, Nat.reduceBEq, PV.scal, PV.scalL, SV.scal, SV.scalL, Ob.scal, PV.isCell, pure', resO]
  exact finA_val (by simp [retA, rvA, mkE_cons, mk_nil, mkO_cons, mkO_nil, loadA, SV.tr, SV.trL, nmF, rn_nil, rn_cons1, rn_cons2, plainOb, SV.refsL, SV.refs, Ob.refs, X, F, List.range_succ, mkO, setO_mk]) (by simp [SV.tr, SV.trL])
def a_apart (f_OnesCount : FuncId) : AFn := ⟨2, 
  .seq (.reg [⟨some 4, none, .d (.mv (.c (.int .i64 0)))⟩])
  (.seq (.reg [⟨some 5, none, .d (.mv (.t 0))⟩,
    ⟨some 6, none, .d (.mv (.t 1))⟩,
    ⟨some 7, none, .d (.bin .arith .xor (.t 5) (.t 6))⟩,
    ⟨some 8, none, .d (.conv .u64 (.t 7))⟩,
    ⟨some 9, none, .d (.call (.f f_OnesCount) [(.t 8)])⟩,
    ⟨some 4, none, .d (.mv (.t 9))⟩])
  (.ret)), [.tmp 4]⟩
def n_apart : Nat → Option Ann := fun _ => none
abbrev k_apart : List Nat := [0, 1, 4]
abbrev o_apart : List Nat := []
theorem s_apart {P : Program} (hm : P.follows .mixedOrders = true) {Γ : Gam} (hΓ : GS P Γ) {n : FuncId} {f_OnesCount : FuncId} (is : Is P n (a_apart f_OnesCount)) (h_OnesCount : Γ f_OnesCount = c_OnesCount64)  : Says P n c_l5Apart := by
  refine Says.pure fun args r fs h => ?_
  split at h
  case h_2 => cases h
  rename_i a b
  split at h
  case isFalse => cases h
  rename_i hc
  simp only [ofI_ints, ofBo_bools, ofAs_asks, Option.some.injEq, Prod.mk.injEq] at h hc
  obtain ⟨rfl, rfl⟩ := h
  obtain ⟨h0, h1, h2, h3⟩ := hc
  obtain ⟨a, rfl⟩ : ∃ j : Nat, a = j := ⟨a.toNat, by omega⟩
  obtain ⟨b, rfl⟩ : ∃ j : Nat, b = j := ⟨b.toNat, by omega⟩
  simp only [Int.toNat_natCast]
  have hx := xorW_nat (a := a) (b := b) (by omega) (by omega)
  have hlt : a ^^^ b < 2 ^ 14 := Nat.xor_lt_two_pow (by omega) (by omega)
  generalize a ^^^ b = x at *
  have g0 : (0 : Int) ≤ x := by omega
  have g1 : (x : Int) < 16384 := by omega
  have g2 : IntKind.u64.wrap (x : Int) = (x : Int) := by
    show ((x : Int) % 2 ^ 64) = x
    omega
  refine is.go hm hΓ k_apart o_apart (by simp [a_apart]) ?_
  simp only [a_apart, h_OnesCount, c_OnesCount64, bitA_xor, hx, g0, g1, g2, Int.toNat_natCast, List.zipIdx_cons, List.zipIdx_nil, ↓SP, SQ, Gam.add, stepM, callC, argC, lendO, nmBy, nmC, likeL, likeB, plainOb, offs, exL, X, F, trP, trO, stepD, stepW, newA, SV.tr, SV.trL, fz, allP, Ob.tr, loadA, cellsA, SV.cells, binA, binI, eqOut, isSl, isPt, natOf, callee, snap, SV.refsL, SV.refs, thaw, fzAll, loA, hiA, elemOf, partsA, buildA, putCells, ↓reduceIte, reduceCtorEq, okCell, Nat.reduceAdd, Nat.reduceEqDiff, Nat.reduceSub, Nat.reduceMul, Nat.reduceLeDiff, Nat.reduceLT, Nat.reduceBEq, PV.scal, PV.scalL, SV.scal, SV.scalL, Ob.scal, PV.isCell, pure', resO]
  exact finA_val (by simp [retA, rvA, mkE_cons, mk_nil, mkO_cons, mkO_nil, loadA, SV.tr, SV.trL, nmF, rn_nil, rn_cons1, rn_cons2, plainOb, SV.refsL, SV.refs, Ob.refs, X, F, List.range_succ, mkO, setO_mk]) (by simp [SV.tr, SV.trL])
/-- How far the i-th word and the j-th lie apart. -/
def apD (w : List Int) (i j : Nat) : Int := (pcN 14 ((w.getD i 0).toNat ^^^ (w.getD j 0).toNat) : Int)
def gI (w : List Int) (i : Nat) (g : Int) : Nat → Int
  | 0 => g
  | j + 1 => if i = 1 ∨ apD w i j < gI w i g j then apD w i j else gI w i g j
def gO (w : List Int) : Nat → Int
  | 0 => 0
  | i + 1 => gI w i (gO w i) i
def fitW (w : List Int) : Prop := ∀ x ∈ w, 0 ≤ x ∧ x < 16384
instance (p : List Int) : Decidable (fitW p) := inferInstanceAs (Decidable (∀ x ∈ p, 0 ≤ x ∧ x < 16384))
theorem fitW_get {w : List Int} (h : fitW w) {i : Nat} (hi : i < w.length) : 0 ≤ w.getD i 0 ∧ w.getD i 0 < 16384 := h (w.getD i 0) (by rw [getD_lt hi]; exact List.getElem_mem hi)
def a_l5Gap (f_l5Apart : FuncId) : AFn := ⟨1, 
  .seq (.reg [⟨some 2, none, .d (.mv (.c (.int .i64 0)))⟩])
  (.seq (.reg [⟨some 3, none, .d (.mv (.c (.int .i64 0)))⟩])
  (.seq (.seq (.reg [⟨some 4, none, .d (.mv (.c (.int .i64 0)))⟩])
  (.block 0 (.loop (.seq (.seq (.reg [⟨some 7, none, .d (.mv (.t 4))⟩,
      ⟨some 8, none, .d (.mv (.t 0))⟩,
      ⟨some 9, none, .d (.len (.t 8))⟩,
      ⟨some 10, none, .d (.bin .arith .lss (.t 7) (.t 9))⟩])
    (.cond (.t 10) (.skip) (.exit 0)))
    (.seq (.block 1 (.seq (.reg [⟨some 5, none, .d (.mv (.c (.int .i64 0)))⟩])
     (.block 2 (.loop (.seq (.seq (.reg [⟨some 13, none, .d (.mv (.t 5))⟩,
         ⟨some 14, none, .d (.mv (.t 4))⟩,
         ⟨some 15, none, .d (.bin .arith .lss (.t 13) (.t 14))⟩])
       (.cond (.t 15) (.skip) (.exit 2)))
       (.seq (.block 3 (.seq (.dreg [] [([], ⟨some 18, none, .d (.mv (.t 0))⟩),
          ([], ⟨some 19, none, .d (.mv (.t 4))⟩),
          ([], ⟨some 20, none, .d (.ia 1 (.t 18) (.t 19))⟩),
          ([], ⟨some 21, none, .d (.load false 1 (.t 20))⟩),
          ([], ⟨some 22, none, .d (.mv (.t 0))⟩),
          ([], ⟨some 23, none, .d (.mv (.t 5))⟩),
          ([], ⟨some 24, none, .d (.ia 1 (.t 22) (.t 23))⟩),
          ([], ⟨some 25, none, .d (.load false 1 (.t 24))⟩)] [⟨some 26, none, .d (.call (.f f_l5Apart) [(.t 21), (.t 25)])⟩,
          ⟨some 6, none, .d (.mv (.t 26))⟩])
        (.seq (.reg [⟨some 27, none, .d (.mv (.t 4))⟩,
          ⟨some 28, none, .d (.bin .arith .eql (.t 27) (.c (.int .i64 1)))⟩,
          ⟨some 29, none, .d (.mv (.t 28))⟩,
          ⟨some 30, some (29, true), .d (.mv (.t 5))⟩,
          ⟨some 31, some (29, true), .d (.bin .arith .eql (.t 30) (.c (.int .i64 0)))⟩,
          ⟨some 32, none, .d (.pick (.t 29) (.t 31) (.c (.bool false)))⟩,
          ⟨some 33, none, .d (.mv (.t 32))⟩,
          ⟨some 34, some (33, false), .d (.mv (.t 6))⟩,
          ⟨some 35, some (33, false), .d (.mv (.t 3))⟩,
          ⟨some 36, some (33, false), .d (.bin .arith .lss (.t 34) (.t 35))⟩,
          ⟨some 37, none, .d (.pick (.t 33) (.c (.bool true)) (.t 36))⟩])
        (.cond (.t 37) (.reg [⟨some 38, none, .d (.mv (.t 6))⟩,
           ⟨some 3, none, .d (.mv (.t 38))⟩]) (.skip)))))
       (.reg [⟨some 16, none, .d (.mv (.t 5))⟩,
         ⟨some 17, none, .d (.bin .arith .add (.t 16) (.c (.int .i64 1)))⟩,
         ⟨some 5, none, .d (.mv (.t 17))⟩])))))))
    (.reg [⟨some 11, none, .d (.mv (.t 4))⟩,
      ⟨some 12, none, .d (.bin .arith .add (.t 11) (.c (.int .i64 1)))⟩,
      ⟨some 4, none, .d (.mv (.t 12))⟩]))))))
  (.seq (.reg [⟨some 39, none, .d (.mv (.t 3))⟩,
    ⟨some 2, none, .d (.mv (.t 39))⟩])
  (.ret)))), [.tmp 2]⟩
def n_l5Gap : Nat → Option Ann := fun _ => none
abbrev k_l5Gap : List Nat := [0, 2, 3, 4, 5, 6, 10, 15, 37]
abbrev o_l5Gap : List Nat := []
def c_l5Gap : Con := pure' fun
  | [.p (.sl 1 w_)] => if isI w_ = true ∧ ((ofI w_).length ≤ 4096 ∧ fitW (ofI w_)) then some (.p (.int .i64 (gO (ofI w_) (ofI w_).length)), []) else none
  | _ => none
theorem s_l5Gap {P : Program} (hm : P.follows .mixedOrders = true) {Γ : Gam} (hΓ : GS P Γ) {n : FuncId} {f_l5Apart : FuncId} (is : Is P n (a_l5Gap f_l5Apart)) (h_l5Apart : Γ f_l5Apart = c_l5Apart)  : Says P n c_l5Gap := by
  refine Says.pure fun args r fs h => ?_
  split at h
  case h_2 => cases h
  rename_i w_
  split at h
  case isFalse => cases h
  rename_i hc
  obtain ⟨hw_, hc⟩ := hc
  obtain ⟨w, rfl⟩ := isI_out hw_
  simp only [ofI_ints, ofBo_bools, ofAs_asks, Option.some.injEq, Prod.mk.injEq] at h hc
  obtain ⟨rfl, rfl⟩ := h
  obtain ⟨hl, hf⟩ := hc
  refine is.go hm hΓ k_l5Gap o_l5Gap (by simp [a_l5Gap]) ?_
  simp only [a_l5Gap, h_l5Apart, c_l5Apart, List.zipIdx_cons, List.zipIdx_nil, ↓SP, SQ, Gam.add, stepM, callC, argC, lendO, nmBy, nmC, likeL, likeB, plainOb, offs, exL, X, F, trP, trO, stepD, stepW, newA, SV.tr, SV.trL, fz, allP, Ob.tr, loadA, cellsA, SV.cells, binA, binI, eqOut, isSl, isPt, natOf, callee, snap, SV.refsL, SV.refs, thaw, fzAll, loA, hiA, elemOf, partsA, buildA, putCells, ↓reduceIte, reduceCtorEq, okCell, Nat.reduceAdd, Nat.reduceEqDiff, Nat.reduceSub, Nat.reduceMul, Nat.reduceLeDiff, Nat.reduceLT, Nat.reduceBEq, PV.scal, PV.scalL, SV.scal, SV.scalL, Ob.scal, PV.isCell, pure', resO]
  refine loop_at (fun s : Nat × SV × SV × SV × SV × SV => mkEnv [(0, .p (.sl 1 (ints w))), (2, si 0), (3, si (gO w s.1)), (4, si s.1), (5, s.2.1), (6, s.2.2.1), (10, s.2.2.2.1), (15, s.2.2.2.2.1), (37, s.2.2.2.2.2)]) (fun s => mkO []) (fun s => s.1 ≤ w.length) (fun s => w.length - s.1) (0, .junk, .junk, .junk, .junk, .junk) (by simp) rfl rfl ?_
  rintro ⟨i, c1, c2, c3, c4, c5⟩ hi R hR hN
  simp only at hi
  by_cases h : i < w.length
  · have h1 : (i : Int) < w.length := by omega
    have hw := wrap_one (i := i) (by omega)
    have hgi := ints_get h
    have hfi := fitW_get hf h
    simp only [h1, ↓SP, SQ, Gam.add, stepM, callC, argC, lendO, nmBy, nmC, likeL, likeB, plainOb, offs, exL, X, F, trP, trO, stepD, stepW, newA, SV.tr, SV.trL, fz, allP, Ob.tr, loadA, cellsA, SV.cells, binA, binI, eqOut, isSl, isPt, natOf, callee, snap, SV.refsL, SV.refs, thaw, fzAll, loA, hiA, elemOf, partsA, buildA, putCells, ↓reduceIte, reduceCtorEq, okCell, Nat.reduceAdd, Nat.reduceEqDiff, Nat.reduceSub, Nat.reduceMul, Nat.reduceLeDiff, Nat.reduceLT, Nat.reduceBEq, PV.scal, PV.scalL, SV.scal, SV.scalL, Ob.scal, PV.isCell, pure', resO]
    refine loop_at (fun s : Nat × SV × SV × SV => mkEnv [(0, .p (.sl 1 (ints w))), (2, si 0), (3, si (gI w i (gO w i) s.1)), (4, si i), (5, si s.1), (6, s.2.1), (10, .p (.bool true)), (15, s.2.2.1), (37, s.2.2.2)]) (fun s => mkO []) (fun s => s.1 ≤ i) (fun s => i - s.1) (0, c2, c4, c5) (by simp) rfl rfl ?_
    rintro ⟨j, d1, d2, d3⟩ hj R' hR' hN'
    simp only at hj
    by_cases hji : j < i
    · have g1 : (j : Int) < i := by omega
      have hwj := wrap_one (i := j) (by omega)
      have hgj := ints_get (l := w) (i := j) (by omega)
      have hfj := fitW_get hf (i := j) (by omega)
      have hap : (pcN 14 ((w.getD i 0).toNat ^^^ (w.getD j 0).toNat) : Int) = apD w i j := rfl
      by_cases hi1 : i = 1
      · have e1 : ((i : Int) == 1) = true := beq_iff_eq.2 (by omega)
        have e2 : ((j : Int) == 0) = true := beq_iff_eq.2 (by omega)
        have hnx : gI w i (gO w i) (j + 1) = apD w i j := by simp only [gI, hi1, true_or, if_true]
        simp only [g1, hwj, hgi, hgj, hfi.1, hfi.2, hfj.1, hfj.2, hap, e1, e2, h_l5Apart, c_l5Apart, ↓SP, SQ, Gam.add, stepM, callC, argC, lendO, nmBy, nmC, likeL, likeB, plainOb, offs, exL, X, F, trP, trO, stepD, stepW, newA, SV.tr, SV.trL, fz, allP, Ob.tr, loadA, cellsA, SV.cells, binA, binI, eqOut, isSl, isPt, natOf, callee, snap, SV.refsL, SV.refs, thaw, fzAll, loA, hiA, elemOf, partsA, buildA, putCells, ↓reduceIte, reduceCtorEq, okCell, Nat.reduceAdd, Nat.reduceEqDiff, Nat.reduceSub, Nat.reduceMul, Nat.reduceLeDiff, Nat.reduceLT, Nat.reduceBEq, PV.scal, PV.scalL, SV.scal, SV.scalL, Ob.scal, PV.isCell, pure', resO]
        exact hN' (j + 1, _, _, _) _ _ (by simp only; omega) (by simp only; omega) (by rw [hnx]) rfl
      · have e1 : ((i : Int) == 1) = false := beq_eq_false_iff_ne.2 (by omega)
        by_cases hlt : apD w i j < gI w i (gO w i) j
        · have hnx : gI w i (gO w i) (j + 1) = apD w i j := by simp only [gI, hlt, or_true, if_true]
          simp only [g1, hwj, hgi, hgj, hfi.1, hfi.2, hfj.1, hfj.2, hap, e1, hlt, h_l5Apart, c_l5Apart, ↓SP, SQ, Gam.add, stepM, callC, argC, lendO, nmBy, nmC, likeL, likeB, plainOb, offs, exL, X, F, trP, trO, stepD, stepW, newA, SV.tr, SV.trL, fz, allP, Ob.tr, loadA, cellsA, SV.cells, binA, binI, eqOut, isSl, isPt, natOf, callee, snap, SV.refsL, SV.refs, thaw, fzAll, loA, hiA, elemOf, partsA, buildA, putCells, ↓reduceIte, reduceCtorEq, okCell, Nat.reduceAdd, Nat.reduceEqDiff, Nat.reduceSub, Nat.reduceMul, Nat.reduceLeDiff, Nat.reduceLT, Nat.reduceBEq, PV.scal, PV.scalL, SV.scal, SV.scalL, Ob.scal, PV.isCell, pure', resO]
          exact hN' (j + 1, _, _, _) _ _ (by simp only; omega) (by simp only; omega) (by rw [hnx]) rfl
        · have hnx : gI w i (gO w i) (j + 1) = gI w i (gO w i) j := by simp only [gI, hi1, hlt, or_self, if_false]
          simp only [g1, hwj, hgi, hgj, hfi.1, hfi.2, hfj.1, hfj.2, hap, e1, hlt, h_l5Apart, c_l5Apart, ↓SP, SQ, Gam.add, stepM, callC, argC, lendO, nmBy, nmC, likeL, likeB, plainOb, offs, exL, X, F, trP, trO, stepD, stepW, newA, SV.tr, SV.trL, fz, allP, Ob.tr, loadA, cellsA, SV.cells, binA, binI, eqOut, isSl, isPt, natOf, callee, snap, SV.refsL, SV.refs, thaw, fzAll, loA, hiA, elemOf, partsA, buildA, putCells, ↓reduceIte, reduceCtorEq, okCell, Nat.reduceAdd, Nat.reduceEqDiff, Nat.reduceSub, Nat.reduceMul, Nat.reduceLeDiff, Nat.reduceLT, Nat.reduceBEq, PV.scal, PV.scalL, SV.scal, SV.scalL, Ob.scal, PV.isCell, pure', resO]
          exact hN' (j + 1, _, _, _) _ _ (by simp only; omega) (by simp only; omega) (by rw [hnx]) rfl
    · have he : j = i := by omega
      have g1 : ¬ (j : Int) < i := by omega
      simp only [g1, ↓SP, SQ, Gam.add, stepM, callC, argC, lendO, nmBy, nmC, likeL, likeB, plainOb, offs, exL, X, F, trP, trO, stepD, stepW, newA, SV.tr, SV.trL, fz, allP, Ob.tr, loadA, cellsA, SV.cells, binA, binI, eqOut, isSl, isPt, natOf, callee, snap, SV.refsL, SV.refs, thaw, fzAll, loA, hiA, elemOf, partsA, buildA, putCells, ↓reduceIte, reduceCtorEq, okCell, Nat.reduceAdd, Nat.reduceEqDiff, Nat.reduceSub, Nat.reduceMul, Nat.reduceLeDiff, Nat.reduceLT, Nat.reduceBEq, PV.scal, PV.scalL, SV.scal, SV.scalL, Ob.scal, PV.isCell, pure', resO]
      refine hR' _ _ _ (by intro h; cases h) ?_
      simp only [hw, ↓SP, SQ, Gam.add, stepM, callC, argC, lendO, nmBy, nmC, likeL, likeB, plainOb, offs, exL, X, F, trP, trO, stepD, stepW, newA, SV.tr, SV.trL, fz, allP, Ob.tr, loadA, cellsA, SV.cells, binA, binI, eqOut, isSl, isPt, natOf, callee, snap, SV.refsL, SV.refs, thaw, fzAll, loA, hiA, elemOf, partsA, buildA, putCells, ↓reduceIte, reduceCtorEq, okCell, Nat.reduceAdd, Nat.reduceEqDiff, Nat.reduceSub, Nat.reduceMul, Nat.reduceLeDiff, Nat.reduceLT, Nat.reduceBEq, PV.scal, PV.scalL, SV.scal, SV.scalL, Ob.scal, PV.isCell, pure', resO]
      rw [he]
      exact hN (i + 1, _, _, _, _, _) _ _ (by simp only; omega) (by simp only; omega) rfl rfl
  · have he : i = w.length := by omega
    have h1 : ¬ (i : Int) < w.length := by omega
    simp only [h1, ↓SP, SQ, Gam.add, stepM, callC, argC, lendO, nmBy, nmC, likeL, likeB, plainOb, offs, exL, X, F, trP, trO, stepD, stepW, newA, SV.tr, SV.trL, fz, allP, Ob.tr, loadA, cellsA, SV.cells, binA, binI, eqOut, isSl, isPt, natOf, callee, snap, SV.refsL, SV.refs, thaw, fzAll, loA, hiA, elemOf, partsA, buildA, putCells, ↓reduceIte, reduceCtorEq, okCell, Nat.reduceAdd, Nat.reduceEqDiff, Nat.reduceSub, Nat.reduceMul, Nat.reduceLeDiff, Nat.reduceLT, Nat.reduceBEq, PV.scal, PV.scalL, SV.scal, SV.scalL, Ob.scal, PV.isCell, pure', resO]
    refine hR _ _ _ (by intro h; cases h) ?_
    simp only [↓SP, SQ, Gam.add, stepM, callC, argC, lendO, nmBy, nmC, likeL, likeB, plainOb, offs, exL, X, F, trP, trO, stepD, stepW, newA, SV.tr, SV.trL, fz, allP, Ob.tr, loadA, cellsA, SV.cells, binA, binI, eqOut, isSl, isPt, natOf, callee, snap, SV.refsL, SV.refs, thaw, fzAll, loA, hiA, elemOf, partsA, buildA, putCells, ↓reduceIte, reduceCtorEq, okCell, Nat.reduceAdd, Nat.reduceEqDiff, Nat.reduceSub, Nat.reduceMul, Nat.reduceLeDiff, Nat.reduceLT, Nat.reduceBEq, PV.scal, PV.scalL, SV.scal, SV.scalL, Ob.scal, PV.isCell, pure', resO]
    subst he
    exact finA_val (by simp [retA, rvA, mkE_cons, mk_nil, mkO_cons, mkO_nil, loadA, SV.tr, SV.trL, nmF, rn_nil, rn_cons1, rn_cons2, plainOb, SV.refsL, SV.refs, Ob.refs, X, F, List.range_succ, mkO, setO_mk]) (by simp [SV.tr, SV.trL])
theorem wdL_fit (l : List Int) (n : Nat) (h : l.length ≤ 14) : fitW (wdL l n) := by
  intro x hx
  simp only [wdL, List.mem_map, List.mem_range] at hx
  obtain ⟨j, hj, rfl⟩ := hx
  have := wdN_lt l j l.length
  have := pow14 h
  omega
def a_gap (f_trueWords : FuncId) (f_apart : FuncId) : AFn := ⟨2, 
  .seq (.reg [⟨some 4, none, .d (.mv (.c (.int .i64 0)))⟩])
  (.seq (.reg [⟨some 12, none, .d (.mv (.t 0))⟩,
    ⟨some 13, none, .d (.mv (.t 1))⟩,
    ⟨some 14, none, .d (.call (.f f_trueWords) [(.t 12), (.t 13)])⟩,
    ⟨some 5, none, .d (.mv (.c (.int .i64 0)))⟩,
    ⟨some 6, none, .d (.mv (.t 14))⟩])
  (.seq (.seq (.reg [⟨some 15, none, .d (.mv (.t 6))⟩,
    ⟨some 16, none, .d (.len (.t 15))⟩,
    ⟨some 17, none, .d (.mv (.c (.int .i64 0)))⟩])
  (.block 0 (.loop (.seq (.reg [⟨some 18, none, .d (.bin .arith .lss (.t 17) (.t 16))⟩])
    (.seq (.cond (.t 18) (.skip) (.exit 0))
    (.seq (.block 1 (.seq (.reg [⟨some 19, none, .d (.mv (.t 17))⟩,
       ⟨some 20, none, .d (.ia 1 (.t 15) (.t 17))⟩,
       ⟨some 21, none, .d (.load false 1 (.t 20))⟩,
       ⟨some 7, none, .d (.mv (.t 19))⟩,
       ⟨some 8, none, .d (.mv (.t 21))⟩])
     (.seq (.reg [⟨some 22, none, .d (.mv (.t 6))⟩,
       ⟨some 23, none, .d (.mv (.t 7))⟩,
       ⟨some 24, none, .d (.slc 1 (.t 22) none (some (.t 23)))⟩,
       ⟨some 25, none, .d (.len (.t 24))⟩,
       ⟨some 26, none, .d (.mv (.c (.int .i64 0)))⟩])
     (.block 2 (.loop (.seq (.reg [⟨some 27, none, .d (.bin .arith .lss (.t 26) (.t 25))⟩])
       (.seq (.cond (.t 27) (.skip) (.exit 2))
       (.seq (.block 3 (.seq (.reg [⟨some 28, none, .d (.mv (.t 26))⟩,
          ⟨some 29, none, .d (.ia 1 (.t 24) (.t 26))⟩,
          ⟨some 30, none, .d (.load false 1 (.t 29))⟩,
          ⟨some 9, none, .d (.mv (.t 28))⟩,
          ⟨some 10, none, .d (.mv (.t 30))⟩])
        (.seq (.reg [⟨some 31, none, .d (.mv (.t 8))⟩,
          ⟨some 32, none, .d (.mv (.t 10))⟩,
          ⟨some 33, none, .d (.call (.f f_apart) [(.t 31), (.t 32)])⟩,
          ⟨some 11, none, .d (.mv (.t 33))⟩])
        (.seq (.reg [⟨some 34, none, .d (.mv (.t 7))⟩,
          ⟨some 35, none, .d (.bin .arith .eql (.t 34) (.c (.int .i64 1)))⟩,
          ⟨some 36, none, .d (.mv (.t 35))⟩,
          ⟨some 37, some (36, true), .d (.mv (.t 9))⟩,
          ⟨some 38, some (36, true), .d (.bin .arith .eql (.t 37) (.c (.int .i64 0)))⟩,
          ⟨some 39, none, .d (.pick (.t 36) (.t 38) (.c (.bool false)))⟩,
          ⟨some 40, none, .d (.mv (.t 39))⟩,
          ⟨some 41, some (40, false), .d (.mv (.t 11))⟩,
          ⟨some 42, some (40, false), .d (.mv (.t 5))⟩,
          ⟨some 43, some (40, false), .d (.bin .arith .lss (.t 41) (.t 42))⟩,
          ⟨some 44, none, .d (.pick (.t 40) (.c (.bool true)) (.t 43))⟩])
        (.cond (.t 44) (.reg [⟨some 45, none, .d (.mv (.t 11))⟩,
           ⟨some 5, none, .d (.mv (.t 45))⟩]) (.skip))))))
       (.reg [⟨some 46, none, .d (.bin .arith .add (.t 26) (.c (.int .i64 1)))⟩,
         ⟨some 26, none, .d (.mv (.t 46))⟩])))))))))
    (.reg [⟨some 47, none, .d (.bin .arith .add (.t 17) (.c (.int .i64 1)))⟩,
      ⟨some 17, none, .d (.mv (.t 47))⟩])))))))
  (.seq (.reg [⟨some 48, none, .d (.mv (.t 5))⟩,
    ⟨some 4, none, .d (.mv (.t 48))⟩])
  (.ret)))), [.tmp 4]⟩
def n_gap : Nat → Option Ann := fun _ => none
abbrev k_gap : List Nat := [0, 1, 4, 5, 6, 7, 8, 9, 10, 11, 15, 16, 17, 18, 24, 25, 26, 27, 44]
abbrev o_gap : List Nat := []
def c_gap : Con := pure' fun
  | [.p (.int .i64 n), .p (.sl 1 l_)] => if isI l_ = true ∧ ((ofI l_).length ≤ 14 ∧ 0 ≤ n ∧ n ≤ 12) then some (.p (.int .i64 (gO (wdL (ofI l_) n.toNat) n.toNat)), []) else none
  | _ => none
theorem s_gap {P : Program} (hm : P.follows .mixedOrders = true) {Γ : Gam} (hΓ : GS P Γ) {n : FuncId} {f_trueWords : FuncId} {f_apart : FuncId} (is : Is P n (a_gap f_trueWords f_apart)) (h_trueWords : Γ f_trueWords = c_trueWords) (h_apart : Γ f_apart = c_l5Apart)  : Says P n c_gap := by
  refine Says.pure fun args r fs h => ?_
  split at h
  case h_2 => cases h
  rename_i n l_
  split at h
  case isFalse => cases h
  rename_i hc
  obtain ⟨hl_, hc⟩ := hc
  obtain ⟨l, rfl⟩ := isI_out hl_
  simp only [ofI_ints, ofBo_bools, ofAs_asks, Option.some.injEq, Prod.mk.injEq] at h hc
  obtain ⟨rfl, rfl⟩ := h
  obtain ⟨hl, h0, h12⟩ := hc
  have hwl := wdL_len l n.toNat
  have hf := wdL_fit l n.toNat hl
  generalize hgw : wdL l n.toNat = w at *
  have hn : n.toNat = w.length := hwl.symm
  have hgw2 : wdL l w.length = w := by rw [← hn]; exact hgw
  rw [hn]
  refine is.go hm hΓ k_gap o_gap (by simp [a_gap]) ?_
  simp only [a_gap, h_trueWords, c_trueWords, h_apart, c_l5Apart, hl, h0, h12, hn, hgw2, List.zipIdx_cons, List.zipIdx_nil, ↓SP, SQ, Gam.add, stepM, callC, argC, lendO, nmBy, nmC, likeL, likeB, plainOb, offs, exL, X, F, trP, trO, stepD, stepW, newA, SV.tr, SV.trL, fz, allP, Ob.tr, loadA, cellsA, SV.cells, binA, binI, eqOut, isSl, isPt, natOf, callee, snap, SV.refsL, SV.refs, thaw, fzAll, loA, hiA, elemOf, partsA, buildA, putCells, ↓reduceIte, reduceCtorEq, okCell, Nat.reduceAdd, Nat.reduceEqDiff, Nat.reduceSub, Nat.reduceMul, Nat.reduceLeDiff, Nat.reduceLT, Nat.reduceBEq, PV.scal, PV.scalL, SV.scal, SV.scalL, Ob.scal, PV.isCell, pure', resO]
  refine loop_at (fun s : Nat × SV × SV × SV × SV × SV × SV × SV × SV × SV × SV × SV => mkEnv [(0, si n), (1, .p (.sl 1 (ints l))), (4, si 0), (5, si (gO w s.1)), (6, .p (.sl 1 (ints w))), (7, s.2.1), (8, s.2.2.1), (9, s.2.2.2.1), (10, s.2.2.2.2.1), (11, s.2.2.2.2.2.1), (15, .p (.sl 1 (ints w))), (16, si w.length), (17, si s.1), (18, s.2.2.2.2.2.2.1), (24, s.2.2.2.2.2.2.2.1), (25, s.2.2.2.2.2.2.2.2.1), (26, s.2.2.2.2.2.2.2.2.2.1), (27, s.2.2.2.2.2.2.2.2.2.2.1), (44, s.2.2.2.2.2.2.2.2.2.2.2)]) (fun s => mkO []) (fun s => s.1 ≤ w.length) (fun s => w.length - s.1) (0, .junk, .junk, .junk, .junk, .junk, .junk, .junk, .junk, .junk, .junk, .junk) (by simp) rfl rfl ?_
  rintro ⟨i, c1, c2, c3, c4, c5, c6, c7, c8, c9, c10, c11⟩ hi R hR hN
  simp only at hi
  by_cases h : i < w.length
  · have h1 : (i : Int) < w.length := by omega
    have hw := wrap_one (i := i) (by omega)
    have hgi := ints_get h
    have hfi := fitW_get hf h
    have hil : i ≤ w.length := by omega
    have hmn : min i w.length = i := by omega
    simp only [h1, hgi, hil, ints_len, ints_take, List.length_take, Nat.sub_zero, hmn, ↓SP, SQ, Gam.add, stepM, callC, argC, lendO, nmBy, nmC, likeL, likeB, plainOb, offs, exL, X, F, trP, trO, stepD, stepW, newA, SV.tr, SV.trL, fz, allP, Ob.tr, loadA, cellsA, SV.cells, binA, binI, eqOut, isSl, isPt, natOf, callee, snap, SV.refsL, SV.refs, thaw, fzAll, loA, hiA, elemOf, partsA, buildA, putCells, ↓reduceIte, reduceCtorEq, okCell, Nat.reduceAdd, Nat.reduceEqDiff, Nat.reduceSub, Nat.reduceMul, Nat.reduceLeDiff, Nat.reduceLT, Nat.reduceBEq, PV.scal, PV.scalL, SV.scal, SV.scalL, Ob.scal, PV.isCell, pure', resO]
    refine loop_at (fun s : Nat × SV × SV × SV × SV × SV => mkEnv [(0, si n), (1, .p (.sl 1 (ints l))), (4, si 0), (5, si (gI w i (gO w i) s.1)), (6, .p (.sl 1 (ints w))), (7, si i), (8, si (w.getD i 0)), (9, s.2.1), (10, s.2.2.1), (11, s.2.2.2.1), (15, .p (.sl 1 (ints w))), (16, si w.length), (17, si i), (18, .p (.bool true)), (24, .p (.sl 1 (ints (w.take i)))), (25, si i), (26, si s.1), (27, s.2.2.2.2.1), (44, s.2.2.2.2.2)]) (fun s => mkO []) (fun s => s.1 ≤ i) (fun s => i - s.1) (0, c3, c4, c5, c10, c11) (by simp) rfl rfl ?_
    rintro ⟨j, d1, d2, d3, d4, d5⟩ hj R' hR' hN'
    simp only at hj
    by_cases hji : j < i
    · have g1 : (j : Int) < i := by omega
      have hwj := wrap_one (i := j) (by omega)
      have hgj : (ints (w.take i))[j]? = some (.int .i64 (w.getD j 0)) := by
        rw [ints_get (by rw [List.length_take]; omega), getD_lt (by rw [List.length_take]; omega), getD_lt (show j < w.length by omega)]; simp
      have hfj := fitW_get hf (i := j) (by omega)
      have hap : (pcN 14 ((w.getD i 0).toNat ^^^ (w.getD j 0).toNat) : Int) = apD w i j := rfl
      by_cases hi1 : i = 1
      · have e1 : ((i : Int) == 1) = true := beq_iff_eq.2 (by omega)
        have e2 : ((j : Int) == 0) = true := beq_iff_eq.2 (by omega)
        have hnx : gI w i (gO w i) (j + 1) = apD w i j := by simp only [gI, hi1, true_or, if_true]
        simp only [g1, hwj, hgj, hfi.1, hfi.2, hfj.1, hfj.2, hap, e1, e2, h_apart, c_l5Apart, ↓SP, SQ, Gam.add, stepM, callC, argC, lendO, nmBy, nmC, likeL, likeB, plainOb, offs, exL, X, F, trP, trO, stepD, stepW, newA, SV.tr, SV.trL, fz, allP, Ob.tr, loadA, cellsA, SV.cells, binA, binI, eqOut, isSl, isPt, natOf, callee, snap, SV.refsL, SV.refs, thaw, fzAll, loA, hiA, elemOf, partsA, buildA, putCells, ↓reduceIte, reduceCtorEq, okCell, Nat.reduceAdd, Nat.reduceEqDiff, Nat.reduceSub, Nat.reduceMul, Nat.reduceLeDiff, Nat.reduceLT, Nat.reduceBEq, PV.scal, PV.scalL, SV.scal, SV.scalL, Ob.scal, PV.isCell, pure', resO]
        exact hN' (j + 1, _, _, _, _, _) _ _ (by simp only; omega) (by simp only; omega) (by rw [hnx]) rfl
      · have e1 : ((i : Int) == 1) = false := beq_eq_false_iff_ne.2 (by omega)
        by_cases hlt : apD w i j < gI w i (gO w i) j
        · have hnx : gI w i (gO w i) (j + 1) = apD w i j := by simp only [gI, hlt, or_true, if_true]
          simp only [g1, hwj, hgj, hfi.1, hfi.2, hfj.1, hfj.2, hap, e1, hlt, h_apart, c_l5Apart, ↓SP, SQ, Gam.add, stepM, callC, argC, lendO, nmBy, nmC, likeL, likeB, plainOb, offs, exL, X, F, trP, trO, stepD, stepW, newA, SV.tr, SV.trL, fz, allP, Ob.tr, loadA, cellsA, SV.cells, binA, binI, eqOut, isSl, isPt, natOf, callee, snap, SV.refsL, SV.refs, thaw, fzAll, loA, hiA, elemOf, partsA, buildA, putCells, ↓reduceIte, reduceCtorEq, okCell, Nat.reduceAdd, Nat.reduceEqDiff, Nat.reduceSub, Nat.reduceMul, Nat.reduceLeDiff, Nat.reduceLT, Nat.reduceBEq, PV.scal, PV.scalL, SV.scal, SV.scalL, Ob.scal, PV.isCell, pure', resO]
          exact hN' (j + 1, _, _, _, _, _) _ _ (by simp only; omega) (by simp only; omega) (by rw [hnx]) rfl
        · have hnx : gI w i (gO w i) (j + 1) = gI w i (gO w i) j := by simp only [gI, hi1, hlt, or_self, if_false]
          simp only [g1, hwj, hgj, hfi.1, hfi.2, hfj.1, hfj.2, hap, e1, hlt, h_apart, c_l5Apart, ↓SP, SQ, Gam.add, stepM, callC, argC, lendO, nmBy, nmC, likeL, likeB, plainOb, offs, exL, X, F, trP, trO, stepD, stepW, newA, SV.tr, SV.trL, fz, allP, Ob.tr, loadA, cellsA, SV.cells, binA, binI, eqOut, isSl, isPt, natOf, callee, snap, SV.refsL, SV.refs, thaw, fzAll, loA, hiA, elemOf, partsA, buildA, putCells, ↓reduceIte, reduceCtorEq, okCell, Nat.reduceAdd, Nat.reduceEqDiff, Nat.reduceSub, Nat.reduceMul, Nat.reduceLeDiff, Nat.reduceLT, Nat.reduceBEq, PV.scal, PV.scalL, SV.scal, SV.scalL, Ob.scal, PV.isCell, pure', resO]
          exact hN' (j + 1, _, _, _, _, _) _ _ (by simp only; omega) (by simp only; omega) (by rw [hnx]) rfl
    · have he : j = i := by omega
      have g1 : ¬ (j : Int) < i := by omega
      simp only [g1, ↓SP, SQ, Gam.add, stepM, callC, argC, lendO, nmBy, nmC, likeL, likeB, plainOb, offs, exL, X, F, trP, trO, stepD, stepW, newA, SV.tr, SV.trL, fz, allP, Ob.tr, loadA, cellsA, SV.cells, binA, binI, eqOut, isSl, isPt, natOf, callee, snap, SV.refsL, SV.refs, thaw, fzAll, loA, hiA, elemOf, partsA, buildA, putCells, ↓reduceIte, reduceCtorEq, okCell, Nat.reduceAdd, Nat.reduceEqDiff, Nat.reduceSub, Nat.reduceMul, Nat.reduceLeDiff, Nat.reduceLT, Nat.reduceBEq, PV.scal, PV.scalL, SV.scal, SV.scalL, Ob.scal, PV.isCell, pure', resO]
      refine hR' _ _ _ (by intro h; cases h) ?_
      simp only [hw, ↓SP, SQ, Gam.add, stepM, callC, argC, lendO, nmBy, nmC, likeL, likeB, plainOb, offs, exL, X, F, trP, trO, stepD, stepW, newA, SV.tr, SV.trL, fz, allP, Ob.tr, loadA, cellsA, SV.cells, binA, binI, eqOut, isSl, isPt, natOf, callee, snap, SV.refsL, SV.refs, thaw, fzAll, loA, hiA, elemOf, partsA, buildA, putCells, ↓reduceIte, reduceCtorEq, okCell, Nat.reduceAdd, Nat.reduceEqDiff, Nat.reduceSub, Nat.reduceMul, Nat.reduceLeDiff, Nat.reduceLT, Nat.reduceBEq, PV.scal, PV.scalL, SV.scal, SV.scalL, Ob.scal, PV.isCell, pure', resO]
      rw [he]
      exact hN (i + 1, _, _, _, _, _, _, _, _, _, _, _) _ _ (by simp only; omega) (by simp only; omega) rfl rfl
  · have he : i = w.length := by omega
    have h1 : ¬ (i : Int) < w.length := by omega
    simp only [h1, ↓SP, SQ, Gam.add, stepM, callC, argC, lendO, nmBy, nmC, likeL, likeB, plainOb, offs, exL, X, F, trP, trO, stepD, stepW, newA, SV.tr, SV.trL, fz, allP, Ob.tr, loadA, cellsA, SV.cells, binA, binI, eqOut, isSl, isPt, natOf, callee, snap, SV.refsL, SV.refs, thaw, fzAll, loA, hiA, elemOf, partsA, buildA, putCells, ↓reduceIte, reduceCtorEq, okCell, Nat.reduceAdd, Nat.reduceEqDiff, Nat.reduceSub, Nat.reduceMul, Nat.reduceLeDiff, Nat.reduceLT, Nat.reduceBEq, PV.scal, PV.scalL, SV.scal, SV.scalL, Ob.scal, PV.isCell, pure', resO]
    refine hR _ _ _ (by intro h; cases h) ?_
    simp only [↓SP, SQ, Gam.add, stepM, callC, argC, lendO, nmBy, nmC, likeL, likeB, plainOb, offs, exL, X, F, trP, trO, stepD, stepW, newA, SV.tr, SV.trL, fz, allP, Ob.tr, loadA, cellsA, SV.cells, binA, binI, eqOut, isSl, isPt, natOf, callee, snap, SV.refsL, SV.refs, thaw, fzAll, loA, hiA, elemOf, partsA, buildA, putCells, ↓reduceIte, reduceCtorEq, okCell, Nat.reduceAdd, Nat.reduceEqDiff, Nat.reduceSub, Nat.reduceMul, Nat.reduceLeDiff, Nat.reduceLT, Nat.reduceBEq, PV.scal, PV.scalL, SV.scal, SV.scalL, Ob.scal, PV.isCell, pure', resO]
    subst he
    exact finA_val (by simp [retA, rvA, mkE_cons, mk_nil, mkO_cons, mkO_nil, loadA, SV.tr, SV.trL, nmF, rn_nil, rn_cons1, rn_cons2, plainOb, SV.refsL, SV.refs, Ob.refs, X, F, List.range_succ, mkO, setO_mk]) (by simp [SV.tr, SV.trL])
def a_l3Ways : AFn := ⟨2, 
  .seq (.reg [⟨some 4, none, .d (.mv (.c (.int .i64 0)))⟩])
  (.seq (.reg [⟨some 5, none, .d (.mv (.c (.int .i64 1)))⟩])
  (.seq (.seq (.reg [⟨some 6, none, .d (.mv (.c (.int .i64 0)))⟩])
  (.block 0 (.loop (.seq (.seq (.reg [⟨some 7, none, .d (.mv (.t 6))⟩,
      ⟨some 8, none, .d (.mv (.t 1))⟩,
      ⟨some 9, none, .d (.bin .arith .lss (.t 7) (.t 8))⟩])
    (.cond (.t 9) (.skip) (.exit 0)))
    (.seq (.block 1 (.reg [⟨some 12, none, .d (.mv (.t 5))⟩,
       ⟨some 13, none, .d (.mv (.t 0))⟩,
       ⟨some 14, none, .d (.mv (.t 6))⟩,
       ⟨some 15, none, .d (.bin .arith .sub (.t 13) (.t 14))⟩,
       ⟨some 16, none, .d (.bin .arith .mul (.t 12) (.t 15))⟩,
       ⟨some 17, none, .d (.mv (.t 6))⟩,
       ⟨some 18, none, .d (.bin .arith .add (.t 17) (.c (.int .i64 1)))⟩,
       ⟨some 19, none, .d (.bin .arith .quo (.t 16) (.t 18))⟩,
       ⟨some 5, none, .d (.mv (.t 19))⟩]))
    (.reg [⟨some 10, none, .d (.mv (.t 6))⟩,
      ⟨some 11, none, .d (.bin .arith .add (.t 10) (.c (.int .i64 1)))⟩,
      ⟨some 6, none, .d (.mv (.t 11))⟩]))))))
  (.seq (.reg [⟨some 20, none, .d (.mv (.t 5))⟩,
    ⟨some 4, none, .d (.mv (.t 20))⟩])
  (.ret)))), [.tmp 4]⟩
def n_l3Ways : Nat → Option Ann := fun _ => none
abbrev k_l3Ways : List Nat := [0, 1, 4, 5, 6, 9]
abbrev o_l3Ways : List Nat := []
theorem s_l3Ways {P : Program} (hm : P.follows .mixedOrders = true) {Γ : Gam} (hΓ : GS P Γ) {n : FuncId} (is : Is P n a_l3Ways)  : Says P n c_ways := by
  refine Says.pure fun args r fs h => ?_
  split at h
  case h_2 => cases h
  rename_i n r
  split at h
  case isFalse => cases h
  rename_i hc
  simp only [Option.some.injEq, Prod.mk.injEq] at h
  obtain ⟨rfl, rfl⟩ := h
  obtain ⟨h0, h1, h2, h3⟩ := hc
  obtain ⟨n, rfl⟩ : ∃ j : Nat, n = j := ⟨n.toNat, by omega⟩
  obtain ⟨r, rfl⟩ : ∃ j : Nat, r = j := ⟨r.toNat, by omega⟩
  simp only [Int.toNat_natCast]
  refine is.go hm hΓ k_l3Ways o_l3Ways (by simp [a_l3Ways]) ?_
  simp only [a_l3Ways, List.zipIdx_cons, List.zipIdx_nil, ↓SP, SQ, Gam.add, stepM, callC, argC, lendO, nmBy, nmC, likeL, likeB, plainOb, offs, exL, X, F, trP, trO, stepD, stepW, newA, SV.tr, SV.trL, fz, allP, Ob.tr, loadA, cellsA, SV.cells, binA, binI, eqOut, isSl, isPt, natOf, callee, snap, SV.refsL, SV.refs, thaw, fzAll, loA, hiA, elemOf, partsA, buildA, putCells, ↓reduceIte, reduceCtorEq, okCell, Nat.reduceAdd, Nat.reduceEqDiff, Nat.reduceSub, Nat.reduceMul, Nat.reduceLeDiff, Nat.reduceLT, Nat.reduceBEq, PV.scal, PV.scalL, SV.scal, SV.scalL, Ob.scal, PV.isCell, pure', resO]
  refine loop_at (fun s : Nat × SV => mkEnv [(0, si n), (1, si r), (4, si 0), (5, si (Wn n s.1)), (6, si s.1), (9, s.2)]) (fun s => mkO []) (fun s => s.1 ≤ r) (fun s => r - s.1) (0, .junk) (by simp) rfl rfl ?_
  rintro ⟨i, c1⟩ hi R hR hN
  simp only at hi
  by_cases h : i < r
  · have h1' : (i : Int) < r := by omega
    have hw := wrap_one (i := i) (by omega)
    have hz : ¬ ((i + 1 : Nat) : Int) = 0 := by omega
    simp only [h1', hw, W_sub (show i ≤ n by omega) (by omega), W_mul (show i ≤ n by omega) (by omega), W_div (show i ≤ n by omega) (by omega), hz, ↓SP, SQ, Gam.add, stepM, callC, argC, lendO, nmBy, nmC, likeL, likeB, plainOb, offs, exL, X, F, trP, trO, stepD, stepW, newA, SV.tr, SV.trL, fz, allP, Ob.tr, loadA, cellsA, SV.cells, binA, binI, eqOut, isSl, isPt, natOf, callee, snap, SV.refsL, SV.refs, thaw, fzAll, loA, hiA, elemOf, partsA, buildA, putCells, ↓reduceIte, reduceCtorEq, okCell, Nat.reduceAdd, Nat.reduceEqDiff, Nat.reduceSub, Nat.reduceMul, Nat.reduceLeDiff, Nat.reduceLT, Nat.reduceBEq, PV.scal, PV.scalL, SV.scal, SV.scalL, Ob.scal, PV.isCell, pure', resO]
    exact hN (i + 1, _) _ _ (by simp only; omega) (by simp only; omega) rfl rfl
  · have he : i = r := by omega
    have h1' : ¬ (i : Int) < r := by omega
    simp only [h1', ↓SP, SQ, Gam.add, stepM, callC, argC, lendO, nmBy, nmC, likeL, likeB, plainOb, offs, exL, X, F, trP, trO, stepD, stepW, newA, SV.tr, SV.trL, fz, allP, Ob.tr, loadA, cellsA, SV.cells, binA, binI, eqOut, isSl, isPt, natOf, callee, snap, SV.refsL, SV.refs, thaw, fzAll, loA, hiA, elemOf, partsA, buildA, putCells, ↓reduceIte, reduceCtorEq, okCell, Nat.reduceAdd, Nat.reduceEqDiff, Nat.reduceSub, Nat.reduceMul, Nat.reduceLeDiff, Nat.reduceLT, Nat.reduceBEq, PV.scal, PV.scalL, SV.scal, SV.scalL, Ob.scal, PV.isCell, pure', resO]
    refine hR _ _ _ (by intro h; cases h) ?_
    simp only [↓SP, SQ, Gam.add, stepM, callC, argC, lendO, nmBy, nmC, likeL, likeB, plainOb, offs, exL, X, F, trP, trO, stepD, stepW, newA, SV.tr, SV.trL, fz, allP, Ob.tr, loadA, cellsA, SV.cells, binA, binI, eqOut, isSl, isPt, natOf, callee, snap, SV.refsL, SV.refs, thaw, fzAll, loA, hiA, elemOf, partsA, buildA, putCells, ↓reduceIte, reduceCtorEq, okCell, Nat.reduceAdd, Nat.reduceEqDiff, Nat.reduceSub, Nat.reduceMul, Nat.reduceLeDiff, Nat.reduceLT, Nat.reduceBEq, PV.scal, PV.scalL, SV.scal, SV.scalL, Ob.scal, PV.isCell, pure', resO]
    subst he
    exact finA_val (by simp [retA, rvA, mkE_cons, mk_nil, mkO_cons, mkO_nil, loadA, SV.tr, SV.trL, nmF, rn_nil, rn_cons1, rn_cons2, plainOb, SV.refsL, SV.refs, Ob.refs, X, F, List.range_succ, mkO, setO_mk]) (by simp [SV.tr, SV.trL])
/-- All shares with fewer than k lies. -/
def inB (s o n : Nat) : Nat → Nat
  | 0 => 0
  | k + 1 => inB s o n k + Wn n k * partN s o n k
theorem inB_step {s o n k : Nat} (h1 : s ≤ o) (h2 : o ≤ 10) (h3 : k ≤ n) (h4 : n ≤ 12) : Wn n k * partN s o n k ≤ 200000000000000000 := by
  have a := Wn_le n (by omega) k (by omega)
  have b := partN_le h1 h2 h3 h4
  exact Nat.le_trans (Nat.mul_le_mul a b) (by decide)
theorem inB_le {s o n : Nat} (h1 : s ≤ o) (h2 : o ≤ 10) (h4 : n ≤ 12) : ∀ k, k ≤ n + 1 → inB s o n k ≤ 200000000000000000 * k
  | 0, _ => by simp [inB]
  | k + 1, hk => by
    have a := inB_le h1 h2 h4 k (by omega)
    have b := inB_step h1 h2 (show k ≤ n by omega) h4
    simp only [inB]; omega
def a_ofAny (f_ways : FuncId) (f_ofThese : FuncId) : AFn := ⟨3, 
  .seq (.reg [⟨some 3, none, .w (.box 2 (.t 0))⟩,
    ⟨some 6, none, .d (.mv (.c (.int .i64 0)))⟩])
  (.seq (.dreg [] [([], ⟨some 7, none, .d (.mv (.t 1))⟩),
    ([], ⟨some 8, none, .d (.mv (.t 2))⟩),
    ([], ⟨some 9, none, .d (.call (.f f_ways) [(.t 7), (.t 8)])⟩),
    ([], ⟨some 10, none, .d (.load true 2 (.t 3))⟩),
    ([], ⟨some 11, none, .d (.mv (.t 1))⟩),
    ([], ⟨some 12, none, .d (.mv (.t 2))⟩)] [⟨some 13, none, .d (.call (.f f_ofThese) [(.t 10), (.t 11), (.t 12)])⟩,
    ⟨some 14, none, .d (.bin .arith .mul (.t 9) (.t 13))⟩,
    ⟨some 6, none, .d (.mv (.t 14))⟩])
  (.ret)), [.tmp 6]⟩
def n_ofAny : Nat → Option Ann := fun _ => none
abbrev k_ofAny : List Nat := [0, 1, 2, 3, 6]
abbrev o_ofAny : List Nat := [3]
def c_ofAny : Con := pure' fun
  | [.p (.agg [.int .i64 s, .int .i64 o]), .p (.int .i64 n), .p (.int .i64 k)] => if (isD s o = true ∧ 0 ≤ k ∧ k ≤ n ∧ n ≤ 12) then some (.p (.int .i64 ((Wn n.toNat k.toNat * partN s.toNat o.toNat n.toNat k.toNat : Nat) : Int)), []) else none
  | _ => none
theorem s_ofAny {P : Program} (hm : P.follows .mixedOrders = true) {Γ : Gam} (hΓ : GS P Γ) {n : FuncId} {f_ways : FuncId} {f_ofThese : FuncId} (is : Is P n (a_ofAny f_ways f_ofThese)) (h_ways : Γ f_ways = c_ways) (h_ofThese : Γ f_ofThese = c_ofThese)  : Says P n c_ofAny := by
  refine Says.pure fun args r fs h => ?_
  split at h
  case h_2 => cases h
  rename_i s o n k
  split at h
  case isFalse => cases h
  rename_i hc
  simp only [ofI_ints, ofBo_bools, ofAs_asks, Option.some.injEq, Prod.mk.injEq] at h hc
  obtain ⟨rfl, rfl⟩ := h
  obtain ⟨hd, h2, h3, h4⟩ := hc
  obtain ⟨d1, d2, d3, d4⟩ := isD_out hd
  have g1 : 0 ≤ n := by omega
  have g2 : n ≤ 20 := by omega
  have hst := inB_step (s := s.toNat) (o := o.toNat) (n := n.toNat) (k := k.toNat) (by omega) (by omega) (by omega) (by omega)
  have hm2 : IntKind.i64.wrap ((Wn n.toNat k.toNat : Int) * (partN s.toNat o.toNat n.toNat k.toNat : Int)) = ((Wn n.toNat k.toNat * partN s.toNat o.toNat n.toNat k.toNat : Nat) : Int) := by
    rw [← Int.natCast_mul]
    exact wrap_nat (by omega)
  refine is.go hm hΓ k_ofAny o_ofAny (by simp [a_ofAny]) ?_
  simp only [a_ofAny, h_ways, c_ways, h_ofThese, c_ofThese, hd, h2, h3, h4, g1, g2, hm2, List.zipIdx_cons, List.zipIdx_nil, ↓SP, SQ, Gam.add, stepM, callC, argC, lendO, nmBy, nmC, likeL, likeB, plainOb, offs, exL, X, F, trP, trO, stepD, stepW, newA, SV.tr, SV.trL, fz, allP, Ob.tr, loadA, cellsA, SV.cells, binA, binI, eqOut, isSl, isPt, natOf, callee, snap, SV.refsL, SV.refs, thaw, fzAll, loA, hiA, elemOf, partsA, buildA, putCells, ↓reduceIte, reduceCtorEq, okCell, Nat.reduceAdd, Nat.reduceEqDiff, Nat.reduceSub, Nat.reduceMul, Nat.reduceLeDiff, Nat.reduceLT, Nat.reduceBEq, PV.scal, PV.scalL, SV.scal, SV.scalL, Ob.scal, PV.isCell, pure', resO]
  exact finA_val (by simp [retA, rvA, mkE_cons, mk_nil, mkO_cons, mkO_nil, loadA, SV.tr, SV.trL, nmF, rn_nil, rn_cons1, rn_cons2, plainOb, SV.refsL, SV.refs, Ob.refs, X, F, List.range_succ, mkO, setO_mk]) (by simp [SV.tr, SV.trL])
def a_dWithin (f_ofAny : FuncId) : AFn := ⟨3, 
  .seq (.reg [⟨some 3, none, .w (.box 2 (.t 0))⟩,
    ⟨some 6, none, .d (.mv (.c (.int .i64 0)))⟩])
  (.seq (.reg [⟨some 7, none, .d (.mv (.c (.int .i64 0)))⟩])
  (.seq (.seq (.reg [⟨some 9, none, .d (.mv (.t 2))⟩,
    ⟨some 10, none, .d (.bin .arith .add (.t 9) (.c (.int .i64 1)))⟩,
    ⟨some 11, none, .d (.mv (.c (.int .i64 0)))⟩])
  (.block 0 (.loop (.seq (.reg [⟨some 12, none, .d (.bin .arith .lss (.t 11) (.t 10))⟩])
    (.seq (.cond (.t 12) (.skip) (.exit 0))
    (.seq (.block 1 (.seq (.reg [⟨some 13, none, .d (.mv (.t 11))⟩,
       ⟨some 8, none, .d (.mv (.t 13))⟩])
     (.reg [⟨some 14, none, .d (.mv (.t 7))⟩,
       ⟨some 15, none, .d (.load true 2 (.t 3))⟩,
       ⟨some 16, none, .d (.mv (.t 1))⟩,
       ⟨some 17, none, .d (.mv (.t 8))⟩,
       ⟨some 18, none, .d (.call (.f f_ofAny) [(.t 15), (.t 16), (.t 17)])⟩,
       ⟨some 19, none, .d (.bin .arith .add (.t 14) (.t 18))⟩,
       ⟨some 7, none, .d (.mv (.t 19))⟩])))
    (.reg [⟨some 20, none, .d (.bin .arith .add (.t 11) (.c (.int .i64 1)))⟩,
      ⟨some 11, none, .d (.mv (.t 20))⟩])))))))
  (.seq (.reg [⟨some 21, none, .d (.mv (.t 7))⟩,
    ⟨some 6, none, .d (.mv (.t 21))⟩])
  (.ret)))), [.tmp 6]⟩
def n_dWithin : Nat → Option Ann := fun _ => none
abbrev k_dWithin : List Nat := [0, 1, 2, 3, 6, 7, 8, 10, 11, 12]
abbrev o_dWithin : List Nat := [3]
def a_l7Within (f_l3Ways : FuncId) (f_l7Parts : FuncId) : AFn := ⟨3, 
  .seq (.reg [⟨some 5, none, .w (.box 2 (.t 2))⟩,
    ⟨some 6, none, .d (.mv (.c (.int .i64 0)))⟩])
  (.seq (.reg [⟨some 7, none, .d (.mv (.c (.int .i64 0)))⟩])
  (.seq (.seq (.reg [⟨some 8, none, .d (.mv (.c (.int .i64 0)))⟩])
  (.block 0 (.loop (.seq (.seq (.reg [⟨some 9, none, .d (.mv (.t 8))⟩,
      ⟨some 10, none, .d (.mv (.t 1))⟩,
      ⟨some 11, none, .d (.bin .arith .leq (.t 9) (.t 10))⟩])
    (.cond (.t 11) (.skip) (.exit 0)))
    (.seq (.block 1 (.dreg [] [([], ⟨some 14, none, .d (.mv (.t 7))⟩),
       ([], ⟨some 15, none, .d (.mv (.t 0))⟩),
       ([], ⟨some 16, none, .d (.mv (.t 8))⟩),
       ([], ⟨some 17, none, .d (.call (.f f_l3Ways) [(.t 15), (.t 16)])⟩),
       ([], ⟨some 18, none, .d (.mv (.t 0))⟩),
       ([], ⟨some 19, none, .d (.mv (.t 8))⟩),
       ([], ⟨some 20, none, .d (.load true 2 (.t 5))⟩),
       ([], ⟨some 21, none, .d (.call (.f f_l7Parts) [(.t 18), (.t 19), (.t 20)])⟩),
       ([], ⟨some 22, none, .d (.bin .arith .mul (.t 17) (.t 21))⟩)] [⟨some 23, none, .d (.bin .arith .add (.t 14) (.t 22))⟩,
       ⟨some 7, none, .d (.mv (.t 23))⟩]))
    (.reg [⟨some 12, none, .d (.mv (.t 8))⟩,
      ⟨some 13, none, .d (.bin .arith .add (.t 12) (.c (.int .i64 1)))⟩,
      ⟨some 8, none, .d (.mv (.t 13))⟩]))))))
  (.seq (.reg [⟨some 24, none, .d (.mv (.t 7))⟩,
    ⟨some 6, none, .d (.mv (.t 24))⟩])
  (.ret)))), [.tmp 6]⟩
def n_l7Within : Nat → Option Ann := fun _ => none
abbrev k_l7Within : List Nat := [0, 1, 2, 5, 6, 7, 8, 11]
abbrev o_l7Within : List Nat := [5]
def c_dWithin : Con := pure' fun
  | [.p (.agg [.int .i64 s, .int .i64 o]), .p (.int .i64 n), .p (.int .i64 k)] => if (isD s o = true ∧ 0 ≤ k ∧ k ≤ n ∧ n ≤ 12) then some (.p (.int .i64 (inB s.toNat o.toNat n.toNat (k.toNat + 1) : Int)), []) else none
  | _ => none
theorem s_dWithin {P : Program} (hm : P.follows .mixedOrders = true) {Γ : Gam} (hΓ : GS P Γ) {n : FuncId} {f_ofAny : FuncId} (is : Is P n (a_dWithin f_ofAny)) (h_ofAny : Γ f_ofAny = c_ofAny)  : Says P n c_dWithin := by
  refine Says.pure fun args r fs h => ?_
  split at h
  case h_2 => cases h
  rename_i s o n k
  split at h
  case isFalse => cases h
  rename_i hc
  simp only [ofI_ints, ofBo_bools, ofAs_asks, Option.some.injEq, Prod.mk.injEq] at h hc
  obtain ⟨rfl, rfl⟩ := h
  obtain ⟨hd, h2, h3, h4⟩ := hc
  obtain ⟨d1, d2, d3, d4⟩ := isD_out hd
  obtain ⟨n, rfl⟩ : ∃ j : Nat, n = j := ⟨n.toNat, by omega⟩
  obtain ⟨k, rfl⟩ : ∃ j : Nat, k = j := ⟨k.toNat, by omega⟩
  simp only [Int.toNat_natCast]
  have hwk := wrap_one (i := k) (by omega)
  refine is.go hm hΓ k_dWithin o_dWithin (by simp [a_dWithin]) ?_
  simp only [a_dWithin, h_ofAny, c_ofAny, hwk, List.zipIdx_cons, List.zipIdx_nil, ↓SP, SQ, Gam.add, stepM, callC, argC, lendO, nmBy, nmC, likeL, likeB, plainOb, offs, exL, X, F, trP, trO, stepD, stepW, newA, SV.tr, SV.trL, fz, allP, Ob.tr, loadA, cellsA, SV.cells, binA, binI, eqOut, isSl, isPt, natOf, callee, snap, SV.refsL, SV.refs, thaw, fzAll, loA, hiA, elemOf, partsA, buildA, putCells, ↓reduceIte, reduceCtorEq, okCell, Nat.reduceAdd, Nat.reduceEqDiff, Nat.reduceSub, Nat.reduceMul, Nat.reduceLeDiff, Nat.reduceLT, Nat.reduceBEq, PV.scal, PV.scalL, SV.scal, SV.scalL, Ob.scal, PV.isCell, pure', resO]
  refine loop_at (fun s' : Nat × SV × SV => mkEnv [(0, .p (.agg [.int .i64 s, .int .i64 o])), (1, si n), (2, si k), (3, .bx 3 0), (6, si 0), (7, si (inB s.toNat o.toNat n s'.1)), (8, s'.2.1), (10, si ((k + 1 : Nat) : Int)), (11, si s'.1), (12, s'.2.2)]) (fun s' => mkO [(3, some (.box [si s, si o]))]) (fun s' => s'.1 ≤ k + 1) (fun s' => k + 1 - s'.1) (0, .junk, .junk) (by simp) rfl rfl ?_
  rintro ⟨i, c1, c2⟩ hi R hR hN
  simp only at hi
  by_cases h : i < k + 1
  · have h1' : (i : Int) < ((k + 1 : Nat) : Int) := by omega
    have hw := wrap_one (i := i) (by omega)
    have g1 : (0 : Int) ≤ i := by omega
    have g2 : (i : Int) ≤ n := by omega
    have b1 := inB_le (s := s.toNat) (o := o.toNat) (n := n) (by omega) (by omega) (by omega) (i + 1) (by omega)
    have hadd : IntKind.i64.wrap ((inB s.toNat o.toNat n i : Int) + ((Wn n i * partN s.toNat o.toNat n i : Nat) : Int)) = (inB s.toNat o.toNat n (i + 1) : Int) := by
      rw [← Int.natCast_add]
      show IntKind.i64.wrap ((inB s.toNat o.toNat n (i + 1) : Nat) : Int) = _
      exact wrap_nat (by omega)
    simp only [h1', hw, hd, g1, g2, h4, h_ofAny, c_ofAny, Int.toNat_natCast, hadd, ↓SP, SQ, Gam.add, stepM, callC, argC, lendO, nmBy, nmC, likeL, likeB, plainOb, offs, exL, X, F, trP, trO, stepD, stepW, newA, SV.tr, SV.trL, fz, allP, Ob.tr, loadA, cellsA, SV.cells, binA, binI, eqOut, isSl, isPt, natOf, callee, snap, SV.refsL, SV.refs, thaw, fzAll, loA, hiA, elemOf, partsA, buildA, putCells, ↓reduceIte, reduceCtorEq, okCell, Nat.reduceAdd, Nat.reduceEqDiff, Nat.reduceSub, Nat.reduceMul, Nat.reduceLeDiff, Nat.reduceLT, Nat.reduceBEq, PV.scal, PV.scalL, SV.scal, SV.scalL, Ob.scal, PV.isCell, pure', resO]
    exact hN (i + 1, _, _) _ _ (by simp only; omega) (by simp only; omega) rfl rfl
  · have he : i = k + 1 := by omega
    have h1' : ¬ (i : Int) < ((k + 1 : Nat) : Int) := by omega
    simp only [h1', ↓SP, SQ, Gam.add, stepM, callC, argC, lendO, nmBy, nmC, likeL, likeB, plainOb, offs, exL, X, F, trP, trO, stepD, stepW, newA, SV.tr, SV.trL, fz, allP, Ob.tr, loadA, cellsA, SV.cells, binA, binI, eqOut, isSl, isPt, natOf, callee, snap, SV.refsL, SV.refs, thaw, fzAll, loA, hiA, elemOf, partsA, buildA, putCells, ↓reduceIte, reduceCtorEq, okCell, Nat.reduceAdd, Nat.reduceEqDiff, Nat.reduceSub, Nat.reduceMul, Nat.reduceLeDiff, Nat.reduceLT, Nat.reduceBEq, PV.scal, PV.scalL, SV.scal, SV.scalL, Ob.scal, PV.isCell, pure', resO]
    refine hR _ _ _ (by intro h; cases h) ?_
    simp only [↓SP, SQ, Gam.add, stepM, callC, argC, lendO, nmBy, nmC, likeL, likeB, plainOb, offs, exL, X, F, trP, trO, stepD, stepW, newA, SV.tr, SV.trL, fz, allP, Ob.tr, loadA, cellsA, SV.cells, binA, binI, eqOut, isSl, isPt, natOf, callee, snap, SV.refsL, SV.refs, thaw, fzAll, loA, hiA, elemOf, partsA, buildA, putCells, ↓reduceIte, reduceCtorEq, okCell, Nat.reduceAdd, Nat.reduceEqDiff, Nat.reduceSub, Nat.reduceMul, Nat.reduceLeDiff, Nat.reduceLT, Nat.reduceBEq, PV.scal, PV.scalL, SV.scal, SV.scalL, Ob.scal, PV.isCell, pure', resO]
    subst he
    exact finA_val (by simp [retA, rvA, mkE_cons, mk_nil, mkO_cons, mkO_nil, loadA, SV.tr, SV.trL, nmF, rn_nil, rn_cons1, rn_cons2, plainOb, SV.refsL, SV.refs, Ob.refs, X, F, List.range_succ, mkO, setO_mk]) (by simp [SV.tr, SV.trL])
def c_l7Within : Con := pure' fun
  | [.p (.int .i64 n), .p (.int .i64 k), .p (.agg [.int .i64 s, .int .i64 o])] => if (isD s o = true ∧ 0 ≤ k ∧ k ≤ n ∧ n ≤ 12) then some (.p (.int .i64 (inB s.toNat o.toNat n.toNat (k.toNat + 1) : Int)), []) else none
  | _ => none
theorem s_l7Within {P : Program} (hm : P.follows .mixedOrders = true) {Γ : Gam} (hΓ : GS P Γ) {n : FuncId} {f_l3Ways : FuncId} {f_l7Parts : FuncId} (is : Is P n (a_l7Within f_l3Ways f_l7Parts)) (h_l3Ways : Γ f_l3Ways = c_ways) (h_l7Parts : Γ f_l7Parts = c_l7Parts)  : Says P n c_l7Within := by
  refine Says.pure fun args r fs h => ?_
  split at h
  case h_2 => cases h
  rename_i n k s o
  split at h
  case isFalse => cases h
  rename_i hc
  simp only [ofI_ints, ofBo_bools, ofAs_asks, Option.some.injEq, Prod.mk.injEq] at h hc
  obtain ⟨rfl, rfl⟩ := h
  obtain ⟨hd, h2, h3, h4⟩ := hc
  obtain ⟨d1, d2, d3, d4⟩ := isD_out hd
  obtain ⟨n, rfl⟩ : ∃ j : Nat, n = j := ⟨n.toNat, by omega⟩
  obtain ⟨k, rfl⟩ : ∃ j : Nat, k = j := ⟨k.toNat, by omega⟩
  simp only [Int.toNat_natCast]
  refine is.go hm hΓ k_l7Within o_l7Within (by simp [a_l7Within]) ?_
  simp only [a_l7Within, h_l3Ways, c_ways, h_l7Parts, c_l7Parts, List.zipIdx_cons, List.zipIdx_nil, ↓SP, SQ, Gam.add, stepM, callC, argC, lendO, nmBy, nmC, likeL, likeB, plainOb, offs, exL, X, F, trP, trO, stepD, stepW, newA, SV.tr, SV.trL, fz, allP, Ob.tr, loadA, cellsA, SV.cells, binA, binI, eqOut, isSl, isPt, natOf, callee, snap, SV.refsL, SV.refs, thaw, fzAll, loA, hiA, elemOf, partsA, buildA, putCells, ↓reduceIte, reduceCtorEq, okCell, Nat.reduceAdd, Nat.reduceEqDiff, Nat.reduceSub, Nat.reduceMul, Nat.reduceLeDiff, Nat.reduceLT, Nat.reduceBEq, PV.scal, PV.scalL, SV.scal, SV.scalL, Ob.scal, PV.isCell, pure', resO]
  refine loop_at (fun s' : Nat × SV => mkEnv [(0, si n), (1, si k), (2, .p (.agg [.int .i64 s, .int .i64 o])), (5, .bx 5 0), (6, si 0), (7, si (inB s.toNat o.toNat n s'.1)), (8, si s'.1), (11, s'.2)]) (fun s' => mkO [(5, some (.box [si s, si o]))]) (fun s' => s'.1 ≤ k + 1) (fun s' => k + 1 - s'.1) (0, .junk) (by simp) rfl rfl ?_
  rintro ⟨i, c1⟩ hi R hR hN
  simp only at hi
  by_cases h : i ≤ k
  · have h1' : (i : Int) ≤ k := by omega
    have hw := wrap_one (i := i) (by omega)
    have g0 : (0 : Int) ≤ n := by omega
    have g1 : (0 : Int) ≤ i := by omega
    have g2 : (i : Int) ≤ n := by omega
    have g3 : (n : Int) ≤ 20 := by omega
    have b1 := inB_le (s := s.toNat) (o := o.toNat) (n := n) (by omega) (by omega) (by omega) (i + 1) (by omega)
    have hst := inB_step (s := s.toNat) (o := o.toNat) (n := n) (k := i) (by omega) (by omega) (by omega) (by omega)
    have hm2 : IntKind.i64.wrap ((Wn n i : Int) * (partN s.toNat o.toNat n i : Int)) = ((Wn n i * partN s.toNat o.toNat n i : Nat) : Int) := by
      rw [← Int.natCast_mul]
      exact wrap_nat (by omega)
    have hadd : IntKind.i64.wrap ((inB s.toNat o.toNat n i : Int) + ((Wn n i * partN s.toNat o.toNat n i : Nat) : Int)) = (inB s.toNat o.toNat n (i + 1) : Int) := by
      rw [← Int.natCast_add]
      show IntKind.i64.wrap ((inB s.toNat o.toNat n (i + 1) : Nat) : Int) = _
      exact wrap_nat (by omega)
    simp only [h1', hw, hd, g0, g1, g2, g3, h4, h_l3Ways, c_ways, h_l7Parts, c_l7Parts, Int.toNat_natCast, hm2, hadd, ↓SP, SQ, Gam.add, stepM, callC, argC, lendO, nmBy, nmC, likeL, likeB, plainOb, offs, exL, X, F, trP, trO, stepD, stepW, newA, SV.tr, SV.trL, fz, allP, Ob.tr, loadA, cellsA, SV.cells, binA, binI, eqOut, isSl, isPt, natOf, callee, snap, SV.refsL, SV.refs, thaw, fzAll, loA, hiA, elemOf, partsA, buildA, putCells, ↓reduceIte, reduceCtorEq, okCell, Nat.reduceAdd, Nat.reduceEqDiff, Nat.reduceSub, Nat.reduceMul, Nat.reduceLeDiff, Nat.reduceLT, Nat.reduceBEq, PV.scal, PV.scalL, SV.scal, SV.scalL, Ob.scal, PV.isCell, pure', resO]
    exact hN (i + 1, _) _ _ (by simp only; omega) (by simp only; omega) rfl rfl
  · have he : i = k + 1 := by omega
    have h1' : ¬ (i : Int) ≤ k := by omega
    simp only [h1', ↓SP, SQ, Gam.add, stepM, callC, argC, lendO, nmBy, nmC, likeL, likeB, plainOb, offs, exL, X, F, trP, trO, stepD, stepW, newA, SV.tr, SV.trL, fz, allP, Ob.tr, loadA, cellsA, SV.cells, binA, binI, eqOut, isSl, isPt, natOf, callee, snap, SV.refsL, SV.refs, thaw, fzAll, loA, hiA, elemOf, partsA, buildA, putCells, ↓reduceIte, reduceCtorEq, okCell, Nat.reduceAdd, Nat.reduceEqDiff, Nat.reduceSub, Nat.reduceMul, Nat.reduceLeDiff, Nat.reduceLT, Nat.reduceBEq, PV.scal, PV.scalL, SV.scal, SV.scalL, Ob.scal, PV.isCell, pure', resO]
    refine hR _ _ _ (by intro h; cases h) ?_
    simp only [↓SP, SQ, Gam.add, stepM, callC, argC, lendO, nmBy, nmC, likeL, likeB, plainOb, offs, exL, X, F, trP, trO, stepD, stepW, newA, SV.tr, SV.trL, fz, allP, Ob.tr, loadA, cellsA, SV.cells, binA, binI, eqOut, isSl, isPt, natOf, callee, snap, SV.refsL, SV.refs, thaw, fzAll, loA, hiA, elemOf, partsA, buildA, putCells, ↓reduceIte, reduceCtorEq, okCell, Nat.reduceAdd, Nat.reduceEqDiff, Nat.reduceSub, Nat.reduceMul, Nat.reduceLeDiff, Nat.reduceLT, Nat.reduceBEq, PV.scal, PV.scalL, SV.scal, SV.scalL, Ob.scal, PV.isCell, pure', resO]
    subst he
    exact finA_val (by simp [retA, rvA, mkE_cons, mk_nil, mkO_cons, mkO_nil, loadA, SV.tr, SV.trL, nmF, rn_nil, rn_cons1, rn_cons2, plainOb, SV.refsL, SV.refs, Ob.refs, X, F, List.range_succ, mkO, setO_mk]) (by simp [SV.tr, SV.trL])
def a_dOf (f_power : FuncId) (f_fraction : FuncId) : AFn := ⟨3, 
  .seq (.reg [⟨some 3, none, .w (.box 2 (.t 0))⟩,
    ⟨some 6, none, .w (.alloc [.int .i64 0, .int .i64 0])⟩])
  (.seq (.reg [⟨some 7, none, .d (.mv (.t 2))⟩,
    ⟨some 8, none, .d (.fa 1 (.t 3))⟩,
    ⟨some 9, none, .d (.load false 1 (.t 8))⟩,
    ⟨some 10, none, .d (.mv (.t 1))⟩,
    ⟨some 11, none, .d (.call (.f f_power) [(.t 9), (.t 10)])⟩,
    ⟨some 12, none, .d (.call (.f f_fraction) [(.t 7), (.t 11)])⟩,
    ⟨none, none, .w (.store 2 (.t 6) (.t 12))⟩])
  (.ret)), [.cell 6 2 true]⟩
def n_dOf : Nat → Option Ann := fun _ => none
abbrev k_dOf : List Nat := [0, 1, 2, 3, 6]
abbrev o_dOf : List Nat := [3, 6]
def c_dOf : Con := pure' fun
  | [.p (.agg [.int .i64 s, .int .i64 o]), .p (.int .i64 n), .p (.int .i64 x)] => if (isD s o = true ∧ 0 ≤ n ∧ n ≤ 12 ∧ 0 ≤ x ∧ x ≤ 4000000000000000000) then some (.ag [.p (.int .i64 (frN x.toNat (o.toNat ^ n.toNat))), .p (.int .i64 (frD x.toNat (o.toNat ^ n.toNat)))], []) else none
  | _ => none
theorem s_dOf {P : Program} (hm : P.follows .mixedOrders = true) {Γ : Gam} (hΓ : GS P Γ) {n : FuncId} {f_power : FuncId} {f_fraction : FuncId} (is : Is P n (a_dOf f_power f_fraction)) (h_power : Γ f_power = c_power) (h_fraction : Γ f_fraction = c_fraction)  : Says P n c_dOf := by
  refine Says.pure fun args r fs h => ?_
  split at h
  case h_2 => cases h
  rename_i s o n x
  split at h
  case isFalse => cases h
  rename_i hc
  simp only [ofI_ints, ofBo_bools, ofAs_asks, Option.some.injEq, Prod.mk.injEq] at h hc
  obtain ⟨rfl, rfl⟩ := h
  obtain ⟨hd, h2, h3, h4, h5⟩ := hc
  obtain ⟨d1, d2, d3, d4⟩ := isD_out hd
  have hp := pow_le (b := o.toNat) (e := n.toNat) (by omega) (by omega)
  have hpos : 0 < o.toNat ^ n.toNat := Nat.pow_pos (by omega)
  have g0 : 0 ≤ o := by omega
  have g1 : (0 : Int) < ((o.toNat ^ n.toNat : Nat) : Int) := by omega
  have g2 : ((o.toNat ^ n.toNat : Nat) : Int) ≤ 4000000000000000000 := by omega
  refine is.go hm hΓ k_dOf o_dOf (by simp [a_dOf]) ?_
  simp only [a_dOf, h_power, c_power, h_fraction, c_fraction, hd, d2, g0, h2, h3, h4, h5, g1, g2, Int.toNat_natCast, List.zipIdx_cons, List.zipIdx_nil, ↓SP, SQ, Gam.add, stepM, callC, argC, lendO, nmBy, nmC, likeL, likeB, plainOb, offs, exL, X, F, trP, trO, stepD, stepW, newA, SV.tr, SV.trL, fz, allP, Ob.tr, loadA, cellsA, SV.cells, binA, binI, eqOut, isSl, isPt, natOf, callee, snap, SV.refsL, SV.refs, thaw, fzAll, loA, hiA, elemOf, partsA, buildA, putCells, ↓reduceIte, reduceCtorEq, okCell, Nat.reduceAdd, Nat.reduceEqDiff, Nat.reduceSub, Nat.reduceMul, Nat.reduceLeDiff, Nat.reduceLT, Nat.reduceBEq, PV.scal, PV.scalL, SV.scal, SV.scalL, Ob.scal, PV.isCell, pure', resO]
  exact finA_val (by simp [retA, rvA, mkE_cons, mk_nil, mkO_cons, mkO_nil, loadA, SV.tr, SV.trL, nmF, rn_nil, rn_cons1, rn_cons2, plainOb, SV.refsL, SV.refs, Ob.refs, X, F, List.range_succ, mkO, setO_mk]) (by simp [SV.tr, SV.trL])
def a_isDrawnScheme (f_IsScheme : FuncId) (f_IsDoubt : FuncId) : AFn := ⟨3, 
  .seq (.reg [⟨some 5, none, .w (.box 2 (.t 2))⟩,
    ⟨some 6, none, .d (.mv (.c (.bool false)))⟩])
  (.seq (.reg [⟨some 7, none, .d (.mv (.t 0))⟩,
    ⟨some 8, none, .d (.mv (.t 1))⟩,
    ⟨some 9, none, .d (.call (.f f_IsScheme) [(.t 7), (.t 8)])⟩,
    ⟨some 10, none, .d (.mv (.t 9))⟩,
    ⟨some 11, some (10, true), .d (.mv (.t 1))⟩,
    ⟨some 12, some (10, true), .d (.len (.t 11))⟩,
    ⟨some 13, some (10, true), .d (.bin .arith .leq (.t 12) (.c (.int .i64 12)))⟩,
    ⟨some 14, none, .d (.pick (.t 10) (.t 13) (.c (.bool false)))⟩,
    ⟨some 15, none, .d (.mv (.t 14))⟩,
    ⟨some 16, some (15, true), .d (.load true 2 (.t 5))⟩,
    ⟨some 17, some (15, true), .d (.call (.f f_IsDoubt) [(.t 16)])⟩,
    ⟨some 18, none, .d (.pick (.t 15) (.t 17) (.c (.bool false)))⟩,
    ⟨some 6, none, .d (.mv (.t 18))⟩])
  (.ret)), [.tmp 6]⟩
def n_isDrawnScheme : Nat → Option Ann := fun _ => none
abbrev k_isDrawnScheme : List Nat := [0, 1, 2, 5, 6]
abbrev o_isDrawnScheme : List Nat := [5]
def a_l7Scheme (f_l5Scheme : FuncId) (f_l7Good : FuncId) : AFn := ⟨3, 
  .seq (.reg [⟨some 5, none, .w (.box 2 (.t 2))⟩,
    ⟨some 6, none, .d (.mv (.c (.bool false)))⟩])
  (.seq (.reg [⟨some 7, none, .d (.mv (.t 0))⟩,
    ⟨some 8, none, .d (.mv (.t 1))⟩,
    ⟨some 9, none, .d (.call (.f f_l5Scheme) [(.t 7), (.t 8)])⟩,
    ⟨some 10, none, .d (.mv (.t 9))⟩,
    ⟨some 11, some (10, true), .d (.mv (.t 1))⟩,
    ⟨some 12, some (10, true), .d (.len (.t 11))⟩,
    ⟨some 13, some (10, true), .d (.bin .arith .leq (.t 12) (.c (.int .i64 12)))⟩,
    ⟨some 14, none, .d (.pick (.t 10) (.t 13) (.c (.bool false)))⟩,
    ⟨some 15, none, .d (.mv (.t 14))⟩,
    ⟨some 16, some (15, true), .d (.load true 2 (.t 5))⟩,
    ⟨some 17, some (15, true), .d (.call (.f f_l7Good) [(.t 16)])⟩,
    ⟨some 18, none, .d (.pick (.t 15) (.t 17) (.c (.bool false)))⟩,
    ⟨some 6, none, .d (.mv (.t 18))⟩])
  (.ret)), [.tmp 6]⟩
def n_l7Scheme : Nat → Option Ann := fun _ => none
abbrev k_l7Scheme : List Nat := [0, 1, 2, 5, 6]
abbrev o_l7Scheme : List Nat := [5]
def c_isDrawnScheme : Con := pure' fun
  | [.p (.int .i64 n), .p (.sl 1 l_), .p (.agg [.int .i64 s, .int .i64 o])] => if isI l_ = true ∧ ((ofI l_).length ≤ 1100000) then some (.p (.bool (isSm n (ofI l_) && decide (((ofI l_).length : Int) ≤ 12) && isD s o)), []) else none
  | _ => none
theorem s_isDrawnScheme {P : Program} (hm : P.follows .mixedOrders = true) {Γ : Gam} (hΓ : GS P Γ) {n : FuncId} {f_IsScheme : FuncId} {f_IsDoubt : FuncId} (is : Is P n (a_isDrawnScheme f_IsScheme f_IsDoubt)) (h_IsScheme : Γ f_IsScheme = c_IsScheme) (h_IsDoubt : Γ f_IsDoubt = c_IsDoubt)  : Says P n c_isDrawnScheme := by
  refine Says.pure fun args r fs h => ?_
  split at h
  case h_2 => cases h
  rename_i n l_ s o
  split at h
  case isFalse => cases h
  rename_i hc
  obtain ⟨hl_, hc⟩ := hc
  obtain ⟨l, rfl⟩ := isI_out hl_
  simp only [ofI_ints, ofBo_bools, ofAs_asks, Option.some.injEq, Prod.mk.injEq] at h hc
  obtain ⟨rfl, rfl⟩ := h
  cases h1 : isSm n l with
  | false =>
    refine is.go hm hΓ k_isDrawnScheme o_isDrawnScheme (by simp [a_isDrawnScheme]) ?_
    simp only [a_isDrawnScheme, h_IsScheme, c_IsScheme, h_IsDoubt, c_IsDoubt, hc, h1, List.zipIdx_cons, List.zipIdx_nil, ↓SP, SQ, Gam.add, stepM, callC, argC, lendO, nmBy, nmC, likeL, likeB, plainOb, offs, exL, X, F, trP, trO, stepD, stepW, newA, SV.tr, SV.trL, fz, allP, Ob.tr, loadA, cellsA, SV.cells, binA, binI, eqOut, isSl, isPt, natOf, callee, snap, SV.refsL, SV.refs, thaw, fzAll, loA, hiA, elemOf, partsA, buildA, putCells, ↓reduceIte, reduceCtorEq, okCell, Nat.reduceAdd, Nat.reduceEqDiff, Nat.reduceSub, Nat.reduceMul, Nat.reduceLeDiff, Nat.reduceLT, Nat.reduceBEq, PV.scal, PV.scalL, SV.scal, SV.scalL, Ob.scal, PV.isCell, pure', resO]
    exact finA_val (by simp [retA, rvA, mkE_cons, mk_nil, mkO_cons, mkO_nil, loadA, SV.tr, SV.trL, nmF, rn_nil, rn_cons1, rn_cons2, plainOb, SV.refsL, SV.refs, Ob.refs, X, F, List.range_succ, mkO, setO_mk]) (by simp [SV.tr, SV.trL])
  | true =>
    by_cases h2 : (l.length : Int) ≤ 12
    · refine is.go hm hΓ k_isDrawnScheme o_isDrawnScheme (by simp [a_isDrawnScheme]) ?_
      simp only [a_isDrawnScheme, h_IsScheme, c_IsScheme, h_IsDoubt, c_IsDoubt, hc, h1, h2, List.zipIdx_cons, List.zipIdx_nil, ↓SP, SQ, Gam.add, stepM, callC, argC, lendO, nmBy, nmC, likeL, likeB, plainOb, offs, exL, X, F, trP, trO, stepD, stepW, newA, SV.tr, SV.trL, fz, allP, Ob.tr, loadA, cellsA, SV.cells, binA, binI, eqOut, isSl, isPt, natOf, callee, snap, SV.refsL, SV.refs, thaw, fzAll, loA, hiA, elemOf, partsA, buildA, putCells, ↓reduceIte, reduceCtorEq, okCell, Nat.reduceAdd, Nat.reduceEqDiff, Nat.reduceSub, Nat.reduceMul, Nat.reduceLeDiff, Nat.reduceLT, Nat.reduceBEq, PV.scal, PV.scalL, SV.scal, SV.scalL, Ob.scal, PV.isCell, pure', resO]
      exact finA_val (by simp [h2, retA, rvA, mkE_cons, mk_nil, mkO_cons, mkO_nil, loadA, SV.tr, SV.trL, nmF, rn_nil, rn_cons1, rn_cons2, plainOb, SV.refsL, SV.refs, Ob.refs, X, F, List.range_succ, mkO, setO_mk]) (by simp [SV.tr, SV.trL])
    · refine is.go hm hΓ k_isDrawnScheme o_isDrawnScheme (by simp [a_isDrawnScheme]) ?_
      simp only [a_isDrawnScheme, h_IsScheme, c_IsScheme, h_IsDoubt, c_IsDoubt, hc, h1, h2, List.zipIdx_cons, List.zipIdx_nil, ↓SP, SQ, Gam.add, stepM, callC, argC, lendO, nmBy, nmC, likeL, likeB, plainOb, offs, exL, X, F, trP, trO, stepD, stepW, newA, SV.tr, SV.trL, fz, allP, Ob.tr, loadA, cellsA, SV.cells, binA, binI, eqOut, isSl, isPt, natOf, callee, snap, SV.refsL, SV.refs, thaw, fzAll, loA, hiA, elemOf, partsA, buildA, putCells, ↓reduceIte, reduceCtorEq, okCell, Nat.reduceAdd, Nat.reduceEqDiff, Nat.reduceSub, Nat.reduceMul, Nat.reduceLeDiff, Nat.reduceLT, Nat.reduceBEq, PV.scal, PV.scalL, SV.scal, SV.scalL, Ob.scal, PV.isCell, pure', resO]
      exact finA_val (by simp [h2, retA, rvA, mkE_cons, mk_nil, mkO_cons, mkO_nil, loadA, SV.tr, SV.trL, nmF, rn_nil, rn_cons1, rn_cons2, plainOb, SV.refsL, SV.refs, Ob.refs, X, F, List.range_succ, mkO, setO_mk]) (by simp [SV.tr, SV.trL])
theorem s_l7Scheme {P : Program} (hm : P.follows .mixedOrders = true) {Γ : Gam} (hΓ : GS P Γ) {n : FuncId} {f_l5Scheme : FuncId} {f_l7Good : FuncId} (is : Is P n (a_l7Scheme f_l5Scheme f_l7Good)) (h_l5Scheme : Γ f_l5Scheme = c_IsScheme) (h_l7Good : Γ f_l7Good = c_IsDoubt)  : Says P n c_isDrawnScheme := by
  refine Says.pure fun args r fs h => ?_
  split at h
  case h_2 => cases h
  rename_i n l_ s o
  split at h
  case isFalse => cases h
  rename_i hc
  obtain ⟨hl_, hc⟩ := hc
  obtain ⟨l, rfl⟩ := isI_out hl_
  simp only [ofI_ints, ofBo_bools, ofAs_asks, Option.some.injEq, Prod.mk.injEq] at h hc
  obtain ⟨rfl, rfl⟩ := h
  cases h1 : isSm n l with
  | false =>
    refine is.go hm hΓ k_l7Scheme o_l7Scheme (by simp [a_l7Scheme]) ?_
    simp only [a_l7Scheme, h_l5Scheme, c_IsScheme, h_l7Good, c_IsDoubt, hc, h1, List.zipIdx_cons, List.zipIdx_nil, ↓SP, SQ, Gam.add, stepM, callC, argC, lendO, nmBy, nmC, likeL, likeB, plainOb, offs, exL, X, F, trP, trO, stepD, stepW, newA, SV.tr, SV.trL, fz, allP, Ob.tr, loadA, cellsA, SV.cells, binA, binI, eqOut, isSl, isPt, natOf, callee, snap, SV.refsL, SV.refs, thaw, fzAll, loA, hiA, elemOf, partsA, buildA, putCells, ↓reduceIte, reduceCtorEq, okCell, Nat.reduceAdd, Nat.reduceEqDiff, Nat.reduceSub, Nat.reduceMul, Nat.reduceLeDiff, Nat.reduceLT, Nat.reduceBEq, PV.scal, PV.scalL, SV.scal, SV.scalL, Ob.scal, PV.isCell, pure', resO]
    exact finA_val (by simp [retA, rvA, mkE_cons, mk_nil, mkO_cons, mkO_nil, loadA, SV.tr, SV.trL, nmF, rn_nil, rn_cons1, rn_cons2, plainOb, SV.refsL, SV.refs, Ob.refs, X, F, List.range_succ, mkO, setO_mk]) (by simp [SV.tr, SV.trL])
  | true =>
    by_cases h2 : (l.length : Int) ≤ 12
    · refine is.go hm hΓ k_l7Scheme o_l7Scheme (by simp [a_l7Scheme]) ?_
      simp only [a_l7Scheme, h_l5Scheme, c_IsScheme, h_l7Good, c_IsDoubt, hc, h1, h2, List.zipIdx_cons, List.zipIdx_nil, ↓SP, SQ, Gam.add, stepM, callC, argC, lendO, nmBy, nmC, likeL, likeB, plainOb, offs, exL, X, F, trP, trO, stepD, stepW, newA, SV.tr, SV.trL, fz, allP, Ob.tr, loadA, cellsA, SV.cells, binA, binI, eqOut, isSl, isPt, natOf, callee, snap, SV.refsL, SV.refs, thaw, fzAll, loA, hiA, elemOf, partsA, buildA, putCells, ↓reduceIte, reduceCtorEq, okCell, Nat.reduceAdd, Nat.reduceEqDiff, Nat.reduceSub, Nat.reduceMul, Nat.reduceLeDiff, Nat.reduceLT, Nat.reduceBEq, PV.scal, PV.scalL, SV.scal, SV.scalL, Ob.scal, PV.isCell, pure', resO]
      exact finA_val (by simp [h2, retA, rvA, mkE_cons, mk_nil, mkO_cons, mkO_nil, loadA, SV.tr, SV.trL, nmF, rn_nil, rn_cons1, rn_cons2, plainOb, SV.refsL, SV.refs, Ob.refs, X, F, List.range_succ, mkO, setO_mk]) (by simp [SV.tr, SV.trL])
    · refine is.go hm hΓ k_l7Scheme o_l7Scheme (by simp [a_l7Scheme]) ?_
      simp only [a_l7Scheme, h_l5Scheme, c_IsScheme, h_l7Good, c_IsDoubt, hc, h1, h2, List.zipIdx_cons, List.zipIdx_nil, ↓SP, SQ, Gam.add, stepM, callC, argC, lendO, nmBy, nmC, likeL, likeB, plainOb, offs, exL, X, F, trP, trO, stepD, stepW, newA, SV.tr, SV.trL, fz, allP, Ob.tr, loadA, cellsA, SV.cells, binA, binI, eqOut, isSl, isPt, natOf, callee, snap, SV.refsL, SV.refs, thaw, fzAll, loA, hiA, elemOf, partsA, buildA, putCells, ↓reduceIte, reduceCtorEq, okCell, Nat.reduceAdd, Nat.reduceEqDiff, Nat.reduceSub, Nat.reduceMul, Nat.reduceLeDiff, Nat.reduceLT, Nat.reduceBEq, PV.scal, PV.scalL, SV.scal, SV.scalL, Ob.scal, PV.isCell, pure', resO]
      exact finA_val (by simp [h2, retA, rvA, mkE_cons, mk_nil, mkO_cons, mkO_nil, loadA, SV.tr, SV.trL, nmF, rn_nil, rn_cons1, rn_cons2, plainOb, SV.refsL, SV.refs, Ob.refs, X, F, List.range_succ, mkO, setO_mk]) (by simp [SV.tr, SV.trL])
end Go.Proofs.Ytmbljmolegalhaa.Pam
