/- A part of the proof that stands in this folder: a small machine whose steps are shown to be the steps of the model, or walks of functions by it. No condition of its own. -/
import Derived.Test.YtmbljmolegalhaaGeLU
set_option linter.unusedVariables false
set_option linter.unusedSimpArgs false
namespace Go.Proofs.Ytmbljmolegalhaa.Pam
open Go
/-- The ones of a number, of f places. -/
def pcN : Nat → Nat → Nat
  | 0, _ => 0
  | f + 1, x => x % 2 + pcN f (x / 2)
theorem pcN_zero : ∀ f, pcN f 0 = 0
  | 0 => rfl
  | f + 1 => by simp only [pcN, Nat.zero_mod, Nat.zero_div, pcN_zero f]
theorem pcN_le : ∀ f x, pcN f x ≤ f
  | 0, _ => by simp [pcN]
  | f + 1, x => by
    have := pcN_le f (x / 2)
    have := Nat.mod_lt x (y := 2) (by omega)
    simp only [pcN]; omega
/-- The stages of counting ones. -/
def oc1 (x : Int) : Int := IntKind.u64.wrap (andW .u64 (x.fdiv (2 ^ min (Int.toNat 1) IntKind.u64.bits)) 6148914691236517205 + andW .u64 x 6148914691236517205)
def oc2 (x : Int) : Int := IntKind.u64.wrap (andW .u64 (x.fdiv (2 ^ min (Int.toNat 2) IntKind.u64.bits)) 3689348814741910323 + andW .u64 x 3689348814741910323)
def oc3 (x : Int) : Int := andW .u64 (IntKind.u64.wrap (x.fdiv (2 ^ min (Int.toNat 4) IntKind.u64.bits) + x)) 1085102592571150095
def oc4 (x : Int) : Int := IntKind.u64.wrap (x + x.fdiv (2 ^ min (Int.toNat 8) IntKind.u64.bits))
def oc5 (x : Int) : Int := IntKind.u64.wrap (x + x.fdiv (2 ^ min (Int.toNat 16) IntKind.u64.bits))
def oc6 (x : Int) : Int := IntKind.u64.wrap (x + x.fdiv (2 ^ min (Int.toNat 32) IntKind.u64.bits))
def oc (x : Int) : Int := andW .i64 (IntKind.i64.wrap (oc6 (oc5 (oc4 (oc3 (oc2 (oc1 x))))))) 127
theorem oc_all2 : ∀ a, a < 128 → ∀ b, b < 128 → oc ((128 * a + b : Nat) : Int) = (pcN 14 (128 * a + b) : Int) := by decide +kernel
theorem oc_all (x : Nat) (h : x < 16384) : oc (x : Nat) = (pcN 14 x : Int) := by
  have := oc_all2 (x / 128) (by omega) (x % 128) (by omega)
  rwa [show 128 * (x / 128) + x % 128 = x by omega] at this
def a_OnesCount64 : AFn := ⟨1, 
  .seq (.reg [⟨some 2, none, .d (.mv (.c (.int .i64 0)))⟩])
  (.seq (.reg [⟨some 3, none, .d (.mv (.t 0))⟩,
    ⟨some 4, none, .d (.bin .arith .shr (.t 3) (.c (.int .u64 1)))⟩,
    ⟨some 5, none, .d (.bin .arith .and (.t 4) (.c (.int .u64 6148914691236517205)))⟩,
    ⟨some 6, none, .d (.mv (.t 0))⟩,
    ⟨some 7, none, .d (.bin .arith .and (.t 6) (.c (.int .u64 6148914691236517205)))⟩,
    ⟨some 8, none, .d (.bin .arith .add (.t 5) (.t 7))⟩,
    ⟨some 0, none, .d (.mv (.t 8))⟩])
  (.seq (.reg [⟨some 9, none, .d (.mv (.t 0))⟩,
    ⟨some 10, none, .d (.bin .arith .shr (.t 9) (.c (.int .u64 2)))⟩,
    ⟨some 11, none, .d (.bin .arith .and (.t 10) (.c (.int .u64 3689348814741910323)))⟩,
    ⟨some 12, none, .d (.mv (.t 0))⟩,
    ⟨some 13, none, .d (.bin .arith .and (.t 12) (.c (.int .u64 3689348814741910323)))⟩,
    ⟨some 14, none, .d (.bin .arith .add (.t 11) (.t 13))⟩,
    ⟨some 0, none, .d (.mv (.t 14))⟩])
  (.seq (.reg [⟨some 15, none, .d (.mv (.t 0))⟩,
    ⟨some 16, none, .d (.bin .arith .shr (.t 15) (.c (.int .u64 4)))⟩,
    ⟨some 17, none, .d (.mv (.t 0))⟩,
    ⟨some 18, none, .d (.bin .arith .add (.t 16) (.t 17))⟩,
    ⟨some 19, none, .d (.bin .arith .and (.t 18) (.c (.int .u64 1085102592571150095)))⟩,
    ⟨some 0, none, .d (.mv (.t 19))⟩])
  (.seq (.reg [⟨some 20, none, .d (.mv (.t 0))⟩,
    ⟨some 21, none, .d (.mv (.t 0))⟩,
    ⟨some 22, none, .d (.bin .arith .shr (.t 21) (.c (.int .u64 8)))⟩,
    ⟨some 23, none, .d (.bin .arith .add (.t 20) (.t 22))⟩,
    ⟨some 0, none, .d (.mv (.t 23))⟩])
  (.seq (.reg [⟨some 24, none, .d (.mv (.t 0))⟩,
    ⟨some 25, none, .d (.mv (.t 0))⟩,
    ⟨some 26, none, .d (.bin .arith .shr (.t 25) (.c (.int .u64 16)))⟩,
    ⟨some 27, none, .d (.bin .arith .add (.t 24) (.t 26))⟩,
    ⟨some 0, none, .d (.mv (.t 27))⟩])
  (.seq (.reg [⟨some 28, none, .d (.mv (.t 0))⟩,
    ⟨some 29, none, .d (.mv (.t 0))⟩,
    ⟨some 30, none, .d (.bin .arith .shr (.t 29) (.c (.int .u64 32)))⟩,
    ⟨some 31, none, .d (.bin .arith .add (.t 28) (.t 30))⟩,
    ⟨some 0, none, .d (.mv (.t 31))⟩])
  (.seq (.reg [⟨some 32, none, .d (.mv (.t 0))⟩,
    ⟨some 33, none, .d (.conv .i64 (.t 32))⟩,
    ⟨some 34, none, .d (.bin .arith .and (.t 33) (.c (.int .i64 127)))⟩,
    ⟨some 2, none, .d (.mv (.t 34))⟩])
  (.ret)))))))), [.tmp 2]⟩
def n_OnesCount64 : Nat → Option Ann := fun _ => none
abbrev k_OnesCount64 : List Nat := [0, 2]
abbrev o_OnesCount64 : List Nat := []
def c_OnesCount64 : Con := pure' fun
  | [.p (.int .u64 x)] => if 0 ≤ x ∧ x < 16384 then some (.p (.int .i64 (pcN 14 x.toNat : Int)), []) else none
  | _ => none
theorem s_OnesCount64 {P : Program} (hm : P.follows .mixedOrders = true) {Γ : Gam} (hΓ : GS P Γ) {n : FuncId} (is : Is P n a_OnesCount64)  : Says P n c_OnesCount64 := by
  refine Says.pure fun args r fs h => ?_
  split at h
  case h_2 => cases h
  rename_i x
  split at h
  case isFalse => cases h
  rename_i hc
  simp only [Option.some.injEq, Prod.mk.injEq] at h
  obtain ⟨rfl, rfl⟩ := h
  refine is.go hm hΓ k_OnesCount64 o_OnesCount64 (by simp [a_OnesCount64]) ?_
  simp only [a_OnesCount64, bitA_and, Int.reduceLT, List.zipIdx_cons, List.zipIdx_nil, ↓SP, SQ, Gam.add, stepM, callC, argC, lendO, nmBy, nmC, likeL, likeB, plainOb, offs, X, F, trP, trO, stepD, stepW, newA, SV.tr, SV.trL, fz, allP, Ob.tr, loadA, cellsA, SV.cells, binA, binI, eqOut, isSl, isPt, natOf, callee, snap, SV.refsL, SV.refs, thaw, fzAll, loA, hiA, elemOf, partsA, buildA, putCells, ↓reduceIte, reduceCtorEq, okCell, Nat.reduceAdd, Nat.reduceEqDiff, Nat.reduceSub, Nat.reduceMul, Nat.reduceLeDiff, Nat.reduceLT, Nat.reduceBEq, PV.scal, PV.scalL, SV.scal, SV.scalL, Ob.scal, PV.isCell, pure', resO]
  have e := oc_all x.toNat (by omega)
  rw [show ((x.toNat : Nat) : Int) = x by omega] at e
  simp only [oc, oc1, oc2, oc3, oc4, oc5, oc6] at e
  simp only [e]
  exact finA_val (by simp [retA, rvA, List.mapM_cons, List.mapM_nil, Option.pure_def, Option.bind_eq_bind, Option.bind_some, Option.map_some, mkE_cons, mk_nil, mkO_cons, mkO_nil, loadA, ↓reduceIte, List.take_succ_cons, List.take_zero, List.drop_zero, List.drop_succ_cons, List.length_cons, List.length_nil, Nat.reduceAdd, Nat.reduceEqDiff, Nat.reduceLeDiff, Nat.zero_add, Nat.le_refl, reduceCtorEq, SV.tr, SV.trL, nmF, rn_nil, rn_cons1, rn_cons2, List.map_cons, List.map_nil, List.all_cons, List.all_nil, plainOb, SV.refsL, SV.refs, Ob.refs, X, F, List.range_succ, List.range_zero, List.nil_append, List.cons_append, List.isEmpty_nil, decide_true, Nat.reduceLT, Bool.and_self, Bool.and_true, and_self, and_true, List.getElem?_cons_zero, List.getElem?_cons_succ, List.nodup_cons, List.nodup_nil, List.mem_cons, List.not_mem_nil, not_false_eq_true, or_false, List.append_nil, mkO, setO_mk, List.mem_singleton]) (by simp [SV.tr, SV.trL])
def a_l5Apart : AFn := ⟨2, 
  .seq (.reg [⟨some 4, none, .d (.mv (.c (.int .i64 0)))⟩])
  (.seq (.reg [⟨some 5, none, .d (.mv (.c (.int .i64 0)))⟩])
  (.seq (.seq (.reg [⟨some 7, none, .d (.mv (.t 0))⟩,
    ⟨some 8, none, .d (.mv (.t 1))⟩,
    ⟨some 9, none, .d (.bin .arith .xor (.t 7) (.t 8))⟩,
    ⟨some 6, none, .d (.mv (.t 9))⟩])
  (.block 0 (.loop (.seq (.seq (.reg [⟨some 10, none, .d (.mv (.t 6))⟩,
      ⟨some 11, none, .d (.bin .arith .gtr (.t 10) (.c (.int .i64 0)))⟩])
    (.cond (.t 11) (.skip) (.exit 0)))
    (.seq (.block 1 (.reg [⟨some 14, none, .d (.mv (.t 5))⟩,
       ⟨some 15, none, .d (.mv (.t 6))⟩,
       ⟨some 16, none, .d (.bin .arith .and (.t 15) (.c (.int .i64 1)))⟩,
       ⟨some 17, none, .d (.bin .arith .add (.t 14) (.t 16))⟩,
       ⟨some 5, none, .d (.mv (.t 17))⟩]))
    (.reg [⟨some 12, none, .d (.mv (.t 6))⟩,
      ⟨some 13, none, .d (.bin .arith .shr (.t 12) (.c (.int .u64 1)))⟩,
      ⟨some 6, none, .d (.mv (.t 13))⟩]))))))
  (.seq (.reg [⟨some 18, none, .d (.mv (.t 5))⟩,
    ⟨some 4, none, .d (.mv (.t 18))⟩])
  (.ret)))), [.tmp 4]⟩
def n_l5Apart : Nat → Option Ann := fun _ => none
abbrev k_l5Apart : List Nat := [0, 1, 4, 5, 6, 11]
abbrev o_l5Apart : List Nat := []
def c_l5Apart : Con := pure' fun
  | [.p (.int .i64 a), .p (.int .i64 b)] => if (0 ≤ a ∧ a < 16384 ∧ 0 ≤ b ∧ b < 16384) then some (.p (.int .i64 (pcN 14 (a.toNat ^^^ b.toNat) : Int)), []) else none
  | _ => none
theorem s_l5Apart {P : Program} (hm : P.follows .mixedOrders = true) {Γ : Gam} (hΓ : GS P Γ) {n : FuncId} (is : Is P n a_l5Apart)  : Says P n c_l5Apart := by
  refine Says.pure fun args r fs h => ?_
  split at h
  case h_2 => cases h
  rename_i a b
  split at h
  case isFalse => cases h
  rename_i hc
  simp only [ofI_ints, ofBo_bools, ofAs_asks, Option.some.injEq, Prod.mk.injEq] at h hc
  obtain ⟨rfl, rfl⟩ := h
  obtain ⟨h0, h1, h2, h3⟩ := hc
  obtain ⟨a, rfl⟩ : ∃ j : Nat, a = j := ⟨a.toNat, by omega⟩
  obtain ⟨b, rfl⟩ : ∃ j : Nat, b = j := ⟨b.toNat, by omega⟩
  simp only [Int.toNat_natCast]
  have hx := xorW_nat (a := a) (b := b) (by omega) (by omega)
  have hlt : a ^^^ b < 2 ^ 14 := Nat.xor_lt_two_pow (by omega) (by omega)
  generalize a ^^^ b = x at *
  refine is.go hm hΓ k_l5Apart o_l5Apart (by simp [a_l5Apart]) ?_
  simp only [a_l5Apart, bitA_xor, hx, List.zipIdx_cons, List.zipIdx_nil, ↓SP, SQ, Gam.add, stepM, callC, argC, lendO, nmBy, nmC, likeL, likeB, plainOb, offs, X, F, trP, trO, stepD, stepW, newA, SV.tr, SV.trL, fz, allP, Ob.tr, loadA, cellsA, SV.cells, binA, binI, eqOut, isSl, isPt, natOf, callee, snap, SV.refsL, SV.refs, thaw, fzAll, loA, hiA, elemOf, partsA, buildA, putCells, ↓reduceIte, reduceCtorEq, okCell, Nat.reduceAdd, Nat.reduceEqDiff, Nat.reduceSub, Nat.reduceMul, Nat.reduceLeDiff, Nat.reduceLT, Nat.reduceBEq, PV.scal, PV.scalL, SV.scal, SV.scalL, Ob.scal, PV.isCell, pure', resO]
  refine loop_at (fun s : Nat × Nat × Nat × SV => mkEnv [(0, si a), (1, si b), (4, si 0), (5, si s.2.1), (6, si s.2.2.1), (11, s.2.2.2)]) (fun s => mkO []) (fun s => s.2.2.1 < 2 ^ s.1 ∧ s.1 ≤ 14 ∧ s.2.1 + pcN s.1 s.2.2.1 = pcN 14 x) (fun s => s.2.2.1) (14, 0, x, .junk) ⟨hlt, Nat.le_refl _, by simp⟩ rfl rfl ?_
  rintro ⟨f, c, y, c1⟩ ⟨hy, hf, he⟩ R hR hN
  simp only at hy hf he
  by_cases h : y = 0
  · have h1' : ¬ (y : Int) > 0 := by omega
    have hcc : c = pcN 14 x := by rw [← he, h, pcN_zero]; rfl
    simp only [h1', ↓SP, SQ, Gam.add, stepM, callC, argC, lendO, nmBy, nmC, likeL, likeB, plainOb, offs, X, F, trP, trO, stepD, stepW, newA, SV.tr, SV.trL, fz, allP, Ob.tr, loadA, cellsA, SV.cells, binA, binI, eqOut, isSl, isPt, natOf, callee, snap, SV.refsL, SV.refs, thaw, fzAll, loA, hiA, elemOf, partsA, buildA, putCells, ↓reduceIte, reduceCtorEq, okCell, Nat.reduceAdd, Nat.reduceEqDiff, Nat.reduceSub, Nat.reduceMul, Nat.reduceLeDiff, Nat.reduceLT, Nat.reduceBEq, PV.scal, PV.scalL, SV.scal, SV.scalL, Ob.scal, PV.isCell, pure', resO]
    refine hR _ _ _ (by intro h; cases h) ?_
    simp only [↓SP, SQ, Gam.add, stepM, callC, argC, lendO, nmBy, nmC, likeL, likeB, plainOb, offs, X, F, trP, trO, stepD, stepW, newA, SV.tr, SV.trL, fz, allP, Ob.tr, loadA, cellsA, SV.cells, binA, binI, eqOut, isSl, isPt, natOf, callee, snap, SV.refsL, SV.refs, thaw, fzAll, loA, hiA, elemOf, partsA, buildA, putCells, ↓reduceIte, reduceCtorEq, okCell, Nat.reduceAdd, Nat.reduceEqDiff, Nat.reduceSub, Nat.reduceMul, Nat.reduceLeDiff, Nat.reduceLT, Nat.reduceBEq, PV.scal, PV.scalL, SV.scal, SV.scalL, Ob.scal, PV.isCell, pure', resO]
    rw [hcc]
    exact finA_val (by simp [retA, rvA, List.mapM_cons, List.mapM_nil, Option.pure_def, Option.bind_eq_bind, Option.bind_some, Option.map_some, mkE_cons, mk_nil, mkO_cons, mkO_nil, loadA, ↓reduceIte, List.take_succ_cons, List.take_zero, List.drop_zero, List.drop_succ_cons, List.length_cons, List.length_nil, Nat.reduceAdd, Nat.reduceEqDiff, Nat.reduceLeDiff, Nat.zero_add, Nat.le_refl, reduceCtorEq, SV.tr, SV.trL, nmF, rn_nil, rn_cons1, rn_cons2, List.map_cons, List.map_nil, List.all_cons, List.all_nil, plainOb, SV.refsL, SV.refs, Ob.refs, X, F, List.range_succ, List.range_zero, List.nil_append, List.cons_append, List.isEmpty_nil, decide_true, Nat.reduceLT, Bool.and_self, Bool.and_true, and_self, and_true, List.getElem?_cons_zero, List.getElem?_cons_succ, List.nodup_cons, List.nodup_nil, List.mem_cons, List.not_mem_nil, not_false_eq_true, or_false, List.append_nil, mkO, setO_mk, List.mem_singleton]) (by simp [SV.tr, SV.trL])
  · have h1' : (y : Int) > 0 := by omega
    cases f with
    | zero => simp at hy; omega
    | succ f =>
      have hb := pcN_le (f + 1) y
      have hb2 := pcN_le 14 x
      have hand : andW .i64 (y : Int) 1 = ((y % 2 : Nat) : Int) := by
        have := andW_nat (a := y) (b := 1) (by have := pow14 hf; omega) (by omega)
        rwa [Nat.and_one_is_mod] at this
      have hdv : (y : Int).fdiv (2 ^ min (Int.toNat 1) IntKind.i64.bits) = ((y / 2 : Nat) : Int) := by
        show (y : Int).fdiv 2 = _
        rw [Int.fdiv_eq_ediv_of_nonneg _ (by omega)]; omega
      have hadd : IntKind.i64.wrap ((c : Int) + ((y % 2 : Nat) : Int)) = ((c + y % 2 : Nat) : Int) := by rw [wrap64 (by omega) (by omega)]; omega
      simp only [h1', bitA_and, hand, hadd, hdv, shfI, Int.reduceLT, ↓SP, SQ, Gam.add, stepM, callC, argC, lendO, nmBy, nmC, likeL, likeB, plainOb, offs, X, F, trP, trO, stepD, stepW, newA, SV.tr, SV.trL, fz, allP, Ob.tr, loadA, cellsA, SV.cells, binA, binI, eqOut, isSl, isPt, natOf, callee, snap, SV.refsL, SV.refs, thaw, fzAll, loA, hiA, elemOf, partsA, buildA, putCells, ↓reduceIte, reduceCtorEq, okCell, Nat.reduceAdd, Nat.reduceEqDiff, Nat.reduceSub, Nat.reduceMul, Nat.reduceLeDiff, Nat.reduceLT, Nat.reduceBEq, PV.scal, PV.scalL, SV.scal, SV.scalL, Ob.scal, PV.isCell, pure', resO]
      refine hN (f, c + y % 2, y / 2, _) _ _ ⟨by simp only; rw [Nat.pow_succ] at hy; omega, by simp only; omega, ?_⟩ (by simp only; omega) rfl rfl
      simp only [pcN] at he ⊢
      omega
def a_OnesCount (f_OnesCount32 : FuncId) (f_OnesCount64 : FuncId) : AFn := ⟨1, 
  .seq (.reg [⟨some 2, none, .d (.mv (.c (.int .i64 0)))⟩])
  (.seq (.cond (.c (.bool false)) (.seq (.reg [⟨some 3, none, .d (.mv (.t 0))⟩,
     ⟨some 4, none, .d (.conv .u32 (.t 3))⟩,
     ⟨some 5, none, .d (.call (.f f_OnesCount32) [(.t 4)])⟩,
     ⟨some 2, none, .d (.mv (.t 5))⟩])
   (.ret)) (.skip))
  (.seq (.reg [⟨some 6, none, .d (.mv (.t 0))⟩,
    ⟨some 7, none, .d (.call (.f f_OnesCount64) [(.t 6)])⟩,
    ⟨some 2, none, .d (.mv (.t 7))⟩])
  (.ret))), [.tmp 2]⟩
def n_OnesCount : Nat → Option Ann := fun _ => none
abbrev k_OnesCount : List Nat := [0, 2]
abbrev o_OnesCount : List Nat := []
theorem s_OnesCount {P : Program} (hm : P.follows .mixedOrders = true) {Γ : Gam} (hΓ : GS P Γ) {n : FuncId} {f_OnesCount32 : FuncId} {f_OnesCount64 : FuncId} (is : Is P n (a_OnesCount f_OnesCount32 f_OnesCount64)) (h_OnesCount64 : Γ f_OnesCount64 = c_OnesCount64)  : Says P n c_OnesCount64 := by
  refine Says.pure fun args r fs h => ?_
  split at h
  case h_2 => cases h
  rename_i x
  split at h
  case isFalse => cases h
  rename_i hc
  simp only [Option.some.injEq, Prod.mk.injEq] at h
  obtain ⟨rfl, rfl⟩ := h
  refine is.go hm hΓ k_OnesCount o_OnesCount (by simp [a_OnesCount]) ?_
  simp only [a_OnesCount, h_OnesCount64, c_OnesCount64, hc, List.zipIdx_cons, List.zipIdx_nil, ↓SP, SQ, Gam.add, stepM, callC, argC, lendO, nmBy, nmC, likeL, likeB, plainOb, offs, X, F, trP, trO, stepD, stepW, newA, SV.tr, SV.trL, fz, allP, Ob.tr, loadA, cellsA, SV.cells, binA, binI, eqOut, isSl, isPt, natOf, callee, snap, SV.refsL, SV.refs, thaw, fzAll, loA, hiA, elemOf, partsA, buildA, putCells, ↓reduceIte, reduceCtorEq, okCell, Nat.reduceAdd, Nat.reduceEqDiff, Nat.reduceSub, Nat.reduceMul, Nat.reduceLeDiff, Nat.reduceLT, Nat.reduceBEq, PV.scal, PV.scalL, SV.scal, SV.scalL, Ob.scal, PV.isCell, pure', resO]
  exact finA_val (by simp [retA, rvA, List.mapM_cons, List.mapM_nil, Option.pure_def, Option.bind_eq_bind, Option.bind_some, Option.map_some, mkE_cons, mk_nil, mkO_cons, mkO_nil, loadA, ↓reduceIte, List.take_succ_cons, List.take_zero, List.drop_zero, List.drop_succ_cons, List.length_cons, List.length_nil, Nat.reduceAdd, Nat.reduceEqDiff, Nat.reduceLeDiff, Nat.zero_add, Nat.le_refl, reduceCtorEq, SV.tr, SV.trL, nmF, rn_nil, rn_cons1, rn_cons2, List.map_cons, List.map_nil, List.all_cons, List.all_nil, plainOb, SV.refsL, SV.refs, Ob.refs, X, F, List.range_succ, List.range_zero, List.nil_append, List.cons_append, List.isEmpty_nil, decide_true, Nat.reduceLT, Bool.and_self, Bool.and_true, and_self, and_true, List.getElem?_cons_zero, List.getElem?_cons_succ, List.nodup_cons, List.nodup_nil, List.mem_cons, List.not_mem_nil, not_false_eq_true, or_false, List.append_nil, mkO, setO_mk, List.mem_singleton]) (by simp [SV.tr, SV.trL])
def a_apart (f_OnesCount : FuncId) : AFn := ⟨2, 
  .seq (.reg [⟨some 4, none, .d (.mv (.c (.int .i64 0)))⟩])
  (.seq (.reg [⟨some 5, none, .d (.mv (.t 0))⟩,
    ⟨some 6, none, .d (.mv (.t 1))⟩,
    ⟨some 7, none, .d (.bin .arith .xor (.t 5) (.t 6))⟩,
    ⟨some 8, none, .d (.conv .u64 (.t 7))⟩,
    ⟨some 9, none, .d (.call (.f f_OnesCount) [(.t 8)])⟩,
    ⟨some 4, none, .d (.mv (.t 9))⟩])
  (.ret)), [.tmp 4]⟩
def n_apart : Nat → Option Ann := fun _ => none
abbrev k_apart : List Nat := [0, 1, 4]
abbrev o_apart : List Nat := []
theorem s_apart {P : Program} (hm : P.follows .mixedOrders = true) {Γ : Gam} (hΓ : GS P Γ) {n : FuncId} {f_OnesCount : FuncId} (is : Is P n (a_apart f_OnesCount)) (h_OnesCount : Γ f_OnesCount = c_OnesCount64)  : Says P n c_l5Apart := by
  refine Says.pure fun args r fs h => ?_
  split at h
  case h_2 => cases h
  rename_i a b
  split at h
  case isFalse => cases h
  rename_i hc
  simp only [ofI_ints, ofBo_bools, ofAs_asks, Option.some.injEq, Prod.mk.injEq] at h hc
  obtain ⟨rfl, rfl⟩ := h
  obtain ⟨h0, h1, h2, h3⟩ := hc
  obtain ⟨a, rfl⟩ : ∃ j : Nat, a = j := ⟨a.toNat, by omega⟩
  obtain ⟨b, rfl⟩ : ∃ j : Nat, b = j := ⟨b.toNat, by omega⟩
  simp only [Int.toNat_natCast]
  have hx := xorW_nat (a := a) (b := b) (by omega) (by omega)
  have hlt : a ^^^ b < 2 ^ 14 := Nat.xor_lt_two_pow (by omega) (by omega)
  generalize a ^^^ b = x at *
  have g0 : (0 : Int) ≤ x := by omega
  have g1 : (x : Int) < 16384 := by omega
  have g2 : IntKind.u64.wrap (x : Int) = (x : Int) := by
    show ((x : Int) % 2 ^ 64) = x
    omega
  refine is.go hm hΓ k_apart o_apart (by simp [a_apart]) ?_
  simp only [a_apart, h_OnesCount, c_OnesCount64, bitA_xor, hx, g0, g1, g2, Int.toNat_natCast, List.zipIdx_cons, List.zipIdx_nil, ↓SP, SQ, Gam.add, stepM, callC, argC, lendO, nmBy, nmC, likeL, likeB, plainOb, offs, X, F, trP, trO, stepD, stepW, newA, SV.tr, SV.trL, fz, allP, Ob.tr, loadA, cellsA, SV.cells, binA, binI, eqOut, isSl, isPt, natOf, callee, snap, SV.refsL, SV.refs, thaw, fzAll, loA, hiA, elemOf, partsA, buildA, putCells, ↓reduceIte, reduceCtorEq, okCell, Nat.reduceAdd, Nat.reduceEqDiff, Nat.reduceSub, Nat.reduceMul, Nat.reduceLeDiff, Nat.reduceLT, Nat.reduceBEq, PV.scal, PV.scalL, SV.scal, SV.scalL, Ob.scal, PV.isCell, pure', resO]
  exact finA_val (by simp [retA, rvA, List.mapM_cons, List.mapM_nil, Option.pure_def, Option.bind_eq_bind, Option.bind_some, Option.map_some, mkE_cons, mk_nil, mkO_cons, mkO_nil, loadA, ↓reduceIte, List.take_succ_cons, List.take_zero, List.drop_zero, List.drop_succ_cons, List.length_cons, List.length_nil, Nat.reduceAdd, Nat.reduceEqDiff, Nat.reduceLeDiff, Nat.zero_add, Nat.le_refl, reduceCtorEq, SV.tr, SV.trL, nmF, rn_nil, rn_cons1, rn_cons2, List.map_cons, List.map_nil, List.all_cons, List.all_nil, plainOb, SV.refsL, SV.refs, Ob.refs, X, F, List.range_succ, List.range_zero, List.nil_append, List.cons_append, List.isEmpty_nil, decide_true, Nat.reduceLT, Bool.and_self, Bool.and_true, and_self, and_true, List.getElem?_cons_zero, List.getElem?_cons_succ, List.nodup_cons, List.nodup_nil, List.mem_cons, List.not_mem_nil, not_false_eq_true, or_false, List.append_nil, mkO, setO_mk, List.mem_singleton]) (by simp [SV.tr, SV.trL])
def fitW (w : List Int) : Prop := ∀ x ∈ w, 0 ≤ x ∧ x < 16384
instance (p : List Int) : Decidable (fitW p) := inferInstanceAs (Decidable (∀ x ∈ p, 0 ≤ x ∧ x < 16384))
theorem fitW_get {w : List Int} (h : fitW w) {i : Nat} (hi : i < w.length) : 0 ≤ w.getD i 0 ∧ w.getD i 0 < 16384 := h (w.getD i 0) (by rw [getD_lt hi]; exact List.getElem_mem hi)
theorem wdL_fit (l : List Int) (n : Nat) (h : l.length ≤ 14) : fitW (wdL l n) := by
  intro x hx
  simp only [wdL, List.mem_map, List.mem_range] at hx
  obtain ⟨j, hj, rfl⟩ := hx
  have := wdN_lt l j l.length
  have := pow14 h
  omega
def a_isDrawnScheme (f_IsScheme : FuncId) (f_IsDoubt : FuncId) : AFn := ⟨3, 
  .seq (.reg [⟨some 5, none, .w (.box 2 (.t 2))⟩,
    ⟨some 6, none, .d (.mv (.c (.bool false)))⟩])
  (.seq (.reg [⟨some 7, none, .d (.mv (.t 0))⟩,
    ⟨some 8, none, .d (.mv (.t 1))⟩,
    ⟨some 9, none, .d (.call (.f f_IsScheme) [(.t 7), (.t 8)])⟩,
    ⟨some 10, none, .d (.mv (.t 9))⟩,
    ⟨some 11, some (10, true), .d (.mv (.t 1))⟩,
    ⟨some 12, some (10, true), .d (.len (.t 11))⟩,
    ⟨some 13, some (10, true), .d (.bin .arith .leq (.t 12) (.c (.int .i64 12)))⟩,
    ⟨some 14, none, .d (.pick (.t 10) (.t 13) (.c (.bool false)))⟩,
    ⟨some 15, none, .d (.mv (.t 14))⟩,
    ⟨some 16, some (15, true), .d (.load true 2 (.t 5))⟩,
    ⟨some 17, some (15, true), .d (.call (.f f_IsDoubt) [(.t 16)])⟩,
    ⟨some 18, none, .d (.pick (.t 15) (.t 17) (.c (.bool false)))⟩,
    ⟨some 6, none, .d (.mv (.t 18))⟩])
  (.ret)), [.tmp 6]⟩
def n_isDrawnScheme : Nat → Option Ann := fun _ => none
abbrev k_isDrawnScheme : List Nat := [0, 1, 2, 5, 6]
abbrev o_isDrawnScheme : List Nat := [5]
def a_l7Scheme (f_l5Scheme : FuncId) (f_l7Good : FuncId) : AFn := ⟨3, 
  .seq (.reg [⟨some 5, none, .w (.box 2 (.t 2))⟩,
    ⟨some 6, none, .d (.mv (.c (.bool false)))⟩])
  (.seq (.reg [⟨some 7, none, .d (.mv (.t 0))⟩,
    ⟨some 8, none, .d (.mv (.t 1))⟩,
    ⟨some 9, none, .d (.call (.f f_l5Scheme) [(.t 7), (.t 8)])⟩,
    ⟨some 10, none, .d (.mv (.t 9))⟩,
    ⟨some 11, some (10, true), .d (.mv (.t 1))⟩,
    ⟨some 12, some (10, true), .d (.len (.t 11))⟩,
    ⟨some 13, some (10, true), .d (.bin .arith .leq (.t 12) (.c (.int .i64 12)))⟩,
    ⟨some 14, none, .d (.pick (.t 10) (.t 13) (.c (.bool false)))⟩,
    ⟨some 15, none, .d (.mv (.t 14))⟩,
    ⟨some 16, some (15, true), .d (.load true 2 (.t 5))⟩,
    ⟨some 17, some (15, true), .d (.call (.f f_l7Good) [(.t 16)])⟩,
    ⟨some 18, none, .d (.pick (.t 15) (.t 17) (.c (.bool false)))⟩,
    ⟨some 6, none, .d (.mv (.t 18))⟩])
  (.ret)), [.tmp 6]⟩
def n_l7Scheme : Nat → Option Ann := fun _ => none
abbrev k_l7Scheme : List Nat := [0, 1, 2, 5, 6]
abbrev o_l7Scheme : List Nat := [5]
def c_isDrawnScheme : Con := pure' fun
  | [.p (.int .i64 n), .p (.sl 1 l_), .p (.agg [.int .i64 s, .int .i64 o])] => if isI l_ = true ∧ ((ofI l_).length ≤ 1100000) then some (.p (.bool (isSm n (ofI l_) && decide (((ofI l_).length : Int) ≤ 12) && isD s o)), []) else none
  | _ => none
theorem s_isDrawnScheme {P : Program} (hm : P.follows .mixedOrders = true) {Γ : Gam} (hΓ : GS P Γ) {n : FuncId} {f_IsScheme : FuncId} {f_IsDoubt : FuncId} (is : Is P n (a_isDrawnScheme f_IsScheme f_IsDoubt)) (h_IsScheme : Γ f_IsScheme = c_IsScheme) (h_IsDoubt : Γ f_IsDoubt = c_IsDoubt)  : Says P n c_isDrawnScheme := by
  refine Says.pure fun args r fs h => ?_
  split at h
  case h_2 => cases h
  rename_i n l_ s o
  split at h
  case isFalse => cases h
  rename_i hc
  obtain ⟨hl_, hc⟩ := hc
  obtain ⟨l, rfl⟩ := isI_out hl_
  simp only [ofI_ints, ofBo_bools, ofAs_asks, Option.some.injEq, Prod.mk.injEq] at h hc
  obtain ⟨rfl, rfl⟩ := h
  cases h1 : isSm n l with
  | false =>
    refine is.go hm hΓ k_isDrawnScheme o_isDrawnScheme (by simp [a_isDrawnScheme]) ?_
    simp only [a_isDrawnScheme, h_IsScheme, c_IsScheme, h_IsDoubt, c_IsDoubt, hc, h1, List.zipIdx_cons, List.zipIdx_nil, ↓SP, SQ, Gam.add, stepM, callC, argC, lendO, nmBy, nmC, likeL, likeB, plainOb, offs, X, F, trP, trO, stepD, stepW, newA, SV.tr, SV.trL, fz, allP, Ob.tr, loadA, cellsA, SV.cells, binA, binI, eqOut, isSl, isPt, natOf, callee, snap, SV.refsL, SV.refs, thaw, fzAll, loA, hiA, elemOf, partsA, buildA, putCells, ↓reduceIte, reduceCtorEq, okCell, Nat.reduceAdd, Nat.reduceEqDiff, Nat.reduceSub, Nat.reduceMul, Nat.reduceLeDiff, Nat.reduceLT, Nat.reduceBEq, PV.scal, PV.scalL, SV.scal, SV.scalL, Ob.scal, PV.isCell, pure', resO]
    exact finA_val (by simp [retA, rvA, List.mapM_cons, List.mapM_nil, Option.pure_def, Option.bind_eq_bind, Option.bind_some, Option.map_some, mkE_cons, mk_nil, mkO_cons, mkO_nil, loadA, ↓reduceIte, List.take_succ_cons, List.take_zero, List.drop_zero, List.drop_succ_cons, List.length_cons, List.length_nil, Nat.reduceAdd, Nat.reduceEqDiff, Nat.reduceLeDiff, Nat.zero_add, Nat.le_refl, reduceCtorEq, SV.tr, SV.trL, nmF, rn_nil, rn_cons1, rn_cons2, List.map_cons, List.map_nil, List.all_cons, List.all_nil, plainOb, SV.refsL, SV.refs, Ob.refs, X, F, List.range_succ, List.range_zero, List.nil_append, List.cons_append, List.isEmpty_nil, decide_true, Nat.reduceLT, Bool.and_self, Bool.and_true, and_self, and_true, List.getElem?_cons_zero, List.getElem?_cons_succ, List.nodup_cons, List.nodup_nil, List.mem_cons, List.not_mem_nil, not_false_eq_true, or_false, List.append_nil, mkO, setO_mk, List.mem_singleton]) (by simp [SV.tr, SV.trL])
  | true =>
    by_cases h2 : (l.length : Int) ≤ 12
    · refine is.go hm hΓ k_isDrawnScheme o_isDrawnScheme (by simp [a_isDrawnScheme]) ?_
      simp only [a_isDrawnScheme, h_IsScheme, c_IsScheme, h_IsDoubt, c_IsDoubt, hc, h1, h2, List.zipIdx_cons, List.zipIdx_nil, ↓SP, SQ, Gam.add, stepM, callC, argC, lendO, nmBy, nmC, likeL, likeB, plainOb, offs, X, F, trP, trO, stepD, stepW, newA, SV.tr, SV.trL, fz, allP, Ob.tr, loadA, cellsA, SV.cells, binA, binI, eqOut, isSl, isPt, natOf, callee, snap, SV.refsL, SV.refs, thaw, fzAll, loA, hiA, elemOf, partsA, buildA, putCells, ↓reduceIte, reduceCtorEq, okCell, Nat.reduceAdd, Nat.reduceEqDiff, Nat.reduceSub, Nat.reduceMul, Nat.reduceLeDiff, Nat.reduceLT, Nat.reduceBEq, PV.scal, PV.scalL, SV.scal, SV.scalL, Ob.scal, PV.isCell, pure', resO]
      exact finA_val (by simp [h2, retA, rvA, List.mapM_cons, List.mapM_nil, Option.pure_def, Option.bind_eq_bind, Option.bind_some, Option.map_some, mkE_cons, mk_nil, mkO_cons, mkO_nil, loadA, ↓reduceIte, List.take_succ_cons, List.take_zero, List.drop_zero, List.drop_succ_cons, List.length_cons, List.length_nil, Nat.reduceAdd, Nat.reduceEqDiff, Nat.reduceLeDiff, Nat.zero_add, Nat.le_refl, reduceCtorEq, SV.tr, SV.trL, nmF, rn_nil, rn_cons1, rn_cons2, List.map_cons, List.map_nil, List.all_cons, List.all_nil, plainOb, SV.refsL, SV.refs, Ob.refs, X, F, List.range_succ, List.range_zero, List.nil_append, List.cons_append, List.isEmpty_nil, decide_true, Nat.reduceLT, Bool.and_self, Bool.and_true, and_self, and_true, List.getElem?_cons_zero, List.getElem?_cons_succ, List.nodup_cons, List.nodup_nil, List.mem_cons, List.not_mem_nil, not_false_eq_true, or_false, List.append_nil, mkO, setO_mk, List.mem_singleton]) (by simp [SV.tr, SV.trL])
    · refine is.go hm hΓ k_isDrawnScheme o_isDrawnScheme (by simp [a_isDrawnScheme]) ?_
      simp only [a_isDrawnScheme, h_IsScheme, c_IsScheme, h_IsDoubt, c_IsDoubt, hc, h1, h2, List.zipIdx_cons, List.zipIdx_nil, ↓SP, SQ, Gam.add, stepM, callC, argC, lendO, nmBy, nmC, likeL, likeB, plainOb, offs, X, F, trP, trO, stepD, stepW, newA, SV.tr, SV.trL, fz, allP, Ob.tr, loadA, cellsA, SV.cells, binA, binI, eqOut, isSl, isPt, natOf, callee, snap, SV.refsL, SV.refs, thaw, fzAll, loA, hiA, elemOf, partsA, buildA, putCells, ↓reduceIte, reduceCtorEq, okCell, Nat.reduceAdd, Nat.reduceEqDiff, Nat.reduceSub, Nat.reduceMul, Nat.reduceLeDiff, Nat.reduceLT, Nat.reduceBEq, PV.scal, PV.scalL, SV.scal, SV.scalL, Ob.scal, PV.isCell, pure', resO]
      exact finA_val (by simp [h2, retA, rvA, List.mapM_cons, List.mapM_nil, Option.pure_def, Option.bind_eq_bind, Option.bind_some, Option.map_some, mkE_cons, mk_nil, mkO_cons, mkO_nil, loadA, ↓reduceIte, List.take_succ_cons, List.take_zero, List.drop_zero, List.drop_succ_cons, List.length_cons, List.length_nil, Nat.reduceAdd, Nat.reduceEqDiff, Nat.reduceLeDiff, Nat.zero_add, Nat.le_refl, reduceCtorEq, SV.tr, SV.trL, nmF, rn_nil, rn_cons1, rn_cons2, List.map_cons, List.map_nil, List.all_cons, List.all_nil, plainOb, SV.refsL, SV.refs, Ob.refs, X, F, List.range_succ, List.range_zero, List.nil_append, List.cons_append, List.isEmpty_nil, decide_true, Nat.reduceLT, Bool.and_self, Bool.and_true, and_self, and_true, List.getElem?_cons_zero, List.getElem?_cons_succ, List.nodup_cons, List.nodup_nil, List.mem_cons, List.not_mem_nil, not_false_eq_true, or_false, List.append_nil, mkO, setO_mk, List.mem_singleton]) (by simp [SV.tr, SV.trL])
theorem s_l7Scheme {P : Program} (hm : P.follows .mixedOrders = true) {Γ : Gam} (hΓ : GS P Γ) {n : FuncId} {f_l5Scheme : FuncId} {f_l7Good : FuncId} (is : Is P n (a_l7Scheme f_l5Scheme f_l7Good)) (h_l5Scheme : Γ f_l5Scheme = c_IsScheme) (h_l7Good : Γ f_l7Good = c_IsDoubt)  : Says P n c_isDrawnScheme := by
  refine Says.pure fun args r fs h => ?_
  split at h
  case h_2 => cases h
  rename_i n l_ s o
  split at h
  case isFalse => cases h
  rename_i hc
  obtain ⟨hl_, hc⟩ := hc
  obtain ⟨l, rfl⟩ := isI_out hl_
  simp only [ofI_ints, ofBo_bools, ofAs_asks, Option.some.injEq, Prod.mk.injEq] at h hc
  obtain ⟨rfl, rfl⟩ := h
  cases h1 : isSm n l with
  | false =>
    refine is.go hm hΓ k_l7Scheme o_l7Scheme (by simp [a_l7Scheme]) ?_
    simp only [a_l7Scheme, h_l5Scheme, c_IsScheme, h_l7Good, c_IsDoubt, hc, h1, List.zipIdx_cons, List.zipIdx_nil, ↓SP, SQ, Gam.add, stepM, callC, argC, lendO, nmBy, nmC, likeL, likeB, plainOb, offs, X, F, trP, trO, stepD, stepW, newA, SV.tr, SV.trL, fz, allP, Ob.tr, loadA, cellsA, SV.cells, binA, binI, eqOut, isSl, isPt, natOf, callee, snap, SV.refsL, SV.refs, thaw, fzAll, loA, hiA, elemOf, partsA, buildA, putCells, ↓reduceIte, reduceCtorEq, okCell, Nat.reduceAdd, Nat.reduceEqDiff, Nat.reduceSub, Nat.reduceMul, Nat.reduceLeDiff, Nat.reduceLT, Nat.reduceBEq, PV.scal, PV.scalL, SV.scal, SV.scalL, Ob.scal, PV.isCell, pure', resO]
    exact finA_val (by simp [retA, rvA, List.mapM_cons, List.mapM_nil, Option.pure_def, Option.bind_eq_bind, Option.bind_some, Option.map_some, mkE_cons, mk_nil, mkO_cons, mkO_nil, loadA, ↓reduceIte, List.take_succ_cons, List.take_zero, List.drop_zero, List.drop_succ_cons, List.length_cons, List.length_nil, Nat.reduceAdd, Nat.reduceEqDiff, Nat.reduceLeDiff, Nat.zero_add, Nat.le_refl, reduceCtorEq, SV.tr, SV.trL, nmF, rn_nil, rn_cons1, rn_cons2, List.map_cons, List.map_nil, List.all_cons, List.all_nil, plainOb, SV.refsL, SV.refs, Ob.refs, X, F, List.range_succ, List.range_zero, List.nil_append, List.cons_append, List.isEmpty_nil, decide_true, Nat.reduceLT, Bool.and_self, Bool.and_true, and_self, and_true, List.getElem?_cons_zero, List.getElem?_cons_succ, List.nodup_cons, List.nodup_nil, List.mem_cons, List.not_mem_nil, not_false_eq_true, or_false, List.append_nil, mkO, setO_mk, List.mem_singleton]) (by simp [SV.tr, SV.trL])
  | true =>
    by_cases h2 : (l.length : Int) ≤ 12
    · refine is.go hm hΓ k_l7Scheme o_l7Scheme (by simp [a_l7Scheme]) ?_
      simp only [a_l7Scheme, h_l5Scheme, c_IsScheme, h_l7Good, c_IsDoubt, hc, h1, h2, List.zipIdx_cons, List.zipIdx_nil, ↓SP, SQ, Gam.add, stepM, callC, argC, lendO, nmBy, nmC, likeL, likeB, plainOb, offs, X, F, trP, trO, stepD, stepW, newA, SV.tr, SV.trL, fz, allP, Ob.tr, loadA, cellsA, SV.cells, binA, binI, eqOut, isSl, isPt, natOf, callee, snap, SV.refsL, SV.refs, thaw, fzAll, loA, hiA, elemOf, partsA, buildA, putCells, ↓reduceIte, reduceCtorEq, okCell, Nat.reduceAdd, Nat.reduceEqDiff, Nat.reduceSub, Nat.reduceMul, Nat.reduceLeDiff, Nat.reduceLT, Nat.reduceBEq, PV.scal, PV.scalL, SV.scal, SV.scalL, Ob.scal, PV.isCell, pure', resO]
      exact finA_val (by simp [h2, retA, rvA, List.mapM_cons, List.mapM_nil, Option.pure_def, Option.bind_eq_bind, Option.bind_some, Option.map_some, mkE_cons, mk_nil, mkO_cons, mkO_nil, loadA, ↓reduceIte, List.take_succ_cons, List.take_zero, List.drop_zero, List.drop_succ_cons, List.length_cons, List.length_nil, Nat.reduceAdd, Nat.reduceEqDiff, Nat.reduceLeDiff, Nat.zero_add, Nat.le_refl, reduceCtorEq, SV.tr, SV.trL, nmF, rn_nil, rn_cons1, rn_cons2, List.map_cons, List.map_nil, List.all_cons, List.all_nil, plainOb, SV.refsL, SV.refs, Ob.refs, X, F, List.range_succ, List.range_zero, List.nil_append, List.cons_append, List.isEmpty_nil, decide_true, Nat.reduceLT, Bool.and_self, Bool.and_true, and_self, and_true, List.getElem?_cons_zero, List.getElem?_cons_succ, List.nodup_cons, List.nodup_nil, List.mem_cons, List.not_mem_nil, not_false_eq_true, or_false, List.append_nil, mkO, setO_mk, List.mem_singleton]) (by simp [SV.tr, SV.trL])
    · refine is.go hm hΓ k_l7Scheme o_l7Scheme (by simp [a_l7Scheme]) ?_
      simp only [a_l7Scheme, h_l5Scheme, c_IsScheme, h_l7Good, c_IsDoubt, hc, h1, h2, List.zipIdx_cons, List.zipIdx_nil, ↓SP, SQ, Gam.add, stepM, callC, argC, lendO, nmBy, nmC, likeL, likeB, plainOb, offs, X, F, trP, trO, stepD, stepW, newA, SV.tr, SV.trL, fz, allP, Ob.tr, loadA, cellsA, SV.cells, binA, binI, eqOut, isSl, isPt, natOf, callee, snap, SV.refsL, SV.refs, thaw, fzAll, loA, hiA, elemOf, partsA, buildA, putCells, ↓reduceIte, reduceCtorEq, okCell, Nat.reduceAdd, Nat.reduceEqDiff, Nat.reduceSub, Nat.reduceMul, Nat.reduceLeDiff, Nat.reduceLT, Nat.reduceBEq, PV.scal, PV.scalL, SV.scal, SV.scalL, Ob.scal, PV.isCell, pure', resO]
      exact finA_val (by simp [h2, retA, rvA, List.mapM_cons, List.mapM_nil, Option.pure_def, Option.bind_eq_bind, Option.bind_some, Option.map_some, mkE_cons, mk_nil, mkO_cons, mkO_nil, loadA, ↓reduceIte, List.take_succ_cons, List.take_zero, List.drop_zero, List.drop_succ_cons, List.length_cons, List.length_nil, Nat.reduceAdd, Nat.reduceEqDiff, Nat.reduceLeDiff, Nat.zero_add, Nat.le_refl, reduceCtorEq, SV.tr, SV.trL, nmF, rn_nil, rn_cons1, rn_cons2, List.map_cons, List.map_nil, List.all_cons, List.all_nil, plainOb, SV.refsL, SV.refs, Ob.refs, X, F, List.range_succ, List.range_zero, List.nil_append, List.cons_append, List.isEmpty_nil, decide_true, Nat.reduceLT, Bool.and_self, Bool.and_true, and_self, and_true, List.getElem?_cons_zero, List.getElem?_cons_succ, List.nodup_cons, List.nodup_nil, List.mem_cons, List.not_mem_nil, not_false_eq_true, or_false, List.append_nil, mkO, setO_mk, List.mem_singleton]) (by simp [SV.tr, SV.trL])
end Go.Proofs.Ytmbljmolegalhaa.Pam
