/- A part of the proof that stands in this folder: a small machine whose steps are shown to be the steps of the model, or walks of functions by it. No condition of its own. -/
import Derived.Test.YtmbljmolegalhaaGbLS
set_option linter.unusedVariables false
set_option linter.unusedSimpArgs false
namespace Go.Proofs.Ytmbljmolegalhaa.Pam
open Go
theorem ofInt_nat (n a : Nat) : BitVec.ofInt n (a : Int) = BitVec.ofNat n a := by
  apply BitVec.eq_of_toNat_eq
  simp [BitVec.toNat_ofInt]
theorem wrap_nat {a : Nat} (h : a < 2 ^ 63) : IntKind.i64.wrap (a : Int) = (a : Int) := wrap64 (by omega) (by omega)
theorem orW_nat {a b : Nat} (ha : a < 2 ^ 62) (hb : b < 2 ^ 62) : orW .i64 (a : Int) (b : Int) = ((a ||| b : Nat) : Int) := by
  have h : a ||| b < 2 ^ 62 := Nat.or_lt_two_pow ha hb
  unfold orW
  rw [ofInt_nat, ofInt_nat]
  show IntKind.i64.wrap ((BitVec.ofNat 64 a ||| BitVec.ofNat 64 b).toNat : Int) = _
  rw [BitVec.toNat_or, BitVec.toNat_ofNat, BitVec.toNat_ofNat, Nat.mod_eq_of_lt (by omega), Nat.mod_eq_of_lt (by omega)]
  exact wrap_nat (by omega)
theorem xorW_nat {a b : Nat} (ha : a < 2 ^ 62) (hb : b < 2 ^ 62) : xorW .i64 (a : Int) (b : Int) = ((a ^^^ b : Nat) : Int) := by
  have h : a ^^^ b < 2 ^ 62 := Nat.xor_lt_two_pow ha hb
  unfold xorW
  rw [ofInt_nat, ofInt_nat]
  show IntKind.i64.wrap ((BitVec.ofNat 64 a ^^^ BitVec.ofNat 64 b).toNat : Int) = _
  rw [BitVec.toNat_xor, BitVec.toNat_ofNat, BitVec.toNat_ofNat, Nat.mod_eq_of_lt (by omega), Nat.mod_eq_of_lt (by omega)]
  exact wrap_nat (by omega)
theorem andW_nat {a b : Nat} (ha : a < 2 ^ 62) (hb : b < 2 ^ 62) : andW .i64 (a : Int) (b : Int) = ((a &&& b : Nat) : Int) := by
  have h : a &&& b < 2 ^ 62 := Nat.and_lt_two_pow a hb
  unfold andW
  rw [ofInt_nat, ofInt_nat]
  show IntKind.i64.wrap ((BitVec.ofNat 64 a &&& BitVec.ofNat 64 b).toNat : Int) = _
  rw [BitVec.toNat_and, BitVec.toNat_ofNat, BitVec.toNat_ofNat, Nat.mod_eq_of_lt (by omega), Nat.mod_eq_of_lt (by omega)]
  exact wrap_nat (by omega)
theorem shl_nat {i : Nat} (h : i ≤ 14) : IntKind.i64.wrap (1 * 2 ^ min i IntKind.i64.bits) = ((2 ^ i : Nat) : Int) ∧ IntKind.i64.wrap (0 * 2 ^ min i IntKind.i64.bits) = 0 := by
  have : i = 0 ∨ i = 1 ∨ i = 2 ∨ i = 3 ∨ i = 4 ∨ i = 5 ∨ i = 6 ∨ i = 7 ∨ i = 8 ∨ i = 9 ∨ i = 10 ∨ i = 11 ∨ i = 12 ∨ i = 13 ∨ i = 14 := by omega
  rcases this with h | h | h | h | h | h | h | h | h | h | h | h | h | h | h <;> subst h <;> exact ⟨by decide, by decide⟩
/-- The word of a number's true answers, of the first i questions. -/
def wdN (l : List Int) (j : Int) : Nat → Nat
  | 0 => 0
  | i + 1 => if (bitW (l.getD i 0) j == 1) = true then wdN l j i ||| 2 ^ i else wdN l j i
theorem wdN_lt (l : List Int) (j : Int) : ∀ i, wdN l j i < 2 ^ i
  | 0 => by simp [wdN]
  | i + 1 => by
    have h := wdN_lt l j i
    have h2 : 2 ^ i < 2 ^ (i + 1) := Nat.pow_lt_pow_right (by omega) (by omega)
    simp only [wdN]
    split
    · exact Nat.or_lt_two_pow (by omega) h2
    · omega
theorem pow14 {i : Nat} (h : i ≤ 14) : 2 ^ i ≤ 16384 := Nat.pow_le_pow_right (by omega) h
def a_trueWord (f_has : FuncId) : AFn := ⟨2, 
  .seq (.reg [⟨some 4, none, .d (.mv (.c (.int .i64 0)))⟩])
  (.seq (.reg [⟨some 5, none, .d (.mv (.c (.int .i64 0)))⟩])
  (.seq (.seq (.reg [⟨some 8, none, .d (.mv (.t 0))⟩,
    ⟨some 9, none, .d (.len (.t 8))⟩,
    ⟨some 10, none, .d (.mv (.c (.int .i64 0)))⟩])
  (.block 0 (.loop (.seq (.reg [⟨some 11, none, .d (.bin .arith .lss (.t 10) (.t 9))⟩])
    (.seq (.cond (.t 11) (.skip) (.exit 0))
    (.seq (.block 1 (.seq (.reg [⟨some 12, none, .d (.mv (.t 10))⟩,
       ⟨some 13, none, .d (.ia 1 (.t 8) (.t 10))⟩,
       ⟨some 14, none, .d (.load false 1 (.t 13))⟩,
       ⟨some 6, none, .d (.mv (.t 12))⟩,
       ⟨some 7, none, .d (.mv (.t 14))⟩])
     (.seq (.reg [⟨some 15, none, .d (.mv (.t 7))⟩,
       ⟨some 16, none, .d (.mv (.t 1))⟩,
       ⟨some 17, none, .d (.call (.f f_has) [(.t 15), (.t 16)])⟩])
     (.cond (.t 17) (.reg [⟨some 18, none, .d (.mv (.t 5))⟩,
        ⟨some 19, none, .d (.mv (.t 6))⟩,
        ⟨some 20, none, .d (.bin .arith .shl (.c (.int .i64 1)) (.t 19))⟩,
        ⟨some 21, none, .d (.bin .arith .or (.t 18) (.t 20))⟩,
        ⟨some 5, none, .d (.mv (.t 21))⟩]) (.skip)))))
    (.reg [⟨some 22, none, .d (.bin .arith .add (.t 10) (.c (.int .i64 1)))⟩,
      ⟨some 10, none, .d (.mv (.t 22))⟩])))))))
  (.seq (.reg [⟨some 23, none, .d (.mv (.t 5))⟩,
    ⟨some 4, none, .d (.mv (.t 23))⟩])
  (.ret)))), [.tmp 4]⟩
def n_trueWord : Nat → Option Ann := fun _ => none
abbrev k_trueWord : List Nat := [0, 1, 4, 5, 6, 7, 8, 9, 10, 11, 17]
abbrev o_trueWord : List Nat := []
def a_l5True : AFn := ⟨2, 
  .seq (.reg [⟨some 4, none, .d (.mv (.c (.int .i64 0)))⟩])
  (.seq (.reg [⟨some 5, none, .d (.mv (.c (.int .i64 0)))⟩])
  (.seq (.seq (.reg [⟨some 6, none, .d (.mv (.c (.int .i64 0)))⟩])
  (.block 0 (.loop (.seq (.seq (.reg [⟨some 7, none, .d (.mv (.t 6))⟩,
      ⟨some 8, none, .d (.mv (.t 0))⟩,
      ⟨some 9, none, .d (.len (.t 8))⟩,
      ⟨some 10, none, .d (.bin .arith .lss (.t 7) (.t 9))⟩])
    (.cond (.t 10) (.skip) (.exit 0)))
    (.seq (.block 1 (.reg [⟨some 13, none, .d (.mv (.t 5))⟩,
       ⟨some 14, none, .d (.mv (.t 0))⟩,
       ⟨some 15, none, .d (.mv (.t 6))⟩,
       ⟨some 16, none, .d (.ia 1 (.t 14) (.t 15))⟩,
       ⟨some 17, none, .d (.load false 1 (.t 16))⟩,
       ⟨some 18, none, .d (.mv (.t 1))⟩,
       ⟨some 19, none, .d (.bin .arith .shr (.t 17) (.t 18))⟩,
       ⟨some 20, none, .d (.bin .arith .and (.t 19) (.c (.int .i64 1)))⟩,
       ⟨some 21, none, .d (.mv (.t 6))⟩,
       ⟨some 22, none, .d (.bin .arith .shl (.t 20) (.t 21))⟩,
       ⟨some 23, none, .d (.bin .arith .or (.t 13) (.t 22))⟩,
       ⟨some 5, none, .d (.mv (.t 23))⟩]))
    (.reg [⟨some 11, none, .d (.mv (.t 6))⟩,
      ⟨some 12, none, .d (.bin .arith .add (.t 11) (.c (.int .i64 1)))⟩,
      ⟨some 6, none, .d (.mv (.t 12))⟩]))))))
  (.seq (.reg [⟨some 24, none, .d (.mv (.t 5))⟩,
    ⟨some 4, none, .d (.mv (.t 24))⟩])
  (.ret)))), [.tmp 4]⟩
def n_l5True : Nat → Option Ann := fun _ => none
abbrev k_l5True : List Nat := [0, 1, 4, 5, 6, 10]
abbrev o_l5True : List Nat := []
def c_trueWord : Con := pure' fun
  | [.p (.sl 1 l_), .p (.int .i64 j)] => if isI l_ = true ∧ ((ofI l_).length ≤ 14 ∧ 0 ≤ j) then some (.p (.int .i64 (wdN (ofI l_) j (ofI l_).length : Int)), []) else none
  | _ => none
theorem s_trueWord {P : Program} (hm : P.follows .mixedOrders = true) {Γ : Gam} (hΓ : GS P Γ) {n : FuncId} {f_has : FuncId} (is : Is P n (a_trueWord f_has)) (h_has : Γ f_has = c_has)  : Says P n c_trueWord := by
  refine Says.pure fun args r fs h => ?_
  split at h
  case h_2 => cases h
  rename_i l_ j
  split at h
  case isFalse => cases h
  rename_i hc
  obtain ⟨hl_, hc⟩ := hc
  obtain ⟨l, rfl⟩ := isI_out hl_
  simp only [ofI_ints, ofBo_bools, ofAs_asks, Option.some.injEq, Prod.mk.injEq] at h hc
  obtain ⟨rfl, rfl⟩ := h
  obtain ⟨hl, hj⟩ := hc
  refine is.go hm hΓ k_trueWord o_trueWord (by simp [a_trueWord]) ?_
  simp only [a_trueWord, h_has, c_has, List.zipIdx_cons, List.zipIdx_nil, ↓SP, SQ, Gam.add, stepM, callC, argC, lendO, nmBy, nmC, likeL, likeB, plainOb, offs, exL, X, F, trP, trO, stepD, stepW, newA, SV.tr, SV.trL, fz, allP, Ob.tr, loadA, cellsA, SV.cells, binA, binI, eqOut, isSl, isPt, natOf, callee, snap, SV.refsL, SV.refs, thaw, fzAll, loA, hiA, elemOf, partsA, buildA, putCells, ↓reduceIte, reduceCtorEq, okCell, Nat.reduceAdd, Nat.reduceEqDiff, Nat.reduceSub, Nat.reduceMul, Nat.reduceLeDiff, Nat.reduceLT, Nat.reduceBEq, PV.scal, PV.scalL, SV.scal, SV.scalL, Ob.scal, PV.isCell, pure', resO]
  refine loop_at (fun s : Nat × SV × SV × SV × SV => mkEnv [(0, .p (.sl 1 (ints l))), (1, si j), (4, si 0), (5, si (wdN l j s.1)), (6, s.2.1), (7, s.2.2.1), (8, .p (.sl 1 (ints l))), (9, si l.length), (10, si s.1), (11, s.2.2.2.1), (17, s.2.2.2.2)]) (fun s => mkO []) (fun s => s.1 ≤ l.length) (fun s => l.length - s.1) (0, .junk, .junk, .junk, .junk) (by simp) rfl rfl ?_
  rintro ⟨i, c1, c2, c3, c4⟩ hi R hR hN
  simp only at hi
  by_cases h : i < l.length
  · have h1 : (i : Int) < l.length := by omega
    have hw := wrap_one (i := i) (by omega)
    have hg := ints_get h
    have hi0 : ¬ (i : Int) < 0 := by omega
    cases hb : (bitW (l.getD i 0) j == 1) with
    | true =>
      have hwl := wdN_lt l j i
      have h14 := pow14 (i := i) (by omega)
      have hor := orW_nat (a := wdN l j i) (b := 2 ^ i) (by omega) (by omega)
      have hs : wdN l j (i + 1) = wdN l j i ||| 2 ^ i := by simp only [wdN, hb, if_true]
      rw [← hs] at hor
      have hsh := (shl_nat (i := i) (by omega)).1
      simp only [h1, hw, hg, hj, hi0, hb, hsh, bitA_or, hor, h_has, c_has, ↓SP, SQ, Gam.add, stepM, callC, argC, lendO, nmBy, nmC, likeL, likeB, plainOb, offs, exL, X, F, trP, trO, stepD, stepW, newA, SV.tr, SV.trL, fz, allP, Ob.tr, loadA, cellsA, SV.cells, binA, binI, eqOut, isSl, isPt, natOf, callee, snap, SV.refsL, SV.refs, thaw, fzAll, loA, hiA, elemOf, partsA, buildA, putCells, ↓reduceIte, reduceCtorEq, okCell, Nat.reduceAdd, Nat.reduceEqDiff, Nat.reduceSub, Nat.reduceMul, Nat.reduceLeDiff, Nat.reduceLT, Nat.reduceBEq, PV.scal, PV.scalL, SV.scal, SV.scalL, Ob.scal, PV.isCell, pure', resO]
      exact hN (i + 1, _, _, _, _) _ _ (by simp only; omega) (by simp only; omega) rfl rfl
    | false =>
      have hs : wdN l j (i + 1) = wdN l j i := by simp only [wdN, hb, Bool.false_eq_true, if_false]
      simp only [h1, hw, hg, hj, hb, h_has, c_has, ↓SP, SQ, Gam.add, stepM, callC, argC, lendO, nmBy, nmC, likeL, likeB, plainOb, offs, exL, X, F, trP, trO, stepD, stepW, newA, SV.tr, SV.trL, fz, allP, Ob.tr, loadA, cellsA, SV.cells, binA, binI, eqOut, isSl, isPt, natOf, callee, snap, SV.refsL, SV.refs, thaw, fzAll, loA, hiA, elemOf, partsA, buildA, putCells, ↓reduceIte, reduceCtorEq, okCell, Nat.reduceAdd, Nat.reduceEqDiff, Nat.reduceSub, Nat.reduceMul, Nat.reduceLeDiff, Nat.reduceLT, Nat.reduceBEq, PV.scal, PV.scalL, SV.scal, SV.scalL, Ob.scal, PV.isCell, pure', resO]
      exact hN (i + 1, _, _, _, _) _ _ (by simp only; omega) (by simp only; omega) (by rw [hs]) rfl
  · have he : i = l.length := by omega
    have h1 : ¬ (i : Int) < l.length := by omega
    simp only [h1, ↓SP, SQ, Gam.add, stepM, callC, argC, lendO, nmBy, nmC, likeL, likeB, plainOb, offs, exL, X, F, trP, trO, stepD, stepW, newA, SV.tr, SV.trL, fz, allP, Ob.tr, loadA, cellsA, SV.cells, binA, binI, eqOut, isSl, isPt, natOf, callee, snap, SV.refsL, SV.refs, thaw, fzAll, loA, hiA, elemOf, partsA, buildA, putCells, ↓reduceIte, reduceCtorEq, okCell, Nat.reduceAdd, Nat.reduceEqDiff, Nat.reduceSub, Nat.reduceMul, Nat.reduceLeDiff, Nat.reduceLT, Nat.reduceBEq, PV.scal, PV.scalL, SV.scal, SV.scalL, Ob.scal, PV.isCell, pure', resO]
    refine hR _ _ _ (by intro h; cases h) ?_
    simp only [↓SP, SQ, Gam.add, stepM, callC, argC, lendO, nmBy, nmC, likeL, likeB, plainOb, offs, exL, X, F, trP, trO, stepD, stepW, newA, SV.tr, SV.trL, fz, allP, Ob.tr, loadA, cellsA, SV.cells, binA, binI, eqOut, isSl, isPt, natOf, callee, snap, SV.refsL, SV.refs, thaw, fzAll, loA, hiA, elemOf, partsA, buildA, putCells, ↓reduceIte, reduceCtorEq, okCell, Nat.reduceAdd, Nat.reduceEqDiff, Nat.reduceSub, Nat.reduceMul, Nat.reduceLeDiff, Nat.reduceLT, Nat.reduceBEq, PV.scal, PV.scalL, SV.scal, SV.scalL, Ob.scal, PV.isCell, pure', resO]
    subst he
    exact finA_val (by simp [retA, rvA, mkE_cons, mk_nil, mkO_cons, mkO_nil, loadA, SV.tr, SV.trL, nmF, rn_nil, rn_cons1, rn_cons2, plainOb, SV.refsL, SV.refs, Ob.refs, X, F, List.range_succ, mkO, setO_mk]) (by simp [SV.tr, SV.trL])
theorem s_l5True {P : Program} (hm : P.follows .mixedOrders = true) {Γ : Gam} (hΓ : GS P Γ) {n : FuncId} (is : Is P n a_l5True)  : Says P n c_trueWord := by
  refine Says.pure fun args r fs h => ?_
  split at h
  case h_2 => cases h
  rename_i l_ j
  split at h
  case isFalse => cases h
  rename_i hc
  obtain ⟨hl_, hc⟩ := hc
  obtain ⟨l, rfl⟩ := isI_out hl_
  simp only [ofI_ints, ofBo_bools, ofAs_asks, Option.some.injEq, Prod.mk.injEq] at h hc
  obtain ⟨rfl, rfl⟩ := h
  obtain ⟨hl, hj⟩ := hc
  obtain ⟨j, rfl⟩ : ∃ t : Nat, j = t := ⟨j.toNat, by omega⟩
  have hj0 : ¬ (j : Int) < 0 := by omega
  refine is.go hm hΓ k_l5True o_l5True (by simp [a_l5True]) ?_
  simp only [a_l5True, List.zipIdx_cons, List.zipIdx_nil, ↓SP, SQ, Gam.add, stepM, callC, argC, lendO, nmBy, nmC, likeL, likeB, plainOb, offs, exL, X, F, trP, trO, stepD, stepW, newA, SV.tr, SV.trL, fz, allP, Ob.tr, loadA, cellsA, SV.cells, binA, binI, eqOut, isSl, isPt, natOf, callee, snap, SV.refsL, SV.refs, thaw, fzAll, loA, hiA, elemOf, partsA, buildA, putCells, ↓reduceIte, reduceCtorEq, okCell, Nat.reduceAdd, Nat.reduceEqDiff, Nat.reduceSub, Nat.reduceMul, Nat.reduceLeDiff, Nat.reduceLT, Nat.reduceBEq, PV.scal, PV.scalL, SV.scal, SV.scalL, Ob.scal, PV.isCell, pure', resO]
  refine loop_at (fun s : Nat × SV => mkEnv [(0, .p (.sl 1 (ints l))), (1, si j), (4, si 0), (5, si (wdN l j s.1)), (6, si s.1), (10, s.2)]) (fun s => mkO []) (fun s => s.1 ≤ l.length) (fun s => l.length - s.1) (0, .junk) (by simp) rfl rfl ?_
  rintro ⟨i, c1⟩ hi R hR hN
  simp only at hi
  by_cases h : i < l.length
  · have h1 : (i : Int) < l.length := by omega
    have hw := wrap_one (i := i) (by omega)
    have hg := ints_get h
    have hi0 : ¬ (i : Int) < 0 := by omega
    have hwl := wdN_lt l j i
    have h14 := pow14 (i := i) (by omega)
    have hsh := shl_nat (i := i) (by omega)
    rcases bitW_01 (l.getD i 0) j with hb | hb
    · have hs : wdN l j (i + 1) = wdN l j i := by
        have : (bitW (l.getD i 0) j == 1) = false := by rw [hb]; rfl
        simp only [wdN, this, Bool.false_eq_true, if_false]
      have hor := orW_nat (a := wdN l j i) (b := 0) (by omega) (by omega)
      rw [Nat.or_zero, Int.natCast_zero] at hor
      simp only [h1, hw, hg, hj0, hi0, bitA_and, bitW_nat, hb, hsh.2, bitA_or, hor, ↓SP, SQ, Gam.add, stepM, callC, argC, lendO, nmBy, nmC, likeL, likeB, plainOb, offs, exL, X, F, trP, trO, stepD, stepW, newA, SV.tr, SV.trL, fz, allP, Ob.tr, loadA, cellsA, SV.cells, binA, binI, eqOut, isSl, isPt, natOf, callee, snap, SV.refsL, SV.refs, thaw, fzAll, loA, hiA, elemOf, partsA, buildA, putCells, ↓reduceIte, reduceCtorEq, okCell, Nat.reduceAdd, Nat.reduceEqDiff, Nat.reduceSub, Nat.reduceMul, Nat.reduceLeDiff, Nat.reduceLT, Nat.reduceBEq, PV.scal, PV.scalL, SV.scal, SV.scalL, Ob.scal, PV.isCell, pure', resO]
      exact hN (i + 1, _) _ _ (by simp only; omega) (by simp only; omega) (by rw [hs]) rfl
    · have hor := orW_nat (a := wdN l j i) (b := 2 ^ i) (by omega) (by omega)
      have hs : wdN l j (i + 1) = wdN l j i ||| 2 ^ i := by
        have : (bitW (l.getD i 0) j == 1) = true := by rw [hb]; rfl
        simp only [wdN, this, if_true]
      rw [← hs] at hor
      simp only [h1, hw, hg, hj0, hi0, bitA_and, bitW_nat, hb, hsh.1, bitA_or, hor, ↓SP, SQ, Gam.add, stepM, callC, argC, lendO, nmBy, nmC, likeL, likeB, plainOb, offs, exL, X, F, trP, trO, stepD, stepW, newA, SV.tr, SV.trL, fz, allP, Ob.tr, loadA, cellsA, SV.cells, binA, binI, eqOut, isSl, isPt, natOf, callee, snap, SV.refsL, SV.refs, thaw, fzAll, loA, hiA, elemOf, partsA, buildA, putCells, ↓reduceIte, reduceCtorEq, okCell, Nat.reduceAdd, Nat.reduceEqDiff, Nat.reduceSub, Nat.reduceMul, Nat.reduceLeDiff, Nat.reduceLT, Nat.reduceBEq, PV.scal, PV.scalL, SV.scal, SV.scalL, Ob.scal, PV.isCell, pure', resO]
      exact hN (i + 1, _) _ _ (by simp only; omega) (by simp only; omega) rfl rfl
  · have he : i = l.length := by omega
    have h1 : ¬ (i : Int) < l.length := by omega
    simp only [h1, ↓SP, SQ, Gam.add, stepM, callC, argC, lendO, nmBy, nmC, likeL, likeB, plainOb, offs, exL, X, F, trP, trO, stepD, stepW, newA, SV.tr, SV.trL, fz, allP, Ob.tr, loadA, cellsA, SV.cells, binA, binI, eqOut, isSl, isPt, natOf, callee, snap, SV.refsL, SV.refs, thaw, fzAll, loA, hiA, elemOf, partsA, buildA, putCells, ↓reduceIte, reduceCtorEq, okCell, Nat.reduceAdd, Nat.reduceEqDiff, Nat.reduceSub, Nat.reduceMul, Nat.reduceLeDiff, Nat.reduceLT, Nat.reduceBEq, PV.scal, PV.scalL, SV.scal, SV.scalL, Ob.scal, PV.isCell, pure', resO]
    refine hR _ _ _ (by intro h; cases h) ?_
    simp only [↓SP, SQ, Gam.add, stepM, callC, argC, lendO, nmBy, nmC, likeL, likeB, plainOb, offs, exL, X, F, trP, trO, stepD, stepW, newA, SV.tr, SV.trL, fz, allP, Ob.tr, loadA, cellsA, SV.cells, binA, binI, eqOut, isSl, isPt, natOf, callee, snap, SV.refsL, SV.refs, thaw, fzAll, loA, hiA, elemOf, partsA, buildA, putCells, ↓reduceIte, reduceCtorEq, okCell, Nat.reduceAdd, Nat.reduceEqDiff, Nat.reduceSub, Nat.reduceMul, Nat.reduceLeDiff, Nat.reduceLT, Nat.reduceBEq, PV.scal, PV.scalL, SV.scal, SV.scalL, Ob.scal, PV.isCell, pure', resO]
    subst he
    exact finA_val (by simp [retA, rvA, mkE_cons, mk_nil, mkO_cons, mkO_nil, loadA, SV.tr, SV.trL, nmF, rn_nil, rn_cons1, rn_cons2, plainOb, SV.refsL, SV.refs, Ob.refs, X, F, List.range_succ, mkO, setO_mk]) (by simp [SV.tr, SV.trL])
/-- The words. -/
def wdL (l : List Int) (n : Nat) : List Int := (List.range n).map fun j : Nat => (wdN l j l.length : Int)
theorem wdL_len (l : List Int) (n : Nat) : (wdL l n).length = n := by simp [wdL]
theorem wdL_one (l : List Int) (i : Nat) : wdL l i ++ [(wdN l i l.length : Int)] = wdL l (i + 1) := by simp [wdL, List.range_succ]
def a_trueWords (f_trueWord : FuncId) : AFn := ⟨2, 
  .seq (.reg [⟨some 4, none, .d (.mv (.c (.nilsl)))⟩])
  (.seq (.reg [⟨some 7, none, .w (.bslice 1 [] [])⟩,
    ⟨some 5, none, .d (.mv (.t 7))⟩])
  (.seq (.seq (.reg [⟨some 8, none, .d (.mv (.t 0))⟩,
    ⟨some 9, none, .d (.mv (.c (.int .i64 0)))⟩])
  (.block 0 (.loop (.seq (.reg [⟨some 10, none, .d (.bin .arith .lss (.t 9) (.t 8))⟩])
    (.seq (.cond (.t 10) (.skip) (.exit 0))
    (.seq (.block 1 (.seq (.reg [⟨some 11, none, .d (.mv (.t 9))⟩,
       ⟨some 6, none, .d (.mv (.t 11))⟩])
     (.reg [⟨some 12, none, .d (.mv (.t 5))⟩,
       ⟨some 13, none, .d (.mv (.t 1))⟩,
       ⟨some 14, none, .d (.mv (.t 6))⟩,
       ⟨some 15, none, .d (.call (.f f_trueWord) [(.t 13), (.t 14)])⟩,
       ⟨some 16, none, .w (.bslice 1 [.int .i64 0] [(0, (.t 15))])⟩,
       ⟨some 17, none, .w (.append 1 (.t 12) (.t 16))⟩,
       ⟨some 5, none, .d (.mv (.t 17))⟩])))
    (.reg [⟨some 18, none, .d (.bin .arith .add (.t 9) (.c (.int .i64 1)))⟩,
      ⟨some 9, none, .d (.mv (.t 18))⟩])))))))
  (.seq (.reg [⟨some 19, none, .d (.mv (.t 5))⟩,
    ⟨some 4, none, .d (.mv (.t 19))⟩])
  (.ret)))), [.tmp 4]⟩
def n_trueWords : Nat → Option Ann := fun _ => none
abbrev k_trueWords : List Nat := [0, 1, 4, 5, 6, 8, 9, 10]
abbrev o_trueWords : List Nat := [7, 16, 17]
def a_l5Words (f_l5True : FuncId) : AFn := ⟨2, 
  .seq (.reg [⟨some 4, none, .d (.mv (.c (.nilsl)))⟩])
  (.seq (.reg [⟨some 7, none, .w (.bslice 1 [] [])⟩,
    ⟨some 5, none, .d (.mv (.t 7))⟩])
  (.seq (.seq (.reg [⟨some 6, none, .d (.mv (.c (.int .i64 0)))⟩])
  (.block 0 (.loop (.seq (.seq (.reg [⟨some 8, none, .d (.mv (.t 6))⟩,
      ⟨some 9, none, .d (.mv (.t 0))⟩,
      ⟨some 10, none, .d (.bin .arith .lss (.t 8) (.t 9))⟩])
    (.cond (.t 10) (.skip) (.exit 0)))
    (.seq (.block 1 (.reg [⟨some 13, none, .d (.mv (.t 5))⟩,
       ⟨some 14, none, .d (.mv (.t 1))⟩,
       ⟨some 15, none, .d (.mv (.t 6))⟩,
       ⟨some 16, none, .d (.call (.f f_l5True) [(.t 14), (.t 15)])⟩,
       ⟨some 17, none, .w (.bslice 1 [.int .i64 0] [(0, (.t 16))])⟩,
       ⟨some 18, none, .w (.append 1 (.t 13) (.t 17))⟩,
       ⟨some 5, none, .d (.mv (.t 18))⟩]))
    (.reg [⟨some 11, none, .d (.mv (.t 6))⟩,
      ⟨some 12, none, .d (.bin .arith .add (.t 11) (.c (.int .i64 1)))⟩,
      ⟨some 6, none, .d (.mv (.t 12))⟩]))))))
  (.seq (.reg [⟨some 19, none, .d (.mv (.t 5))⟩,
    ⟨some 4, none, .d (.mv (.t 19))⟩])
  (.ret)))), [.tmp 4]⟩
def n_l5Words : Nat → Option Ann := fun _ => none
abbrev k_l5Words : List Nat := [0, 1, 4, 5, 6, 10]
abbrev o_l5Words : List Nat := [7, 17, 18]
def c_trueWords : Con := pure' fun
  | [.p (.int .i64 n), .p (.sl 1 l_)] => if isI l_ = true ∧ ((ofI l_).length ≤ 14 ∧ 0 ≤ n ∧ n ≤ 12) then some (.ar 2000000, [.arr 1 (ints (wdL (ofI l_) n.toNat))]) else none
  | _ => none
theorem s_trueWords {P : Program} (hm : P.follows .mixedOrders = true) {Γ : Gam} (hΓ : GS P Γ) {n : FuncId} {f_trueWord : FuncId} (is : Is P n (a_trueWords f_trueWord)) (h_trueWord : Γ f_trueWord = c_trueWord)  : Says P n c_trueWords := by
  refine Says.pure fun args r fs h => ?_
  split at h
  case h_2 => cases h
  rename_i n l_
  split at h
  case isFalse => cases h
  rename_i hc
  obtain ⟨hl_, hc⟩ := hc
  obtain ⟨l, rfl⟩ := isI_out hl_
  simp only [ofI_ints, ofBo_bools, ofAs_asks, Option.some.injEq, Prod.mk.injEq] at h hc
  obtain ⟨rfl, rfl⟩ := h
  obtain ⟨hl, h0, h12⟩ := hc
  obtain ⟨n, rfl⟩ : ∃ t : Nat, n = t := ⟨n.toNat, by omega⟩
  simp only [Int.toNat_natCast]
  refine is.go hm hΓ k_trueWords o_trueWords (by simp [a_trueWords]) ?_
  simp only [a_trueWords, h_trueWord, c_trueWord, List.zipIdx_cons, List.zipIdx_nil, ↓SP, SQ, Gam.add, stepM, callC, argC, lendO, nmBy, nmC, likeL, likeB, plainOb, offs, exL, X, F, trP, trO, stepD, stepW, newA, SV.tr, SV.trL, fz, allP, Ob.tr, loadA, cellsA, SV.cells, binA, binI, eqOut, isSl, isPt, natOf, callee, snap, SV.refsL, SV.refs, thaw, fzAll, loA, hiA, elemOf, partsA, buildA, putCells, ↓reduceIte, reduceCtorEq, okCell, Nat.reduceAdd, Nat.reduceEqDiff, Nat.reduceSub, Nat.reduceMul, Nat.reduceLeDiff, Nat.reduceLT, Nat.reduceBEq, PV.scal, PV.scalL, SV.scal, SV.scalL, Ob.scal, PV.isCell, pure', resO]
  refine loop_at (fun s : Nat × SV × SV × Option Ob => mkEnv [(0, si n), (1, .p (.sl 1 (ints l))), (4, .p .nilsl), (5, .ar 7), (6, s.2.1), (8, si n), (9, si s.1), (10, s.2.2.1)]) (fun s => mkO [(7, some (.arr 1 (ints (wdL l s.1)))), (16, s.2.2.2), (17, none)]) (fun s => s.1 ≤ n) (fun s => n - s.1) (0, .junk, .junk, none) (by simp) rfl rfl ?_
  rintro ⟨i, c1, c2, ob⟩ hi R hR hN
  simp only at hi
  by_cases h : i < n
  · have h1 : (i : Int) < n := by omega
    have hw := wrap_one (i := i) (by omega)
    have hi0 : (0 : Int) ≤ i := by omega
    have hr : (wdL l i).length + 1 ≤ roomA := by rw [wdL_len]; unfold roomA; omega
    have hp := wdL_one l i
    simp only [h1, hw, hi0, hl, hr, h_trueWord, c_trueWord, ints_len, ints_app1, hp, ints_cell, ↓SP, SQ, Gam.add, stepM, callC, argC, lendO, nmBy, nmC, likeL, likeB, plainOb, offs, exL, X, F, trP, trO, stepD, stepW, newA, SV.tr, SV.trL, fz, allP, Ob.tr, loadA, cellsA, SV.cells, binA, binI, eqOut, isSl, isPt, natOf, callee, snap, SV.refsL, SV.refs, thaw, fzAll, loA, hiA, elemOf, partsA, buildA, putCells, ↓reduceIte, reduceCtorEq, okCell, Nat.reduceAdd, Nat.reduceEqDiff, Nat.reduceSub, Nat.reduceMul, Nat.reduceLeDiff, Nat.reduceLT, Nat.reduceBEq, PV.scal, PV.scalL, SV.scal, SV.scalL, Ob.scal, PV.isCell, pure', resO]
    exact hN (i + 1, _, _, _) _ _ (by simp only; omega) (by simp only; omega) rfl rfl
  · have he : i = n := by omega
    have h1 : ¬ (i : Int) < n := by omega
    simp only [h1, ↓SP, SQ, Gam.add, stepM, callC, argC, lendO, nmBy, nmC, likeL, likeB, plainOb, offs, exL, X, F, trP, trO, stepD, stepW, newA, SV.tr, SV.trL, fz, allP, Ob.tr, loadA, cellsA, SV.cells, binA, binI, eqOut, isSl, isPt, natOf, callee, snap, SV.refsL, SV.refs, thaw, fzAll, loA, hiA, elemOf, partsA, buildA, putCells, ↓reduceIte, reduceCtorEq, okCell, Nat.reduceAdd, Nat.reduceEqDiff, Nat.reduceSub, Nat.reduceMul, Nat.reduceLeDiff, Nat.reduceLT, Nat.reduceBEq, PV.scal, PV.scalL, SV.scal, SV.scalL, Ob.scal, PV.isCell, pure', resO]
    refine hR _ _ _ (by intro h; cases h) ?_
    simp only [↓SP, SQ, Gam.add, stepM, callC, argC, lendO, nmBy, nmC, likeL, likeB, plainOb, offs, exL, X, F, trP, trO, stepD, stepW, newA, SV.tr, SV.trL, fz, allP, Ob.tr, loadA, cellsA, SV.cells, binA, binI, eqOut, isSl, isPt, natOf, callee, snap, SV.refsL, SV.refs, thaw, fzAll, loA, hiA, elemOf, partsA, buildA, putCells, ↓reduceIte, reduceCtorEq, okCell, Nat.reduceAdd, Nat.reduceEqDiff, Nat.reduceSub, Nat.reduceMul, Nat.reduceLeDiff, Nat.reduceLT, Nat.reduceBEq, PV.scal, PV.scalL, SV.scal, SV.scalL, Ob.scal, PV.isCell, pure', resO]
    subst he
    refine finA_gen [7] trivial (by simp [retA, rvA, mkE_cons, mk_nil, mkO_cons, mkO_nil, loadA, SV.tr, SV.trL, nmF, rn_nil, rn_cons1, rn_cons2, plainOb, SV.refsL, SV.refs, Ob.refs, X, F, List.range_succ, mkO, setO_mk]; rfl) ?_ ?_ ?_ ?_ ?_ ?_ ?_ <;> simp [retA, rvA, mkE_cons, mk_nil, mkO_cons, mkO_nil, loadA, SV.tr, SV.trL, nmF, rn_nil, rn_cons1, rn_cons2, plainOb, SV.refsL, SV.refs, Ob.refs, X, F, List.range_succ, mkO, setO_mk]
theorem s_l5Words {P : Program} (hm : P.follows .mixedOrders = true) {Γ : Gam} (hΓ : GS P Γ) {n : FuncId} {f_l5True : FuncId} (is : Is P n (a_l5Words f_l5True)) (h_l5True : Γ f_l5True = c_trueWord)  : Says P n c_trueWords := by
  refine Says.pure fun args r fs h => ?_
  split at h
  case h_2 => cases h
  rename_i n l_
  split at h
  case isFalse => cases h
  rename_i hc
  obtain ⟨hl_, hc⟩ := hc
  obtain ⟨l, rfl⟩ := isI_out hl_
  simp only [ofI_ints, ofBo_bools, ofAs_asks, Option.some.injEq, Prod.mk.injEq] at h hc
  obtain ⟨rfl, rfl⟩ := h
  obtain ⟨hl, h0, h12⟩ := hc
  obtain ⟨n, rfl⟩ : ∃ t : Nat, n = t := ⟨n.toNat, by omega⟩
  simp only [Int.toNat_natCast]
  refine is.go hm hΓ k_l5Words o_l5Words (by simp [a_l5Words]) ?_
  simp only [a_l5Words, h_l5True, c_trueWord, List.zipIdx_cons, List.zipIdx_nil, ↓SP, SQ, Gam.add, stepM, callC, argC, lendO, nmBy, nmC, likeL, likeB, plainOb, offs, exL, X, F, trP, trO, stepD, stepW, newA, SV.tr, SV.trL, fz, allP, Ob.tr, loadA, cellsA, SV.cells, binA, binI, eqOut, isSl, isPt, natOf, callee, snap, SV.refsL, SV.refs, thaw, fzAll, loA, hiA, elemOf, partsA, buildA, putCells, ↓reduceIte, reduceCtorEq, okCell, Nat.reduceAdd, Nat.reduceEqDiff, Nat.reduceSub, Nat.reduceMul, Nat.reduceLeDiff, Nat.reduceLT, Nat.reduceBEq, PV.scal, PV.scalL, SV.scal, SV.scalL, Ob.scal, PV.isCell, pure', resO]
  refine loop_at (fun s : Nat × SV × Option Ob => mkEnv [(0, si n), (1, .p (.sl 1 (ints l))), (4, .p .nilsl), (5, .ar 7), (6, si s.1), (10, s.2.1)]) (fun s => mkO [(7, some (.arr 1 (ints (wdL l s.1)))), (17, s.2.2), (18, none)]) (fun s => s.1 ≤ n) (fun s => n - s.1) (0, .junk, none) (by simp) rfl rfl ?_
  rintro ⟨i, c1, ob⟩ hi R hR hN
  simp only at hi
  by_cases h : i < n
  · have h1 : (i : Int) < n := by omega
    have hw := wrap_one (i := i) (by omega)
    have hi0 : (0 : Int) ≤ i := by omega
    have hr : (wdL l i).length + 1 ≤ roomA := by rw [wdL_len]; unfold roomA; omega
    have hp := wdL_one l i
    simp only [h1, hw, hi0, hl, hr, h_l5True, c_trueWord, ints_len, ints_app1, hp, ints_cell, ↓SP, SQ, Gam.add, stepM, callC, argC, lendO, nmBy, nmC, likeL, likeB, plainOb, offs, exL, X, F, trP, trO, stepD, stepW, newA, SV.tr, SV.trL, fz, allP, Ob.tr, loadA, cellsA, SV.cells, binA, binI, eqOut, isSl, isPt, natOf, callee, snap, SV.refsL, SV.refs, thaw, fzAll, loA, hiA, elemOf, partsA, buildA, putCells, ↓reduceIte, reduceCtorEq, okCell, Nat.reduceAdd, Nat.reduceEqDiff, Nat.reduceSub, Nat.reduceMul, Nat.reduceLeDiff, Nat.reduceLT, Nat.reduceBEq, PV.scal, PV.scalL, SV.scal, SV.scalL, Ob.scal, PV.isCell, pure', resO]
    exact hN (i + 1, _, _) _ _ (by simp only; omega) (by simp only; omega) rfl rfl
  · have he : i = n := by omega
    have h1 : ¬ (i : Int) < n := by omega
    simp only [h1, ↓SP, SQ, Gam.add, stepM, callC, argC, lendO, nmBy, nmC, likeL, likeB, plainOb, offs, exL, X, F, trP, trO, stepD, stepW, newA, SV.tr, SV.trL, fz, allP, Ob.tr, loadA, cellsA, SV.cells, binA, binI, eqOut, isSl, isPt, natOf, callee, snap, SV.refsL, SV.refs, thaw, fzAll, loA, hiA, elemOf, partsA, buildA, putCells, ↓reduceIte, reduceCtorEq, okCell, Nat.reduceAdd, Nat.reduceEqDiff, Nat.reduceSub, Nat.reduceMul, Nat.reduceLeDiff, Nat.reduceLT, Nat.reduceBEq, PV.scal, PV.scalL, SV.scal, SV.scalL, Ob.scal, PV.isCell, pure', resO]
    refine hR _ _ _ (by intro h; cases h) ?_
    simp only [↓SP, SQ, Gam.add, stepM, callC, argC, lendO, nmBy, nmC, likeL, likeB, plainOb, offs, exL, X, F, trP, trO, stepD, stepW, newA, SV.tr, SV.trL, fz, allP, Ob.tr, loadA, cellsA, SV.cells, binA, binI, eqOut, isSl, isPt, natOf, callee, snap, SV.refsL, SV.refs, thaw, fzAll, loA, hiA, elemOf, partsA, buildA, putCells, ↓reduceIte, reduceCtorEq, okCell, Nat.reduceAdd, Nat.reduceEqDiff, Nat.reduceSub, Nat.reduceMul, Nat.reduceLeDiff, Nat.reduceLT, Nat.reduceBEq, PV.scal, PV.scalL, SV.scal, SV.scalL, Ob.scal, PV.isCell, pure', resO]
    subst he
    refine finA_gen [7] trivial (by simp [retA, rvA, mkE_cons, mk_nil, mkO_cons, mkO_nil, loadA, SV.tr, SV.trL, nmF, rn_nil, rn_cons1, rn_cons2, plainOb, SV.refsL, SV.refs, Ob.refs, X, F, List.range_succ, mkO, setO_mk]; rfl) ?_ ?_ ?_ ?_ ?_ ?_ ?_ <;> simp [retA, rvA, mkE_cons, mk_nil, mkO_cons, mkO_nil, loadA, SV.tr, SV.trL, nmF, rn_nil, rn_cons1, rn_cons2, plainOb, SV.refsL, SV.refs, Ob.refs, X, F, List.range_succ, mkO, setO_mk]
def a_IsScheme1 (f_isQuestion : FuncId) : AFn := ⟨2, 
  .seq (.reg [⟨some 3, none, .d (.mv (.c (.bool false)))⟩])
  (.seq (.reg [⟨some 4, none, .d (.load false 1 (.t 1))⟩,
    ⟨some 5, none, .d (.mv (.t 0))⟩,
    ⟨some 6, none, .d (.call (.f f_isQuestion) [(.t 4), (.t 5)])⟩,
    ⟨some 7, none, .d (.not (.t 6))⟩,
    ⟨some 3, none, .d (.mv (.t 7))⟩])
  (.ret)), [.tmp 3]⟩
def n_IsScheme1 : Nat → Option Ann := fun _ => none
abbrev k_IsScheme1 : List Nat := [0, 1, 3]
abbrev o_IsScheme1 : List Nat := []
def c_IsScheme1 : Con := pure' fun
  | [.p (.int .i64 q), .p (.cp [.int .i64 n])] => some (.p (.bool !(isQ n q)), [])
  | _ => none
theorem s_IsScheme1 {P : Program} (hm : P.follows .mixedOrders = true) {Γ : Gam} (hΓ : GS P Γ) {n : FuncId} {f_isQuestion : FuncId} (is : Is P n (a_IsScheme1 f_isQuestion)) (h_isQuestion : Γ f_isQuestion = c_isQuestion)  : Says P n c_IsScheme1 := by
  refine Says.pure fun args r fs h => ?_
  split at h
  case h_2 => cases h
  rename_i q n
  simp only [Option.some.injEq, Prod.mk.injEq] at h
  obtain ⟨rfl, rfl⟩ := h
  refine is.go hm hΓ k_IsScheme1 o_IsScheme1 (by simp [a_IsScheme1]) ?_
  simp only [a_IsScheme1, h_isQuestion, c_isQuestion, List.zipIdx_cons, List.zipIdx_nil, ↓SP, SQ, Gam.add, stepM, callC, argC, lendO, nmBy, nmC, likeL, likeB, plainOb, offs, exL, X, F, trP, trO, stepD, stepW, newA, SV.tr, SV.trL, fz, allP, Ob.tr, loadA, cellsA, SV.cells, binA, binI, eqOut, isSl, isPt, natOf, callee, snap, SV.refsL, SV.refs, thaw, fzAll, loA, hiA, elemOf, partsA, buildA, putCells, ↓reduceIte, reduceCtorEq, okCell, Nat.reduceAdd, Nat.reduceEqDiff, Nat.reduceSub, Nat.reduceMul, Nat.reduceLeDiff, Nat.reduceLT, Nat.reduceBEq, PV.scal, PV.scalL, SV.scal, SV.scalL, Ob.scal, PV.isCell, pure', resO]
  exact finA_val (by simp [retA, rvA, mkE_cons, mk_nil, mkO_cons, mkO_nil, loadA, SV.tr, SV.trL, nmF, rn_nil, rn_cons1, rn_cons2, plainOb, SV.refsL, SV.refs, Ob.refs, X, F, List.range_succ, mkO, setO_mk]) (by simp [SV.tr, SV.trL])
def a_IsScheme (f_isCount : FuncId) (f_IsScheme1 : FuncId) (f_ContainsFunc : FuncId) : AFn := ⟨2, 
  .seq (.reg [⟨some 2, none, .w (.box 1 (.t 0))⟩,
    ⟨some 4, none, .d (.mv (.c (.bool false)))⟩])
  (.seq (.reg [⟨some 5, none, .d (.load false 1 (.t 2))⟩,
    ⟨some 6, none, .d (.call (.f f_isCount) [(.t 5)])⟩,
    ⟨some 7, none, .d (.mv (.t 6))⟩,
    ⟨some 8, some (7, true), .d (.mv (.t 1))⟩,
    ⟨some 9, some (7, true), .d (.len (.t 8))⟩,
    ⟨some 10, some (7, true), .d (.bin .arith .leq (.t 9) (.c (.int .i64 14)))⟩,
    ⟨some 11, none, .d (.pick (.t 7) (.t 10) (.c (.bool false)))⟩,
    ⟨some 12, none, .d (.mv (.t 11))⟩,
    ⟨some 13, some (12, true), .d (.mv (.t 1))⟩,
    ⟨some 14, some (12, true), .d (.mkfn f_IsScheme1 [] [(.t 2)])⟩,
    ⟨some 15, some (12, true), .d (.call (.f f_ContainsFunc) [(.t 13), (.t 14)])⟩,
    ⟨some 16, some (12, true), .d (.not (.t 15))⟩,
    ⟨some 17, none, .d (.pick (.t 12) (.t 16) (.c (.bool false)))⟩,
    ⟨some 4, none, .d (.mv (.t 17))⟩])
  (.ret)), [.tmp 4]⟩
def n_IsScheme : Nat → Option Ann := fun _ => none
abbrev k_IsScheme : List Nat := [0, 1, 2, 4]
abbrev o_IsScheme : List Nat := [2]
/-- Whether questions make a scheme. -/
def isSm (n : Int) (l : List Int) : Bool := decide (1 ≤ n) && decide (n ≤ 12) && decide ((l.length : Int) ≤ 14) && l.all fun q => isQ n q
def c_IsScheme : Con := pure' fun
  | [.p (.int .i64 n), .p (.sl 1 l_)] => if isI l_ = true ∧ ((ofI l_).length ≤ 1100000) then some (.p (.bool (isSm n (ofI l_))), []) else none
  | _ => none
theorem s_IsScheme {P : Program} (hm : P.follows .mixedOrders = true) {Γ : Gam} (hΓ : GS P Γ) {n : FuncId} {f_isCount : FuncId} {f_IsScheme1 : FuncId} {f_ContainsFunc : FuncId} (is : Is P n (a_IsScheme f_isCount f_IsScheme1 f_ContainsFunc)) (h_isCount : Γ f_isCount = c_isCount) {Γ0 : Gam} (h_ContainsFunc : Γ f_ContainsFunc = c_ContainsFunc Γ0) (h_IsScheme1 : Γ0 f_IsScheme1 = c_IsScheme1) : Says P n c_IsScheme := by
  refine Says.pure fun args r fs h => ?_
  split at h
  case h_2 => cases h
  rename_i n l_
  split at h
  case isFalse => cases h
  rename_i hc
  obtain ⟨hl_, hc⟩ := hc
  obtain ⟨l, rfl⟩ := isI_out hl_
  simp only [ofI_ints, ofBo_bools, ofAs_asks, Option.some.injEq, Prod.mk.injEq] at h hc
  obtain ⟨rfl, rfl⟩ := h
  have hask : askF Γ0 f_IsScheme1 [] [.cp [.int .i64 n]] (ints l) = some (l.map fun q => !(isQ n q)) := askF_eq fun q _ => by
    rw [h_IsScheme1]; rfl
  cases h1 : (decide (1 ≤ n) && decide (n ≤ 12)) with
  | false =>
    refine is.go hm hΓ k_IsScheme o_IsScheme (by simp [a_IsScheme]) ?_
    simp only [a_IsScheme, h_isCount, c_isCount, h_ContainsFunc, c_ContainsFunc, hask, hc, h1, List.zipIdx_cons, List.zipIdx_nil, ↓SP, SQ, Gam.add, stepM, callC, argC, lendO, nmBy, nmC, likeL, likeB, plainOb, offs, exL, X, F, trP, trO, stepD, stepW, newA, SV.tr, SV.trL, fz, allP, Ob.tr, loadA, cellsA, SV.cells, binA, binI, eqOut, isSl, isPt, natOf, callee, snap, SV.refsL, SV.refs, thaw, fzAll, loA, hiA, elemOf, partsA, buildA, putCells, ↓reduceIte, reduceCtorEq, okCell, Nat.reduceAdd, Nat.reduceEqDiff, Nat.reduceSub, Nat.reduceMul, Nat.reduceLeDiff, Nat.reduceLT, Nat.reduceBEq, PV.scal, PV.scalL, SV.scal, SV.scalL, Ob.scal, PV.isCell, pure', resO]
    exact finA_val (by simp only [isSm, h1, Bool.false_and]; simp [retA, rvA, mkE_cons, mk_nil, mkO_cons, mkO_nil, loadA, SV.tr, SV.trL, nmF, rn_nil, rn_cons1, rn_cons2, plainOb, SV.refsL, SV.refs, Ob.refs, X, F, List.range_succ, mkO, setO_mk]) (by simp [SV.tr])
  | true =>
    by_cases h2 : (l.length : Int) ≤ 14
    · have h2' := dec_t h2
      refine is.go hm hΓ k_IsScheme o_IsScheme (by simp [a_IsScheme]) ?_
      simp only [a_IsScheme, h_isCount, c_isCount, h_ContainsFunc, c_ContainsFunc, hask, hc, h1, h2, List.zipIdx_cons, List.zipIdx_nil, ↓SP, SQ, Gam.add, stepM, callC, argC, lendO, nmBy, nmC, likeL, likeB, plainOb, offs, exL, X, F, trP, trO, stepD, stepW, newA, SV.tr, SV.trL, fz, allP, Ob.tr, loadA, cellsA, SV.cells, binA, binI, eqOut, isSl, isPt, natOf, callee, snap, SV.refsL, SV.refs, thaw, fzAll, loA, hiA, elemOf, partsA, buildA, putCells, ↓reduceIte, reduceCtorEq, okCell, Nat.reduceAdd, Nat.reduceEqDiff, Nat.reduceSub, Nat.reduceMul, Nat.reduceLeDiff, Nat.reduceLT, Nat.reduceBEq, PV.scal, PV.scalL, SV.scal, SV.scalL, Ob.scal, PV.isCell, pure', resO]
      exact finA_val (by simp only [isSm, h1, h2', Bool.true_and, ← any_not]; simp [retA, rvA, mkE_cons, mk_nil, mkO_cons, mkO_nil, loadA, SV.tr, SV.trL, nmF, rn_nil, rn_cons1, rn_cons2, plainOb, SV.refsL, SV.refs, Ob.refs, X, F, List.range_succ, mkO, setO_mk]) (by simp [SV.tr])
    · have h2' := dec_f h2
      refine is.go hm hΓ k_IsScheme o_IsScheme (by simp [a_IsScheme]) ?_
      simp only [a_IsScheme, h_isCount, c_isCount, h_ContainsFunc, c_ContainsFunc, hask, hc, h1, h2, List.zipIdx_cons, List.zipIdx_nil, ↓SP, SQ, Gam.add, stepM, callC, argC, lendO, nmBy, nmC, likeL, likeB, plainOb, offs, exL, X, F, trP, trO, stepD, stepW, newA, SV.tr, SV.trL, fz, allP, Ob.tr, loadA, cellsA, SV.cells, binA, binI, eqOut, isSl, isPt, natOf, callee, snap, SV.refsL, SV.refs, thaw, fzAll, loA, hiA, elemOf, partsA, buildA, putCells, ↓reduceIte, reduceCtorEq, okCell, Nat.reduceAdd, Nat.reduceEqDiff, Nat.reduceSub, Nat.reduceMul, Nat.reduceLeDiff, Nat.reduceLT, Nat.reduceBEq, PV.scal, PV.scalL, SV.scal, SV.scalL, Ob.scal, PV.isCell, pure', resO]
      exact finA_val (by simp only [isSm, h1, h2', Bool.and_false, Bool.false_and]; simp [retA, rvA, mkE_cons, mk_nil, mkO_cons, mkO_nil, loadA, SV.tr, SV.trL, nmF, rn_nil, rn_cons1, rn_cons2, plainOb, SV.refsL, SV.refs, Ob.refs, X, F, List.range_succ, mkO, setO_mk]) (by simp [SV.tr])
def a_l5Scheme (f_l2Asks : FuncId) (f_l2Numbers : FuncId) : AFn := ⟨2, 
  .seq (.reg [⟨some 4, none, .d (.mv (.c (.bool false)))⟩])
  (.seq (.seq (.reg [⟨some 5, none, .d (.mv (.c (.int .i64 0)))⟩])
  (.block 0 (.loop (.seq (.seq (.reg [⟨some 6, none, .d (.mv (.t 5))⟩,
      ⟨some 7, none, .d (.mv (.t 1))⟩,
      ⟨some 8, none, .d (.len (.t 7))⟩,
      ⟨some 9, none, .d (.bin .arith .lss (.t 6) (.t 8))⟩,
      ⟨some 10, none, .d (.mv (.t 9))⟩,
      ⟨some 11, some (10, true), .d (.mv (.t 5))⟩,
      ⟨some 12, some (10, true), .d (.bin .arith .leq (.t 11) (.c (.int .i64 14)))⟩,
      ⟨some 13, none, .d (.pick (.t 10) (.t 12) (.c (.bool false)))⟩])
    (.cond (.t 13) (.skip) (.exit 0)))
    (.seq (.block 1 (.seq (.reg [⟨some 16, none, .d (.mv (.t 0))⟩,
       ⟨some 17, none, .d (.mv (.t 1))⟩,
       ⟨some 18, none, .d (.mv (.t 5))⟩,
       ⟨some 19, none, .d (.ia 1 (.t 17) (.t 18))⟩,
       ⟨some 20, none, .d (.load false 1 (.t 19))⟩,
       ⟨some 21, none, .d (.call (.f f_l2Asks) [(.t 16), (.t 20)])⟩,
       ⟨some 22, none, .d (.not (.t 21))⟩])
     (.cond (.t 22) (.seq (.reg [⟨some 4, none, .d (.mv (.c (.bool false)))⟩])
      (.ret)) (.skip))))
    (.reg [⟨some 14, none, .d (.mv (.t 5))⟩,
      ⟨some 15, none, .d (.bin .arith .add (.t 14) (.c (.int .i64 1)))⟩,
      ⟨some 5, none, .d (.mv (.t 15))⟩]))))))
  (.seq (.reg [⟨some 23, none, .d (.mv (.t 0))⟩,
    ⟨some 24, none, .d (.call (.f f_l2Numbers) [(.t 23)])⟩,
    ⟨some 25, none, .d (.mv (.t 24))⟩,
    ⟨some 26, some (25, true), .d (.mv (.t 1))⟩,
    ⟨some 27, some (25, true), .d (.len (.t 26))⟩,
    ⟨some 28, some (25, true), .d (.bin .arith .leq (.t 27) (.c (.int .i64 14)))⟩,
    ⟨some 29, none, .d (.pick (.t 25) (.t 28) (.c (.bool false)))⟩,
    ⟨some 4, none, .d (.mv (.t 29))⟩])
  (.ret))), [.tmp 4]⟩
def n_l5Scheme : Nat → Option Ann := fun _ => none
abbrev k_l5Scheme : List Nat := [0, 1, 4, 5, 13, 22]
abbrev o_l5Scheme : List Nat := []
theorem s_l5Scheme {P : Program} (hm : P.follows .mixedOrders = true) {Γ : Gam} (hΓ : GS P Γ) {n : FuncId} {f_l2Asks : FuncId} {f_l2Numbers : FuncId} (is : Is P n (a_l5Scheme f_l2Asks f_l2Numbers)) (h_l2Asks : Γ f_l2Asks = c_isQuestion) (h_l2Numbers : Γ f_l2Numbers = c_isCount)  : Says P n c_IsScheme := by
  refine Says.pure fun args r fs h => ?_
  split at h
  case h_2 => cases h
  rename_i n l_
  split at h
  case isFalse => cases h
  rename_i hc
  obtain ⟨hl_, hc⟩ := hc
  obtain ⟨l, rfl⟩ := isI_out hl_
  simp only [ofI_ints, ofBo_bools, ofAs_asks, Option.some.injEq, Prod.mk.injEq] at h hc
  obtain ⟨rfl, rfl⟩ := h
  refine is.go hm hΓ k_l5Scheme o_l5Scheme (by simp [a_l5Scheme]) ?_
  simp only [a_l5Scheme, h_l2Asks, c_isQuestion, h_l2Numbers, c_isCount, List.zipIdx_cons, List.zipIdx_nil, ↓SP, SQ, Gam.add, stepM, callC, argC, lendO, nmBy, nmC, likeL, likeB, plainOb, offs, exL, X, F, trP, trO, stepD, stepW, newA, SV.tr, SV.trL, fz, allP, Ob.tr, loadA, cellsA, SV.cells, binA, binI, eqOut, isSl, isPt, natOf, callee, snap, SV.refsL, SV.refs, thaw, fzAll, loA, hiA, elemOf, partsA, buildA, putCells, ↓reduceIte, reduceCtorEq, okCell, Nat.reduceAdd, Nat.reduceEqDiff, Nat.reduceSub, Nat.reduceMul, Nat.reduceLeDiff, Nat.reduceLT, Nat.reduceBEq, PV.scal, PV.scalL, SV.scal, SV.scalL, Ob.scal, PV.isCell, pure', resO]
  refine loop_at (fun s : Nat × SV × SV => mkEnv [(0, si n), (1, .p (.sl 1 (ints l))), (4, sb false), (5, si s.1), (13, s.2.1), (22, s.2.2)]) (fun s => mkO []) (fun s => s.1 ≤ l.length ∧ s.1 ≤ 15 ∧ ∀ j, j < s.1 → isQ n (l.getD j 0) = true) (fun s => l.length - s.1) (0, .junk, .junk) (by simp) rfl rfl ?_
  rintro ⟨i, c1, c2⟩ ⟨hi, hi2, hp⟩ R hR hN
  simp only at hi hi2 hp
  by_cases h : i < l.length
  · have h1 : (i : Int) < l.length := by omega
    have hw := wrap_one (i := i) (by omega)
    have hg := ints_get h
    by_cases h2 : i ≤ 14
    · have h2' : (i : Int) ≤ 14 := by omega
      cases hq : isQ n (l.getD i 0) with
      | true =>
        simp only [h1, h2', hw, hg, hq, h_l2Asks, c_isQuestion, ↓SP, SQ, Gam.add, stepM, callC, argC, lendO, nmBy, nmC, likeL, likeB, plainOb, offs, exL, X, F, trP, trO, stepD, stepW, newA, SV.tr, SV.trL, fz, allP, Ob.tr, loadA, cellsA, SV.cells, binA, binI, eqOut, isSl, isPt, natOf, callee, snap, SV.refsL, SV.refs, thaw, fzAll, loA, hiA, elemOf, partsA, buildA, putCells, ↓reduceIte, reduceCtorEq, okCell, Nat.reduceAdd, Nat.reduceEqDiff, Nat.reduceSub, Nat.reduceMul, Nat.reduceLeDiff, Nat.reduceLT, Nat.reduceBEq, PV.scal, PV.scalL, SV.scal, SV.scalL, Ob.scal, PV.isCell, pure', resO]
        refine hN (i + 1, _, _) _ _ ⟨by simp only; omega, by simp only; omega, fun j hj => ?_⟩ (by simp only; omega) rfl rfl
        simp only at hj
        by_cases hji : j = i
        · rw [hji]; exact hq
        · exact hp j (by omega)
      | false =>
        have hst : isSm n l = false := by
          have : (l.all fun q => isQ n q) = false := by
            rw [Bool.eq_false_iff]; intro e
            have := List.all_eq_true.1 e (l.getD i 0) (by rw [getD_lt h]; exact List.getElem_mem h)
            rw [hq] at this; cases this
          simp only [isSm, this, Bool.and_false]
        simp only [h1, h2', hw, hg, hq, hst, h_l2Asks, c_isQuestion, ↓SP, SQ, Gam.add, stepM, callC, argC, lendO, nmBy, nmC, likeL, likeB, plainOb, offs, exL, X, F, trP, trO, stepD, stepW, newA, SV.tr, SV.trL, fz, allP, Ob.tr, loadA, cellsA, SV.cells, binA, binI, eqOut, isSl, isPt, natOf, callee, snap, SV.refsL, SV.refs, thaw, fzAll, loA, hiA, elemOf, partsA, buildA, putCells, ↓reduceIte, reduceCtorEq, okCell, Nat.reduceAdd, Nat.reduceEqDiff, Nat.reduceSub, Nat.reduceMul, Nat.reduceLeDiff, Nat.reduceLT, Nat.reduceBEq, PV.scal, PV.scalL, SV.scal, SV.scalL, Ob.scal, PV.isCell, pure', resO]
        refine hR _ _ _ (by intro h; cases h) ?_
        simp only [hst, ↓SP, SQ, Gam.add, stepM, callC, argC, lendO, nmBy, nmC, likeL, likeB, plainOb, offs, exL, X, F, trP, trO, stepD, stepW, newA, SV.tr, SV.trL, fz, allP, Ob.tr, loadA, cellsA, SV.cells, binA, binI, eqOut, isSl, isPt, natOf, callee, snap, SV.refsL, SV.refs, thaw, fzAll, loA, hiA, elemOf, partsA, buildA, putCells, ↓reduceIte, reduceCtorEq, okCell, Nat.reduceAdd, Nat.reduceEqDiff, Nat.reduceSub, Nat.reduceMul, Nat.reduceLeDiff, Nat.reduceLT, Nat.reduceBEq, PV.scal, PV.scalL, SV.scal, SV.scalL, Ob.scal, PV.isCell, pure', resO]
        exact finA_val (by simp [retA, rvA, mkE_cons, mk_nil, mkO_cons, mkO_nil, loadA, SV.tr, SV.trL, nmF, rn_nil, rn_cons1, rn_cons2, plainOb, SV.refsL, SV.refs, Ob.refs, X, F, List.range_succ, mkO, setO_mk]) (by simp [SV.tr, SV.trL])
    · have h2' : ¬ (i : Int) ≤ 14 := by omega
      have h3 : ¬ (l.length : Int) ≤ 14 := by omega
      have h4 : isSm n l = false := by simp only [isSm, dec_f h3, Bool.and_false, Bool.false_and]
      simp only [h1, h2', h3, h4, ↓SP, SQ, Gam.add, stepM, callC, argC, lendO, nmBy, nmC, likeL, likeB, plainOb, offs, exL, X, F, trP, trO, stepD, stepW, newA, SV.tr, SV.trL, fz, allP, Ob.tr, loadA, cellsA, SV.cells, binA, binI, eqOut, isSl, isPt, natOf, callee, snap, SV.refsL, SV.refs, thaw, fzAll, loA, hiA, elemOf, partsA, buildA, putCells, ↓reduceIte, reduceCtorEq, okCell, Nat.reduceAdd, Nat.reduceEqDiff, Nat.reduceSub, Nat.reduceMul, Nat.reduceLeDiff, Nat.reduceLT, Nat.reduceBEq, PV.scal, PV.scalL, SV.scal, SV.scalL, Ob.scal, PV.isCell, pure', resO]
      refine hR _ _ _ (by intro h; cases h) ?_
      cases g1 : (decide (1 ≤ n) && decide (n ≤ 12)) with
      | true =>
        simp only [h_l2Numbers, c_isCount, h3, h4, g1, ↓SP, SQ, Gam.add, stepM, callC, argC, lendO, nmBy, nmC, likeL, likeB, plainOb, offs, exL, X, F, trP, trO, stepD, stepW, newA, SV.tr, SV.trL, fz, allP, Ob.tr, loadA, cellsA, SV.cells, binA, binI, eqOut, isSl, isPt, natOf, callee, snap, SV.refsL, SV.refs, thaw, fzAll, loA, hiA, elemOf, partsA, buildA, putCells, ↓reduceIte, reduceCtorEq, okCell, Nat.reduceAdd, Nat.reduceEqDiff, Nat.reduceSub, Nat.reduceMul, Nat.reduceLeDiff, Nat.reduceLT, Nat.reduceBEq, PV.scal, PV.scalL, SV.scal, SV.scalL, Ob.scal, PV.isCell, pure', resO]
        exact finA_val (by simp [retA, rvA, mkE_cons, mk_nil, mkO_cons, mkO_nil, loadA, SV.tr, SV.trL, nmF, rn_nil, rn_cons1, rn_cons2, plainOb, SV.refsL, SV.refs, Ob.refs, X, F, List.range_succ, mkO, setO_mk]) (by simp [SV.tr, SV.trL])
      | false =>
        simp only [h_l2Numbers, c_isCount, h3, h4, g1, ↓SP, SQ, Gam.add, stepM, callC, argC, lendO, nmBy, nmC, likeL, likeB, plainOb, offs, exL, X, F, trP, trO, stepD, stepW, newA, SV.tr, SV.trL, fz, allP, Ob.tr, loadA, cellsA, SV.cells, binA, binI, eqOut, isSl, isPt, natOf, callee, snap, SV.refsL, SV.refs, thaw, fzAll, loA, hiA, elemOf, partsA, buildA, putCells, ↓reduceIte, reduceCtorEq, okCell, Nat.reduceAdd, Nat.reduceEqDiff, Nat.reduceSub, Nat.reduceMul, Nat.reduceLeDiff, Nat.reduceLT, Nat.reduceBEq, PV.scal, PV.scalL, SV.scal, SV.scalL, Ob.scal, PV.isCell, pure', resO]
        exact finA_val (by simp [retA, rvA, mkE_cons, mk_nil, mkO_cons, mkO_nil, loadA, SV.tr, SV.trL, nmF, rn_nil, rn_cons1, rn_cons2, plainOb, SV.refsL, SV.refs, Ob.refs, X, F, List.range_succ, mkO, setO_mk]) (by simp [SV.tr, SV.trL])
  · have he : i = l.length := by omega
    have h1 : ¬ (i : Int) < l.length := by omega
    have hall : (l.all fun q => isQ n q) = true := by
      rw [List.all_eq_true]; intro x hx
      obtain ⟨j, hj, e⟩ := List.getElem_of_mem hx
      have := hp j (by omega)
      rwa [getD_lt hj, e] at this
    simp only [h1, ↓SP, SQ, Gam.add, stepM, callC, argC, lendO, nmBy, nmC, likeL, likeB, plainOb, offs, exL, X, F, trP, trO, stepD, stepW, newA, SV.tr, SV.trL, fz, allP, Ob.tr, loadA, cellsA, SV.cells, binA, binI, eqOut, isSl, isPt, natOf, callee, snap, SV.refsL, SV.refs, thaw, fzAll, loA, hiA, elemOf, partsA, buildA, putCells, ↓reduceIte, reduceCtorEq, okCell, Nat.reduceAdd, Nat.reduceEqDiff, Nat.reduceSub, Nat.reduceMul, Nat.reduceLeDiff, Nat.reduceLT, Nat.reduceBEq, PV.scal, PV.scalL, SV.scal, SV.scalL, Ob.scal, PV.isCell, pure', resO]
    refine hR _ _ _ (by intro h; cases h) ?_
    cases g1 : (decide (1 ≤ n) && decide (n ≤ 12)) with
    | true =>
      have hs : isSm n l = decide ((l.length : Int) ≤ 14) := by simp only [isSm, g1, hall, Bool.true_and, Bool.and_true]
      simp only [h_l2Numbers, c_isCount, g1, hs, ↓SP, SQ, Gam.add, stepM, callC, argC, lendO, nmBy, nmC, likeL, likeB, plainOb, offs, exL, X, F, trP, trO, stepD, stepW, newA, SV.tr, SV.trL, fz, allP, Ob.tr, loadA, cellsA, SV.cells, binA, binI, eqOut, isSl, isPt, natOf, callee, snap, SV.refsL, SV.refs, thaw, fzAll, loA, hiA, elemOf, partsA, buildA, putCells, ↓reduceIte, reduceCtorEq, okCell, Nat.reduceAdd, Nat.reduceEqDiff, Nat.reduceSub, Nat.reduceMul, Nat.reduceLeDiff, Nat.reduceLT, Nat.reduceBEq, PV.scal, PV.scalL, SV.scal, SV.scalL, Ob.scal, PV.isCell, pure', resO]
      exact finA_val (by simp [retA, rvA, mkE_cons, mk_nil, mkO_cons, mkO_nil, loadA, SV.tr, SV.trL, nmF, rn_nil, rn_cons1, rn_cons2, plainOb, SV.refsL, SV.refs, Ob.refs, X, F, List.range_succ, mkO, setO_mk]) (by simp [SV.tr, SV.trL])
    | false =>
      have hs : isSm n l = false := by simp only [isSm, g1, Bool.false_and]
      simp only [h_l2Numbers, c_isCount, g1, hs, ↓SP, SQ, Gam.add, stepM, callC, argC, lendO, nmBy, nmC, likeL, likeB, plainOb, offs, exL, X, F, trP, trO, stepD, stepW, newA, SV.tr, SV.trL, fz, allP, Ob.tr, loadA, cellsA, SV.cells, binA, binI, eqOut, isSl, isPt, natOf, callee, snap, SV.refsL, SV.refs, thaw, fzAll, loA, hiA, elemOf, partsA, buildA, putCells, ↓reduceIte, reduceCtorEq, okCell, Nat.reduceAdd, Nat.reduceEqDiff, Nat.reduceSub, Nat.reduceMul, Nat.reduceLeDiff, Nat.reduceLT, Nat.reduceBEq, PV.scal, PV.scalL, SV.scal, SV.scalL, Ob.scal, PV.isCell, pure', resO]
      exact finA_val (by simp [retA, rvA, mkE_cons, mk_nil, mkO_cons, mkO_nil, loadA, SV.tr, SV.trL, nmF, rn_nil, rn_cons1, rn_cons2, plainOb, SV.refsL, SV.refs, Ob.refs, X, F, List.range_succ, mkO, setO_mk]) (by simp [SV.tr, SV.trL])
end Go.Proofs.Ytmbljmolegalhaa.Pam
