/- A part of the proof that stands in this folder: a small machine whose steps are shown to be the steps of the model, or walks of functions by it. No condition of its own. -/
import Derived.Test.YtpobnchalcokoaaDoorARJ
set_option linter.unusedVariables false
set_option linter.unusedSimpArgs false
namespace Go.Proofs.YtpobnchalcokoaaDoor.Pam
open Go
def rdD (t : ByteArray) : Nat → Option Nat
  | 0 => some 0
  | i + 1 => match rdD t i with
    | some n => if 48 ≤ (bAt t i).toNat ∧ (bAt t i).toNat ≤ 57 then some (10 * n + ((bAt t i).toNat - 48)) else none
    | none => none
theorem rdD_none {t : ByteArray} {i : Nat} (h : rdD t i = none) : ∀ j, i ≤ j → rdD t j = none
  | 0, hj => by rw [show i = 0 by omega] at h; exact h
  | j + 1, hj => by
    by_cases hij : i = j + 1
    · rw [← hij]; exact h
    · simp only [rdD, rdD_none h j (by omega)]
theorem rdD_lt {t : ByteArray} : ∀ i n, rdD t i = some n → n < 10 ^ i
  | 0, n, h => by simp only [rdD, Option.some.injEq] at h; omega
  | i + 1, n, h => by
    simp only [rdD] at h
    split at h
    · rename_i m hm
      have := rdD_lt i m hm
      split at h
      · simp only [Option.some.injEq] at h
        rw [Nat.pow_succ]
        omega
      · cases h
    · cases h
def tlB (s : ByteArray) : ByteArray := if 1 < s.size ∧ bAt s 0 = 45 then s.extract 1 s.size else s
def rdZ (s : ByteArray) (n : Nat) : Int := if (tlB s).size < s.size then -(n : Int) else n
def rdV (s : ByteArray) : Int × Bool :=
  if 1 ≤ (tlB s).size ∧ (tlB s).size ≤ 6 then
    match rdD (tlB s) (tlB s).size with
    | some n => if ((numS (rdZ s n)).toList == s.toList) = true then (rdZ s n, true) else (0, false)
    | none => (0, false)
  else (0, false)
def a_read (f_l1InI : FuncId) (f_num : FuncId) : AFn := ⟨1, 
  .seq (.reg [⟨some 2, none, .d (.mv (.c (.int .i64 0)))⟩,
    ⟨some 3, none, .d (.mv (.c (.bool false)))⟩])
  (.seq (.reg [⟨some 7, none, .d (.mv (.t 0))⟩,
    ⟨some 4, none, .d (.mv (.t 7))⟩])
  (.seq (.seq (.reg [⟨some 8, none, .d (.mv (.t 4))⟩,
    ⟨some 9, none, .d (.lenS (.t 8))⟩,
    ⟨some 10, none, .d (.bin .arith .gtr (.t 9) (.c (.int .i64 1)))⟩,
    ⟨some 11, none, .d (.mv (.t 10))⟩,
    ⟨some 12, some (11, true), .d (.mv (.t 4))⟩,
    ⟨some 13, some (11, true), .d (.idxS (.t 12) (.c (.int .i64 0)))⟩,
    ⟨some 14, some (11, true), .d (.bin .arith .eql (.t 13) (.c (.int .u8 45)))⟩,
    ⟨some 15, none, .d (.pick (.t 11) (.t 14) (.c (.bool false)))⟩])
  (.cond (.t 15) (.reg [⟨some 16, none, .d (.mv (.t 4))⟩,
     ⟨some 17, none, .d (.slcS (.t 16) (some (.c (.int .i64 1))) none)⟩,
     ⟨some 4, none, .d (.mv (.t 17))⟩]) (.skip)))
  (.seq (.seq (.reg [⟨some 18, none, .d (.mv (.t 4))⟩,
    ⟨some 19, none, .d (.lenS (.t 18))⟩,
    ⟨some 20, none, .d (.call (.f f_l1InI) [(.t 19), (.c (.int .i64 1)), (.c (.int .i64 6))])⟩,
    ⟨some 21, none, .d (.not (.t 20))⟩])
  (.cond (.t 21) (.seq (.reg [⟨some 2, none, .d (.mv (.c (.int .i64 0)))⟩,
     ⟨some 3, none, .d (.mv (.c (.bool false)))⟩])
   (.ret)) (.skip)))
  (.seq (.reg [⟨some 5, none, .d (.mv (.c (.int .i64 0)))⟩])
  (.seq (.seq (.reg [⟨some 6, none, .d (.mv (.c (.int .i64 0)))⟩])
  (.block 0 (.loop (.seq (.seq (.reg [⟨some 22, none, .d (.mv (.t 6))⟩,
      ⟨some 23, none, .d (.mv (.t 4))⟩,
      ⟨some 24, none, .d (.lenS (.t 23))⟩,
      ⟨some 25, none, .d (.bin .arith .lss (.t 22) (.t 24))⟩])
    (.cond (.t 25) (.skip) (.exit 0)))
    (.seq (.block 1 (.seq (.seq (.reg [⟨some 28, none, .d (.mv (.t 4))⟩,
       ⟨some 29, none, .d (.mv (.t 6))⟩,
       ⟨some 30, none, .d (.idxS (.t 28) (.t 29))⟩,
       ⟨some 31, none, .d (.bin .arith .lss (.t 30) (.c (.int .u8 48)))⟩,
       ⟨some 32, none, .d (.mv (.t 31))⟩,
       ⟨some 33, some (32, false), .d (.mv (.t 4))⟩,
       ⟨some 34, some (32, false), .d (.mv (.t 6))⟩,
       ⟨some 35, some (32, false), .d (.idxS (.t 33) (.t 34))⟩,
       ⟨some 36, some (32, false), .d (.bin .arith .gtr (.t 35) (.c (.int .u8 57)))⟩,
       ⟨some 37, none, .d (.pick (.t 32) (.c (.bool true)) (.t 36))⟩])
     (.cond (.t 37) (.seq (.reg [⟨some 2, none, .d (.mv (.c (.int .i64 0)))⟩,
        ⟨some 3, none, .d (.mv (.c (.bool false)))⟩])
      (.ret)) (.skip)))
     (.reg [⟨some 38, none, .d (.mv (.t 5))⟩,
       ⟨some 39, none, .d (.bin .arith .mul (.c (.int .i64 10)) (.t 38))⟩,
       ⟨some 40, none, .d (.mv (.t 4))⟩,
       ⟨some 41, none, .d (.mv (.t 6))⟩,
       ⟨some 42, none, .d (.idxS (.t 40) (.t 41))⟩,
       ⟨some 43, none, .d (.bin .arith .sub (.t 42) (.c (.int .u8 48)))⟩,
       ⟨some 44, none, .d (.conv .i64 (.t 43))⟩,
       ⟨some 45, none, .d (.bin .arith .add (.t 39) (.t 44))⟩,
       ⟨some 5, none, .d (.mv (.t 45))⟩])))
    (.reg [⟨some 26, none, .d (.mv (.t 6))⟩,
      ⟨some 27, none, .d (.bin .arith .add (.t 26) (.c (.int .i64 1)))⟩,
      ⟨some 6, none, .d (.mv (.t 27))⟩]))))))
  (.seq (.seq (.reg [⟨some 46, none, .d (.mv (.t 4))⟩,
    ⟨some 47, none, .d (.lenS (.t 46))⟩,
    ⟨some 48, none, .d (.mv (.t 0))⟩,
    ⟨some 49, none, .d (.lenS (.t 48))⟩,
    ⟨some 50, none, .d (.bin .arith .lss (.t 47) (.t 49))⟩])
  (.cond (.t 50) (.reg [⟨some 51, none, .d (.mv (.t 5))⟩,
     ⟨some 52, none, .d (.neg (.t 51))⟩,
     ⟨some 5, none, .d (.mv (.t 52))⟩]) (.skip)))
  (.seq (.seq (.reg [⟨some 53, none, .d (.mv (.t 5))⟩,
    ⟨some 54, none, .d (.call (.f f_num) [(.t 53)])⟩,
    ⟨some 55, none, .d (.mv (.t 0))⟩,
    ⟨some 56, none, .d (.bin .str .neq (.t 54) (.t 55))⟩])
  (.cond (.t 56) (.seq (.reg [⟨some 2, none, .d (.mv (.c (.int .i64 0)))⟩,
     ⟨some 3, none, .d (.mv (.c (.bool false)))⟩])
   (.ret)) (.skip)))
  (.seq (.reg [⟨some 57, none, .d (.mv (.t 5))⟩,
    ⟨some 2, none, .d (.mv (.t 57))⟩,
    ⟨some 3, none, .d (.mv (.c (.bool true)))⟩])
  (.ret))))))))), [.tmp 2, .tmp 3]⟩
def n_read : Nat → Option Ann := fun _ => none
abbrev k_read : List Nat := [0, 2, 3, 4, 5, 6, 15, 21, 25, 37, 50, 56]
abbrev o_read : List Nat := []
def c_read : Con := pure' fun
  | [.p (.str s)] => if s.size ≤ 5000 then some (.tp [.p (.int .i64 (rdV s).1), .p (.bool (rdV s).2)], []) else none
  | _ => none
set_option maxHeartbeats 2000000 in
theorem s_read {P : Program} (hm : P.follows .mixedOrders = true) {Γ : Gam} (hΓ : GS P Γ) {n : FuncId} {f_l1InI : FuncId} {f_num : FuncId} (is : Is P n (a_read f_l1InI f_num)) (h_l1InI : Γ f_l1InI = c_inI) (h_num : Γ f_num = c_num)  : Says P n c_read := by
  refine Says.pure fun args r fs h => ?_
  split at h
  case h_2 => cases h
  rename_i s
  split at h
  case isFalse => cases h
  rename_i hs
  simp only [Option.some.injEq, Prod.mk.injEq] at h
  obtain ⟨rfl, rfl⟩ := h
  by_cases hA : 1 < s.size ∧ bAt s 0 = 45
  · obtain ⟨a1, a2⟩ := hA
    have b0 := bget (s := s) (i := 0) (by omega)
    have g1 : (s.size : Int) > 1 := by omega
    have g2 : ((bAt s 0).toNat : Int) = 45 := by rw [a2]; rfl
    have g3 : (((bAt s 0).toNat : Int) == 45) = true := by simp [g2]
    have htl : tlB s = s.extract 1 s.size := by unfold tlB; rw [if_pos ⟨a1, a2⟩]
    have hts : (s.extract 1 s.size).size = s.size - 1 := by simp
    have l1 : 1 ≤ s.size ∧ s.size ≤ s.size := by omega
    have hrz : ∀ n : Nat, rdZ s n = -(n : Int) := fun n => by unfold rdZ; rw [htl, hts, if_pos (by omega)]
    generalize hte : (s.extract 1 s.size) = t at *
    have hrv : rdV s = if 1 ≤ t.size ∧ t.size ≤ 6 then (match rdD t t.size with
      | some n => if ((numS (rdZ s n)).toList == s.toList) = true then (rdZ s n, true) else (0, false)
      | none => (0, false)) else (0, false) := by unfold rdV; rw [htl]
    by_cases hin : 1 ≤ (t.size : Int) ∧ (t.size : Int) ≤ 6
    · rw [if_pos (by omega)] at hrv
      refine is.go hm hΓ k_read o_read (by simp [a_read]) ?_
      simp only [a_read, h_l1InI, c_inI, h_num, c_num, g1, g2, g3, b0, l1, (by decide : ((45 : Int) == 45) = true), hte, hin, Int.toNat_natCast, Int.reduceToNat, Int.le_refl, (by decide : (0 : Int) ≤ 1), List.zipIdx_cons, List.zipIdx_nil, ↓SP, SQ, Gam.add, stepM, callC, argC, lendO, nmBy, nmC, likeL, likeB, plainOb, offs, exL, X, F, trP, trO, stepD, stepW, newA, SV.tr, SV.trL, fz, allP, Ob.tr, loadA, cellsA, SV.cells, binA, binI, eqOut, isSl, isPt, natOf, callee, snap, SV.refsL, SV.refs, thaw, fzAll, loA, hiA, elemOf, partsA, buildA, putCells, ↓reduceIte, reduceCtorEq, okCell, Nat.reduceAdd, Nat.reduceEqDiff, Nat.reduceSub, Nat.reduceMul, Nat.reduceLeDiff, Nat.reduceLT, Nat.reduceBEq, PV.scal, PV.scalL, SV.scal, SV.scalL, Ob.scal, PV.isCell, pure', resO]
      refine loop_at (fun u : Nat × SV × SV => mkEnv [(0, .p (.str s)), (2, si 0), (3, .p (.bool false)), (4, .p (.str t)), (5, si ((rdD t u.1).getD 0 : Nat)), (6, si u.1), (15, .p (.bool true)), (21, .p (.bool false)), (25, u.2.1), (37, u.2.2), (50, .junk), (56, .junk)])
        (fun u => mkO [])
        (fun u => u.1 ≤ t.size ∧ rdD t u.1 = some ((rdD t u.1).getD 0)) (fun u => t.size - u.1) (0, .junk, .junk) (by simp [rdD]) (by simp [rdD]) (by simp) ?_
      rintro ⟨i, x25, x37⟩ ⟨hi, hd⟩ R hR hN
      simp only at hi hd
      have hlt10 := rdD_lt i _ hd
      have h106 : (rdD t i).getD 0 < 1000000 := Nat.lt_of_lt_of_le hlt10 (Nat.pow_le_pow_right (n := 10) (by decide) (by omega : i ≤ 6))
      generalize hne : (rdD t i).getD 0 = n at *
      by_cases hlt : i < t.size
      · have hgt : (i : Int) < t.size := by omega
        have hw : IntKind.i64.wrap ((i : Int) + 1) = ((i + 1 : Nat) : Int) := by rw [wrap64 (by omega) (by omega)]; omega
        have hb := bget hlt
        have hi0 : (0 : Int) ≤ i := by omega
        have hq : (bAt t i).toNat < 256 := (bAt t i).toNat_lt
        have hst : rdD t (i + 1) = if 48 ≤ (bAt t i).toNat ∧ (bAt t i).toNat ≤ 57 then some (10 * n + ((bAt t i).toNat - 48)) else none := by simp only [rdD, hd]
        by_cases c1 : ((bAt t i).toNat : Int) < 48
        · have hnn : rdD t t.size = none := rdD_none (i := i + 1) (by rw [hst, if_neg (by omega)]) _ (by omega)
          rw [hnn] at hrv
          simp only [hgt, hw, hb, hi0, c1, Int.toNat_natCast, ↓SP, SQ, Gam.add, stepM, callC, argC, lendO, nmBy, nmC, likeL, likeB, plainOb, offs, exL, X, F, trP, trO, stepD, stepW, newA, SV.tr, SV.trL, fz, allP, Ob.tr, loadA, cellsA, SV.cells, binA, binI, eqOut, isSl, isPt, natOf, callee, snap, SV.refsL, SV.refs, thaw, fzAll, loA, hiA, elemOf, partsA, buildA, putCells, ↓reduceIte, reduceCtorEq, okCell, Nat.reduceAdd, Nat.reduceEqDiff, Nat.reduceSub, Nat.reduceMul, Nat.reduceLeDiff, Nat.reduceLT, Nat.reduceBEq, PV.scal, PV.scalL, SV.scal, SV.scalL, Ob.scal, PV.isCell, pure', resO]
          refine hR _ _ _ (by intro h; cases h) ?_
          exact finA_val (by simp [hrv, retA, rvA, mkE_cons, mk_nil, mkO_cons, mkO_nil, loadA, SV.tr, SV.trL, nmF, rn_nil, rn_cons1, rn_cons2, plainOb, SV.refsL, SV.refs, Ob.refs, X, F, List.range_succ, mkO, setO_mk]) (by simp [SV.tr, SV.trL])
        · by_cases c2 : ((bAt t i).toNat : Int) > 57
          · have hnn : rdD t t.size = none := rdD_none (i := i + 1) (by rw [hst, if_neg (by omega)]) _ (by omega)
            rw [hnn] at hrv
            simp only [hgt, hw, hb, hi0, c1, c2, Int.toNat_natCast, ↓SP, SQ, Gam.add, stepM, callC, argC, lendO, nmBy, nmC, likeL, likeB, plainOb, offs, exL, X, F, trP, trO, stepD, stepW, newA, SV.tr, SV.trL, fz, allP, Ob.tr, loadA, cellsA, SV.cells, binA, binI, eqOut, isSl, isPt, natOf, callee, snap, SV.refsL, SV.refs, thaw, fzAll, loA, hiA, elemOf, partsA, buildA, putCells, ↓reduceIte, reduceCtorEq, okCell, Nat.reduceAdd, Nat.reduceEqDiff, Nat.reduceSub, Nat.reduceMul, Nat.reduceLeDiff, Nat.reduceLT, Nat.reduceBEq, PV.scal, PV.scalL, SV.scal, SV.scalL, Ob.scal, PV.isCell, pure', resO]
            refine hR _ _ _ (by intro h; cases h) ?_
            exact finA_val (by simp [hrv, retA, rvA, mkE_cons, mk_nil, mkO_cons, mkO_nil, loadA, SV.tr, SV.trL, nmF, rn_nil, rn_cons1, rn_cons2, plainOb, SV.refsL, SV.refs, Ob.refs, X, F, List.range_succ, mkO, setO_mk]) (by simp [SV.tr, SV.trL])
          · rw [if_pos (by omega)] at hst
            have v1 : IntKind.i64.wrap (10 * (n : Int)) = 10 * n := wrap64 (by omega) (by omega)
            have v2 : IntKind.u8.wrap (((bAt t i).toNat : Int) - 48) = (((bAt t i).toNat - 48 : Nat) : Int) := by rw [show ((bAt t i).toNat : Int) - 48 = (((bAt t i).toNat - 48 : Nat) : Int) by omega, IntKind.wrap_u8]; omega
            have v3 : IntKind.i64.wrap (((bAt t i).toNat - 48 : Nat) : Int) = (((bAt t i).toNat - 48 : Nat) : Int) := wrap64 (by omega) (by omega)
            have v4 : IntKind.i64.wrap (10 * (n : Int) + (((bAt t i).toNat - 48 : Nat) : Int)) = ((10 * n + ((bAt t i).toNat - 48) : Nat) : Int) := by rw [wrap64 (by omega) (by omega)]; omega
            simp only [hgt, hw, hb, hi0, c1, c2, v1, v2, v3, v4, Int.toNat_natCast, ↓SP, SQ, Gam.add, stepM, callC, argC, lendO, nmBy, nmC, likeL, likeB, plainOb, offs, exL, X, F, trP, trO, stepD, stepW, newA, SV.tr, SV.trL, fz, allP, Ob.tr, loadA, cellsA, SV.cells, binA, binI, eqOut, isSl, isPt, natOf, callee, snap, SV.refsL, SV.refs, thaw, fzAll, loA, hiA, elemOf, partsA, buildA, putCells, ↓reduceIte, reduceCtorEq, okCell, Nat.reduceAdd, Nat.reduceEqDiff, Nat.reduceSub, Nat.reduceMul, Nat.reduceLeDiff, Nat.reduceLT, Nat.reduceBEq, PV.scal, PV.scalL, SV.scal, SV.scalL, Ob.scal, PV.isCell, pure', resO]
            refine hN (i + 1, .p (.bool true), .p (.bool false)) _ _ ⟨by simp only; omega, by simp only [hst, Option.getD_some]⟩ (by simp only; omega) (by simp only [hst, Option.getD_some]) rfl
      · have he : i = t.size := by omega
        subst he
        have hgt : ¬ ((t.size : Nat) : Int) < t.size := by omega
        simp only [hgt, ↓SP, SQ, Gam.add, stepM, callC, argC, lendO, nmBy, nmC, likeL, likeB, plainOb, offs, exL, X, F, trP, trO, stepD, stepW, newA, SV.tr, SV.trL, fz, allP, Ob.tr, loadA, cellsA, SV.cells, binA, binI, eqOut, isSl, isPt, natOf, callee, snap, SV.refsL, SV.refs, thaw, fzAll, loA, hiA, elemOf, partsA, buildA, putCells, ↓reduceIte, reduceCtorEq, okCell, Nat.reduceAdd, Nat.reduceEqDiff, Nat.reduceSub, Nat.reduceMul, Nat.reduceLeDiff, Nat.reduceLT, Nat.reduceBEq, PV.scal, PV.scalL, SV.scal, SV.scalL, Ob.scal, PV.isCell, pure', resO]
        refine hR _ _ _ (by intro h; cases h) ?_
        rw [hd] at hrv
        simp only [hrz] at hrv
        have w1 : IntKind.i64.wrap (-(n : Int)) = -(n : Int) := wrap64 (by omega) (by omega)
        have w2 : (t.size : Int) < s.size := by omega
        have q1 : -1000000 ≤ -(n : Int) := by omega
        have q2 : -(n : Int) ≤ 1000000 := by omega
        by_cases hsame : ((numS (-(n : Int))).toList == s.toList) = true
        · rw [if_pos hsame] at hrv
          simp only [w1, w2, q1, q2, hsame, binS, h_num, c_num, Bool.not_true, ↓SP, SQ, Gam.add, stepM, callC, argC, lendO, nmBy, nmC, likeL, likeB, plainOb, offs, exL, X, F, trP, trO, stepD, stepW, newA, SV.tr, SV.trL, fz, allP, Ob.tr, loadA, cellsA, SV.cells, binA, binI, eqOut, isSl, isPt, natOf, callee, snap, SV.refsL, SV.refs, thaw, fzAll, loA, hiA, elemOf, partsA, buildA, putCells, ↓reduceIte, reduceCtorEq, okCell, Nat.reduceAdd, Nat.reduceEqDiff, Nat.reduceSub, Nat.reduceMul, Nat.reduceLeDiff, Nat.reduceLT, Nat.reduceBEq, PV.scal, PV.scalL, SV.scal, SV.scalL, Ob.scal, PV.isCell, pure', resO]
          exact finA_val (by simp [hrv, retA, rvA, mkE_cons, mk_nil, mkO_cons, mkO_nil, loadA, SV.tr, SV.trL, nmF, rn_nil, rn_cons1, rn_cons2, plainOb, SV.refsL, SV.refs, Ob.refs, X, F, List.range_succ, mkO, setO_mk]) (by simp [SV.tr, SV.trL])
        · rw [if_neg hsame] at hrv
          have hsame : ((numS (-(n : Int))).toList == s.toList) = false := by simpa using hsame
          simp only [w1, w2, q1, q2, hsame, binS, h_num, c_num, Bool.not_false, ↓SP, SQ, Gam.add, stepM, callC, argC, lendO, nmBy, nmC, likeL, likeB, plainOb, offs, exL, X, F, trP, trO, stepD, stepW, newA, SV.tr, SV.trL, fz, allP, Ob.tr, loadA, cellsA, SV.cells, binA, binI, eqOut, isSl, isPt, natOf, callee, snap, SV.refsL, SV.refs, thaw, fzAll, loA, hiA, elemOf, partsA, buildA, putCells, ↓reduceIte, reduceCtorEq, okCell, Nat.reduceAdd, Nat.reduceEqDiff, Nat.reduceSub, Nat.reduceMul, Nat.reduceLeDiff, Nat.reduceLT, Nat.reduceBEq, PV.scal, PV.scalL, SV.scal, SV.scalL, Ob.scal, PV.isCell, pure', resO]
          exact finA_val (by simp [hrv, retA, rvA, mkE_cons, mk_nil, mkO_cons, mkO_nil, loadA, SV.tr, SV.trL, nmF, rn_nil, rn_cons1, rn_cons2, plainOb, SV.refsL, SV.refs, Ob.refs, X, F, List.range_succ, mkO, setO_mk]) (by simp [SV.tr, SV.trL])
    · rw [if_neg (by omega)] at hrv
      refine is.go hm hΓ k_read o_read (by simp [a_read]) ?_
      simp only [a_read, h_l1InI, c_inI, h_num, c_num, g1, g2, g3, b0, l1, (by decide : ((45 : Int) == 45) = true), hte, hin, Int.toNat_natCast, Int.reduceToNat, Int.le_refl, (by decide : (0 : Int) ≤ 1), List.zipIdx_cons, List.zipIdx_nil, ↓SP, SQ, Gam.add, stepM, callC, argC, lendO, nmBy, nmC, likeL, likeB, plainOb, offs, exL, X, F, trP, trO, stepD, stepW, newA, SV.tr, SV.trL, fz, allP, Ob.tr, loadA, cellsA, SV.cells, binA, binI, eqOut, isSl, isPt, natOf, callee, snap, SV.refsL, SV.refs, thaw, fzAll, loA, hiA, elemOf, partsA, buildA, putCells, ↓reduceIte, reduceCtorEq, okCell, Nat.reduceAdd, Nat.reduceEqDiff, Nat.reduceSub, Nat.reduceMul, Nat.reduceLeDiff, Nat.reduceLT, Nat.reduceBEq, PV.scal, PV.scalL, SV.scal, SV.scalL, Ob.scal, PV.isCell, pure', resO]
      exact finA_val (by simp [hrv, retA, rvA, mkE_cons, mk_nil, mkO_cons, mkO_nil, loadA, SV.tr, SV.trL, nmF, rn_nil, rn_cons1, rn_cons2, plainOb, SV.refsL, SV.refs, Ob.refs, X, F, List.range_succ, mkO, setO_mk]) (by simp [SV.tr, SV.trL])
  · have htl : tlB s = s := by unfold tlB; rw [if_neg hA]
    have hrz : ∀ n : Nat, rdZ s n = (n : Int) := fun n => by unfold rdZ; rw [htl, if_neg (by omega)]
    by_cases g1 : (s.size : Int) > 1
    · have b0 := bget (s := s) (i := 0) (by omega)
      have g2 : ((bAt s 0).toNat : Int) ≠ 45 := fun h => hA ⟨by omega, UInt8.toNat.inj (by show (bAt s 0).toNat = 45; omega)⟩
      have g3 : (((bAt s 0).toNat : Int) == 45) = false := by simp only [beq_eq_false_iff_ne]; exact g2
      have hrv : rdV s = if 1 ≤ s.size ∧ s.size ≤ 6 then (match rdD s s.size with
        | some n => if ((numS (rdZ s n)).toList == s.toList) = true then (rdZ s n, true) else (0, false)
        | none => (0, false)) else (0, false) := by unfold rdV; rw [htl]
      by_cases hin : 1 ≤ (s.size : Int) ∧ (s.size : Int) ≤ 6
      · rw [if_pos (by omega)] at hrv
        refine is.go hm hΓ k_read o_read (by simp [a_read]) ?_
        simp only [a_read, h_l1InI, c_inI, h_num, c_num, g1, g2, g3, b0, hin, Int.toNat_natCast, Int.reduceToNat, Int.le_refl, List.zipIdx_cons, List.zipIdx_nil, ↓SP, SQ, Gam.add, stepM, callC, argC, lendO, nmBy, nmC, likeL, likeB, plainOb, offs, exL, X, F, trP, trO, stepD, stepW, newA, SV.tr, SV.trL, fz, allP, Ob.tr, loadA, cellsA, SV.cells, binA, binI, eqOut, isSl, isPt, natOf, callee, snap, SV.refsL, SV.refs, thaw, fzAll, loA, hiA, elemOf, partsA, buildA, putCells, ↓reduceIte, reduceCtorEq, okCell, Nat.reduceAdd, Nat.reduceEqDiff, Nat.reduceSub, Nat.reduceMul, Nat.reduceLeDiff, Nat.reduceLT, Nat.reduceBEq, PV.scal, PV.scalL, SV.scal, SV.scalL, Ob.scal, PV.isCell, pure', resO]
        refine loop_at (fun u : Nat × SV × SV => mkEnv [(0, .p (.str s)), (2, si 0), (3, .p (.bool false)), (4, .p (.str s)), (5, si ((rdD s u.1).getD 0 : Nat)), (6, si u.1), (15, .p (.bool false)), (21, .p (.bool false)), (25, u.2.1), (37, u.2.2), (50, .junk), (56, .junk)])
          (fun u => mkO [])
          (fun u => u.1 ≤ s.size ∧ rdD s u.1 = some ((rdD s u.1).getD 0)) (fun u => s.size - u.1) (0, .junk, .junk) (by simp [rdD]) (by simp [rdD]) (by simp) ?_
        rintro ⟨i, x25, x37⟩ ⟨hi, hd⟩ R hR hN
        simp only at hi hd
        have hlt10 := rdD_lt i _ hd
        have h106 : (rdD s i).getD 0 < 1000000 := Nat.lt_of_lt_of_le hlt10 (Nat.pow_le_pow_right (n := 10) (by decide) (by omega : i ≤ 6))
        generalize hne : (rdD s i).getD 0 = n at *
        by_cases hlt : i < s.size
        · have hgt : (i : Int) < s.size := by omega
          have hw : IntKind.i64.wrap ((i : Int) + 1) = ((i + 1 : Nat) : Int) := by rw [wrap64 (by omega) (by omega)]; omega
          have hb := bget hlt
          have hi0 : (0 : Int) ≤ i := by omega
          have hq : (bAt s i).toNat < 256 := (bAt s i).toNat_lt
          have hst : rdD s (i + 1) = if 48 ≤ (bAt s i).toNat ∧ (bAt s i).toNat ≤ 57 then some (10 * n + ((bAt s i).toNat - 48)) else none := by simp only [rdD, hd]
          by_cases c1 : ((bAt s i).toNat : Int) < 48
          · have hnn : rdD s s.size = none := rdD_none (i := i + 1) (by rw [hst, if_neg (by omega)]) _ (by omega)
            rw [hnn] at hrv
            simp only [hgt, hw, hb, hi0, c1, Int.toNat_natCast, ↓SP, SQ, Gam.add, stepM, callC, argC, lendO, nmBy, nmC, likeL, likeB, plainOb, offs, exL, X, F, trP, trO, stepD, stepW, newA, SV.tr, SV.trL, fz, allP, Ob.tr, loadA, cellsA, SV.cells, binA, binI, eqOut, isSl, isPt, natOf, callee, snap, SV.refsL, SV.refs, thaw, fzAll, loA, hiA, elemOf, partsA, buildA, putCells, ↓reduceIte, reduceCtorEq, okCell, Nat.reduceAdd, Nat.reduceEqDiff, Nat.reduceSub, Nat.reduceMul, Nat.reduceLeDiff, Nat.reduceLT, Nat.reduceBEq, PV.scal, PV.scalL, SV.scal, SV.scalL, Ob.scal, PV.isCell, pure', resO]
            refine hR _ _ _ (by intro h; cases h) ?_
            exact finA_val (by simp [hrv, retA, rvA, mkE_cons, mk_nil, mkO_cons, mkO_nil, loadA, SV.tr, SV.trL, nmF, rn_nil, rn_cons1, rn_cons2, plainOb, SV.refsL, SV.refs, Ob.refs, X, F, List.range_succ, mkO, setO_mk]) (by simp [SV.tr, SV.trL])
          · by_cases c2 : ((bAt s i).toNat : Int) > 57
            · have hnn : rdD s s.size = none := rdD_none (i := i + 1) (by rw [hst, if_neg (by omega)]) _ (by omega)
              rw [hnn] at hrv
              simp only [hgt, hw, hb, hi0, c1, c2, Int.toNat_natCast, ↓SP, SQ, Gam.add, stepM, callC, argC, lendO, nmBy, nmC, likeL, likeB, plainOb, offs, exL, X, F, trP, trO, stepD, stepW, newA, SV.tr, SV.trL, fz, allP, Ob.tr, loadA, cellsA, SV.cells, binA, binI, eqOut, isSl, isPt, natOf, callee, snap, SV.refsL, SV.refs, thaw, fzAll, loA, hiA, elemOf, partsA, buildA, putCells, ↓reduceIte, reduceCtorEq, okCell, Nat.reduceAdd, Nat.reduceEqDiff, Nat.reduceSub, Nat.reduceMul, Nat.reduceLeDiff, Nat.reduceLT, Nat.reduceBEq, PV.scal, PV.scalL, SV.scal, SV.scalL, Ob.scal, PV.isCell, pure', resO]
              refine hR _ _ _ (by intro h; cases h) ?_
              exact finA_val (by simp [hrv, retA, rvA, mkE_cons, mk_nil, mkO_cons, mkO_nil, loadA, SV.tr, SV.trL, nmF, rn_nil, rn_cons1, rn_cons2, plainOb, SV.refsL, SV.refs, Ob.refs, X, F, List.range_succ, mkO, setO_mk]) (by simp [SV.tr, SV.trL])
            · rw [if_pos (by omega)] at hst
              have v1 : IntKind.i64.wrap (10 * (n : Int)) = 10 * n := wrap64 (by omega) (by omega)
              have v2 : IntKind.u8.wrap (((bAt s i).toNat : Int) - 48) = (((bAt s i).toNat - 48 : Nat) : Int) := by rw [show ((bAt s i).toNat : Int) - 48 = (((bAt s i).toNat - 48 : Nat) : Int) by omega, IntKind.wrap_u8]; omega
              have v3 : IntKind.i64.wrap (((bAt s i).toNat - 48 : Nat) : Int) = (((bAt s i).toNat - 48 : Nat) : Int) := wrap64 (by omega) (by omega)
              have v4 : IntKind.i64.wrap (10 * (n : Int) + (((bAt s i).toNat - 48 : Nat) : Int)) = ((10 * n + ((bAt s i).toNat - 48) : Nat) : Int) := by rw [wrap64 (by omega) (by omega)]; omega
              simp only [hgt, hw, hb, hi0, c1, c2, v1, v2, v3, v4, Int.toNat_natCast, ↓SP, SQ, Gam.add, stepM, callC, argC, lendO, nmBy, nmC, likeL, likeB, plainOb, offs, exL, X, F, trP, trO, stepD, stepW, newA, SV.tr, SV.trL, fz, allP, Ob.tr, loadA, cellsA, SV.cells, binA, binI, eqOut, isSl, isPt, natOf, callee, snap, SV.refsL, SV.refs, thaw, fzAll, loA, hiA, elemOf, partsA, buildA, putCells, ↓reduceIte, reduceCtorEq, okCell, Nat.reduceAdd, Nat.reduceEqDiff, Nat.reduceSub, Nat.reduceMul, Nat.reduceLeDiff, Nat.reduceLT, Nat.reduceBEq, PV.scal, PV.scalL, SV.scal, SV.scalL, Ob.scal, PV.isCell, pure', resO]
              refine hN (i + 1, .p (.bool true), .p (.bool false)) _ _ ⟨by simp only; omega, by simp only [hst, Option.getD_some]⟩ (by simp only; omega) (by simp only [hst, Option.getD_some]) rfl
        · have he : i = s.size := by omega
          subst he
          have hgt : ¬ ((s.size : Nat) : Int) < s.size := by omega
          simp only [hgt, ↓SP, SQ, Gam.add, stepM, callC, argC, lendO, nmBy, nmC, likeL, likeB, plainOb, offs, exL, X, F, trP, trO, stepD, stepW, newA, SV.tr, SV.trL, fz, allP, Ob.tr, loadA, cellsA, SV.cells, binA, binI, eqOut, isSl, isPt, natOf, callee, snap, SV.refsL, SV.refs, thaw, fzAll, loA, hiA, elemOf, partsA, buildA, putCells, ↓reduceIte, reduceCtorEq, okCell, Nat.reduceAdd, Nat.reduceEqDiff, Nat.reduceSub, Nat.reduceMul, Nat.reduceLeDiff, Nat.reduceLT, Nat.reduceBEq, PV.scal, PV.scalL, SV.scal, SV.scalL, Ob.scal, PV.isCell, pure', resO]
          refine hR _ _ _ (by intro h; cases h) ?_
          rw [hd] at hrv
          simp only [hrz] at hrv
          have w2 : ¬ (s.size : Int) < s.size := by omega
          have q1 : -1000000 ≤ (n : Int) := by omega
          have q2 : (n : Int) ≤ 1000000 := by omega
          by_cases hsame : ((numS (n : Int)).toList == s.toList) = true
          · rw [if_pos hsame] at hrv
            simp only [w2, q1, q2, hsame, binS, h_num, c_num, Bool.not_true, ↓SP, SQ, Gam.add, stepM, callC, argC, lendO, nmBy, nmC, likeL, likeB, plainOb, offs, exL, X, F, trP, trO, stepD, stepW, newA, SV.tr, SV.trL, fz, allP, Ob.tr, loadA, cellsA, SV.cells, binA, binI, eqOut, isSl, isPt, natOf, callee, snap, SV.refsL, SV.refs, thaw, fzAll, loA, hiA, elemOf, partsA, buildA, putCells, ↓reduceIte, reduceCtorEq, okCell, Nat.reduceAdd, Nat.reduceEqDiff, Nat.reduceSub, Nat.reduceMul, Nat.reduceLeDiff, Nat.reduceLT, Nat.reduceBEq, PV.scal, PV.scalL, SV.scal, SV.scalL, Ob.scal, PV.isCell, pure', resO]
            exact finA_val (by simp [hrv, retA, rvA, mkE_cons, mk_nil, mkO_cons, mkO_nil, loadA, SV.tr, SV.trL, nmF, rn_nil, rn_cons1, rn_cons2, plainOb, SV.refsL, SV.refs, Ob.refs, X, F, List.range_succ, mkO, setO_mk]) (by simp [SV.tr, SV.trL])
          · rw [if_neg hsame] at hrv
            have hsame : ((numS (n : Int)).toList == s.toList) = false := by simpa using hsame
            simp only [w2, q1, q2, hsame, binS, h_num, c_num, Bool.not_false, ↓SP, SQ, Gam.add, stepM, callC, argC, lendO, nmBy, nmC, likeL, likeB, plainOb, offs, exL, X, F, trP, trO, stepD, stepW, newA, SV.tr, SV.trL, fz, allP, Ob.tr, loadA, cellsA, SV.cells, binA, binI, eqOut, isSl, isPt, natOf, callee, snap, SV.refsL, SV.refs, thaw, fzAll, loA, hiA, elemOf, partsA, buildA, putCells, ↓reduceIte, reduceCtorEq, okCell, Nat.reduceAdd, Nat.reduceEqDiff, Nat.reduceSub, Nat.reduceMul, Nat.reduceLeDiff, Nat.reduceLT, Nat.reduceBEq, PV.scal, PV.scalL, SV.scal, SV.scalL, Ob.scal, PV.isCell, pure', resO]
            exact finA_val (by simp [hrv, retA, rvA, mkE_cons, mk_nil, mkO_cons, mkO_nil, loadA, SV.tr, SV.trL, nmF, rn_nil, rn_cons1, rn_cons2, plainOb, SV.refsL, SV.refs, Ob.refs, X, F, List.range_succ, mkO, setO_mk]) (by simp [SV.tr, SV.trL])
      · rw [if_neg (by omega)] at hrv
        refine is.go hm hΓ k_read o_read (by simp [a_read]) ?_
        simp only [a_read, h_l1InI, c_inI, h_num, c_num, g1, g2, g3, b0, hin, Int.toNat_natCast, Int.reduceToNat, Int.le_refl, List.zipIdx_cons, List.zipIdx_nil, ↓SP, SQ, Gam.add, stepM, callC, argC, lendO, nmBy, nmC, likeL, likeB, plainOb, offs, exL, X, F, trP, trO, stepD, stepW, newA, SV.tr, SV.trL, fz, allP, Ob.tr, loadA, cellsA, SV.cells, binA, binI, eqOut, isSl, isPt, natOf, callee, snap, SV.refsL, SV.refs, thaw, fzAll, loA, hiA, elemOf, partsA, buildA, putCells, ↓reduceIte, reduceCtorEq, okCell, Nat.reduceAdd, Nat.reduceEqDiff, Nat.reduceSub, Nat.reduceMul, Nat.reduceLeDiff, Nat.reduceLT, Nat.reduceBEq, PV.scal, PV.scalL, SV.scal, SV.scalL, Ob.scal, PV.isCell, pure', resO]
        exact finA_val (by simp [hrv, retA, rvA, mkE_cons, mk_nil, mkO_cons, mkO_nil, loadA, SV.tr, SV.trL, nmF, rn_nil, rn_cons1, rn_cons2, plainOb, SV.refsL, SV.refs, Ob.refs, X, F, List.range_succ, mkO, setO_mk]) (by simp [SV.tr, SV.trL])
    ·
      have hrv : rdV s = if 1 ≤ s.size ∧ s.size ≤ 6 then (match rdD s s.size with
        | some n => if ((numS (rdZ s n)).toList == s.toList) = true then (rdZ s n, true) else (0, false)
        | none => (0, false)) else (0, false) := by unfold rdV; rw [htl]
      by_cases hin : 1 ≤ (s.size : Int) ∧ (s.size : Int) ≤ 6
      · rw [if_pos (by omega)] at hrv
        refine is.go hm hΓ k_read o_read (by simp [a_read]) ?_
        simp only [a_read, h_l1InI, c_inI, h_num, c_num, g1, hin, Int.toNat_natCast, Int.reduceToNat, Int.le_refl, List.zipIdx_cons, List.zipIdx_nil, ↓SP, SQ, Gam.add, stepM, callC, argC, lendO, nmBy, nmC, likeL, likeB, plainOb, offs, exL, X, F, trP, trO, stepD, stepW, newA, SV.tr, SV.trL, fz, allP, Ob.tr, loadA, cellsA, SV.cells, binA, binI, eqOut, isSl, isPt, natOf, callee, snap, SV.refsL, SV.refs, thaw, fzAll, loA, hiA, elemOf, partsA, buildA, putCells, ↓reduceIte, reduceCtorEq, okCell, Nat.reduceAdd, Nat.reduceEqDiff, Nat.reduceSub, Nat.reduceMul, Nat.reduceLeDiff, Nat.reduceLT, Nat.reduceBEq, PV.scal, PV.scalL, SV.scal, SV.scalL, Ob.scal, PV.isCell, pure', resO]
        refine loop_at (fun u : Nat × SV × SV => mkEnv [(0, .p (.str s)), (2, si 0), (3, .p (.bool false)), (4, .p (.str s)), (5, si ((rdD s u.1).getD 0 : Nat)), (6, si u.1), (15, .p (.bool false)), (21, .p (.bool false)), (25, u.2.1), (37, u.2.2), (50, .junk), (56, .junk)])
          (fun u => mkO [])
          (fun u => u.1 ≤ s.size ∧ rdD s u.1 = some ((rdD s u.1).getD 0)) (fun u => s.size - u.1) (0, .junk, .junk) (by simp [rdD]) (by simp [rdD]) (by simp) ?_
        rintro ⟨i, x25, x37⟩ ⟨hi, hd⟩ R hR hN
        simp only at hi hd
        have hlt10 := rdD_lt i _ hd
        have h106 : (rdD s i).getD 0 < 1000000 := Nat.lt_of_lt_of_le hlt10 (Nat.pow_le_pow_right (n := 10) (by decide) (by omega : i ≤ 6))
        generalize hne : (rdD s i).getD 0 = n at *
        by_cases hlt : i < s.size
        · have hgt : (i : Int) < s.size := by omega
          have hw : IntKind.i64.wrap ((i : Int) + 1) = ((i + 1 : Nat) : Int) := by rw [wrap64 (by omega) (by omega)]; omega
          have hb := bget hlt
          have hi0 : (0 : Int) ≤ i := by omega
          have hq : (bAt s i).toNat < 256 := (bAt s i).toNat_lt
          have hst : rdD s (i + 1) = if 48 ≤ (bAt s i).toNat ∧ (bAt s i).toNat ≤ 57 then some (10 * n + ((bAt s i).toNat - 48)) else none := by simp only [rdD, hd]
          by_cases c1 : ((bAt s i).toNat : Int) < 48
          · have hnn : rdD s s.size = none := rdD_none (i := i + 1) (by rw [hst, if_neg (by omega)]) _ (by omega)
            rw [hnn] at hrv
            simp only [hgt, hw, hb, hi0, c1, Int.toNat_natCast, ↓SP, SQ, Gam.add, stepM, callC, argC, lendO, nmBy, nmC, likeL, likeB, plainOb, offs, exL, X, F, trP, trO, stepD, stepW, newA, SV.tr, SV.trL, fz, allP, Ob.tr, loadA, cellsA, SV.cells, binA, binI, eqOut, isSl, isPt, natOf, callee, snap, SV.refsL, SV.refs, thaw, fzAll, loA, hiA, elemOf, partsA, buildA, putCells, ↓reduceIte, reduceCtorEq, okCell, Nat.reduceAdd, Nat.reduceEqDiff, Nat.reduceSub, Nat.reduceMul, Nat.reduceLeDiff, Nat.reduceLT, Nat.reduceBEq, PV.scal, PV.scalL, SV.scal, SV.scalL, Ob.scal, PV.isCell, pure', resO]
            refine hR _ _ _ (by intro h; cases h) ?_
            exact finA_val (by simp [hrv, retA, rvA, mkE_cons, mk_nil, mkO_cons, mkO_nil, loadA, SV.tr, SV.trL, nmF, rn_nil, rn_cons1, rn_cons2, plainOb, SV.refsL, SV.refs, Ob.refs, X, F, List.range_succ, mkO, setO_mk]) (by simp [SV.tr, SV.trL])
          · by_cases c2 : ((bAt s i).toNat : Int) > 57
            · have hnn : rdD s s.size = none := rdD_none (i := i + 1) (by rw [hst, if_neg (by omega)]) _ (by omega)
              rw [hnn] at hrv
              simp only [hgt, hw, hb, hi0, c1, c2, Int.toNat_natCast, ↓SP, SQ, Gam.add, stepM, callC, argC, lendO, nmBy, nmC, likeL, likeB, plainOb, offs, exL, X, F, trP, trO, stepD, stepW, newA, SV.tr, SV.trL, fz, allP, Ob.tr, loadA, cellsA, SV.cells, binA, binI, eqOut, isSl, isPt, natOf, callee, snap, SV.refsL, SV.refs, thaw, fzAll, loA, hiA, elemOf, partsA, buildA, putCells, ↓reduceIte, reduceCtorEq, okCell, Nat.reduceAdd, Nat.reduceEqDiff, Nat.reduceSub, Nat.reduceMul, Nat.reduceLeDiff, Nat.reduceLT, Nat.reduceBEq, PV.scal, PV.scalL, SV.scal, SV.scalL, Ob.scal, PV.isCell, pure', resO]
              refine hR _ _ _ (by intro h; cases h) ?_
              exact finA_val (by simp [hrv, retA, rvA, mkE_cons, mk_nil, mkO_cons, mkO_nil, loadA, SV.tr, SV.trL, nmF, rn_nil, rn_cons1, rn_cons2, plainOb, SV.refsL, SV.refs, Ob.refs, X, F, List.range_succ, mkO, setO_mk]) (by simp [SV.tr, SV.trL])
            · rw [if_pos (by omega)] at hst
              have v1 : IntKind.i64.wrap (10 * (n : Int)) = 10 * n := wrap64 (by omega) (by omega)
              have v2 : IntKind.u8.wrap (((bAt s i).toNat : Int) - 48) = (((bAt s i).toNat - 48 : Nat) : Int) := by rw [show ((bAt s i).toNat : Int) - 48 = (((bAt s i).toNat - 48 : Nat) : Int) by omega, IntKind.wrap_u8]; omega
              have v3 : IntKind.i64.wrap (((bAt s i).toNat - 48 : Nat) : Int) = (((bAt s i).toNat - 48 : Nat) : Int) := wrap64 (by omega) (by omega)
              have v4 : IntKind.i64.wrap (10 * (n : Int) + (((bAt s i).toNat - 48 : Nat) : Int)) = ((10 * n + ((bAt s i).toNat - 48) : Nat) : Int) := by rw [wrap64 (by omega) (by omega)]; omega
              simp only [hgt, hw, hb, hi0, c1, c2, v1, v2, v3, v4, Int.toNat_natCast, ↓SP, SQ, Gam.add, stepM, callC, argC, lendO, nmBy, nmC, likeL, likeB, plainOb, offs, exL, X, F, trP, trO, stepD, stepW, newA, SV.tr, SV.trL, fz, allP, Ob.tr, loadA, cellsA, SV.cells, binA, binI, eqOut, isSl, isPt, natOf, callee, snap, SV.refsL, SV.refs, thaw, fzAll, loA, hiA, elemOf, partsA, buildA, putCells, ↓reduceIte, reduceCtorEq, okCell, Nat.reduceAdd, Nat.reduceEqDiff, Nat.reduceSub, Nat.reduceMul, Nat.reduceLeDiff, Nat.reduceLT, Nat.reduceBEq, PV.scal, PV.scalL, SV.scal, SV.scalL, Ob.scal, PV.isCell, pure', resO]
              refine hN (i + 1, .p (.bool true), .p (.bool false)) _ _ ⟨by simp only; omega, by simp only [hst, Option.getD_some]⟩ (by simp only; omega) (by simp only [hst, Option.getD_some]) rfl
        · have he : i = s.size := by omega
          subst he
          have hgt : ¬ ((s.size : Nat) : Int) < s.size := by omega
          simp only [hgt, ↓SP, SQ, Gam.add, stepM, callC, argC, lendO, nmBy, nmC, likeL, likeB, plainOb, offs, exL, X, F, trP, trO, stepD, stepW, newA, SV.tr, SV.trL, fz, allP, Ob.tr, loadA, cellsA, SV.cells, binA, binI, eqOut, isSl, isPt, natOf, callee, snap, SV.refsL, SV.refs, thaw, fzAll, loA, hiA, elemOf, partsA, buildA, putCells, ↓reduceIte, reduceCtorEq, okCell, Nat.reduceAdd, Nat.reduceEqDiff, Nat.reduceSub, Nat.reduceMul, Nat.reduceLeDiff, Nat.reduceLT, Nat.reduceBEq, PV.scal, PV.scalL, SV.scal, SV.scalL, Ob.scal, PV.isCell, pure', resO]
          refine hR _ _ _ (by intro h; cases h) ?_
          rw [hd] at hrv
          simp only [hrz] at hrv
          have w2 : ¬ (s.size : Int) < s.size := by omega
          have q1 : -1000000 ≤ (n : Int) := by omega
          have q2 : (n : Int) ≤ 1000000 := by omega
          by_cases hsame : ((numS (n : Int)).toList == s.toList) = true
          · rw [if_pos hsame] at hrv
            simp only [w2, q1, q2, hsame, binS, h_num, c_num, Bool.not_true, ↓SP, SQ, Gam.add, stepM, callC, argC, lendO, nmBy, nmC, likeL, likeB, plainOb, offs, exL, X, F, trP, trO, stepD, stepW, newA, SV.tr, SV.trL, fz, allP, Ob.tr, loadA, cellsA, SV.cells, binA, binI, eqOut, isSl, isPt, natOf, callee, snap, SV.refsL, SV.refs, thaw, fzAll, loA, hiA, elemOf, partsA, buildA, putCells, ↓reduceIte, reduceCtorEq, okCell, Nat.reduceAdd, Nat.reduceEqDiff, Nat.reduceSub, Nat.reduceMul, Nat.reduceLeDiff, Nat.reduceLT, Nat.reduceBEq, PV.scal, PV.scalL, SV.scal, SV.scalL, Ob.scal, PV.isCell, pure', resO]
            exact finA_val (by simp [hrv, retA, rvA, mkE_cons, mk_nil, mkO_cons, mkO_nil, loadA, SV.tr, SV.trL, nmF, rn_nil, rn_cons1, rn_cons2, plainOb, SV.refsL, SV.refs, Ob.refs, X, F, List.range_succ, mkO, setO_mk]) (by simp [SV.tr, SV.trL])
          · rw [if_neg hsame] at hrv
            have hsame : ((numS (n : Int)).toList == s.toList) = false := by simpa using hsame
            simp only [w2, q1, q2, hsame, binS, h_num, c_num, Bool.not_false, ↓SP, SQ, Gam.add, stepM, callC, argC, lendO, nmBy, nmC, likeL, likeB, plainOb, offs, exL, X, F, trP, trO, stepD, stepW, newA, SV.tr, SV.trL, fz, allP, Ob.tr, loadA, cellsA, SV.cells, binA, binI, eqOut, isSl, isPt, natOf, callee, snap, SV.refsL, SV.refs, thaw, fzAll, loA, hiA, elemOf, partsA, buildA, putCells, ↓reduceIte, reduceCtorEq, okCell, Nat.reduceAdd, Nat.reduceEqDiff, Nat.reduceSub, Nat.reduceMul, Nat.reduceLeDiff, Nat.reduceLT, Nat.reduceBEq, PV.scal, PV.scalL, SV.scal, SV.scalL, Ob.scal, PV.isCell, pure', resO]
            exact finA_val (by simp [hrv, retA, rvA, mkE_cons, mk_nil, mkO_cons, mkO_nil, loadA, SV.tr, SV.trL, nmF, rn_nil, rn_cons1, rn_cons2, plainOb, SV.refsL, SV.refs, Ob.refs, X, F, List.range_succ, mkO, setO_mk]) (by simp [SV.tr, SV.trL])
      · rw [if_neg (by omega)] at hrv
        refine is.go hm hΓ k_read o_read (by simp [a_read]) ?_
        simp only [a_read, h_l1InI, c_inI, h_num, c_num, g1, hin, Int.toNat_natCast, Int.reduceToNat, Int.le_refl, List.zipIdx_cons, List.zipIdx_nil, ↓SP, SQ, Gam.add, stepM, callC, argC, lendO, nmBy, nmC, likeL, likeB, plainOb, offs, exL, X, F, trP, trO, stepD, stepW, newA, SV.tr, SV.trL, fz, allP, Ob.tr, loadA, cellsA, SV.cells, binA, binI, eqOut, isSl, isPt, natOf, callee, snap, SV.refsL, SV.refs, thaw, fzAll, loA, hiA, elemOf, partsA, buildA, putCells, ↓reduceIte, reduceCtorEq, okCell, Nat.reduceAdd, Nat.reduceEqDiff, Nat.reduceSub, Nat.reduceMul, Nat.reduceLeDiff, Nat.reduceLT, Nat.reduceBEq, PV.scal, PV.scalL, SV.scal, SV.scalL, Ob.scal, PV.isCell, pure', resO]
        exact finA_val (by simp [hrv, retA, rvA, mkE_cons, mk_nil, mkO_cons, mkO_nil, loadA, SV.tr, SV.trL, nmF, rn_nil, rn_cons1, rn_cons2, plainOb, SV.refsL, SV.refs, Ob.refs, X, F, List.range_succ, mkO, setO_mk]) (by simp [SV.tr, SV.trL])
def a_specParse (f_read : FuncId) : AFn := ⟨1, 
  .seq (.reg [⟨some 2, none, .d (.mv (.c (.int .i64 0)))⟩,
    ⟨some 3, none, .d (.mv (.c (.bool false)))⟩])
  (.seq (.reg [⟨some 4, none, .d (.mv (.t 0))⟩,
    ⟨some 5, none, .d (.call (.f f_read) [(.t 4)])⟩,
    ⟨some 6, none, .d (.extract (.t 5) 0)⟩,
    ⟨some 7, none, .d (.extract (.t 5) 1)⟩,
    ⟨some 2, none, .d (.mv (.t 6))⟩,
    ⟨some 3, none, .d (.mv (.t 7))⟩])
  (.ret)), [.tmp 2, .tmp 3]⟩
def n_specParse : Nat → Option Ann := fun _ => none
abbrev k_specParse : List Nat := [0, 2, 3]
abbrev o_specParse : List Nat := []
theorem s_specParse {P : Program} (hm : P.follows .mixedOrders = true) {Γ : Gam} (hΓ : GS P Γ) {n : FuncId} {f_read : FuncId} (is : Is P n (a_specParse f_read)) (h_read : Γ f_read = c_read)  : Says P n c_read := by
  refine Says.pure fun args r fs h => ?_
  split at h
  case h_2 => cases h
  rename_i s
  split at h
  case isFalse => cases h
  rename_i hs
  simp only [Option.some.injEq, Prod.mk.injEq] at h
  obtain ⟨rfl, rfl⟩ := h
  refine is.go hm hΓ k_specParse o_specParse (by simp [a_specParse]) ?_
  simp only [a_specParse, h_read, c_read, hs, List.zipIdx_cons, List.zipIdx_nil, ↓SP, SQ, Gam.add, stepM, callC, argC, lendO, nmBy, nmC, likeL, likeB, plainOb, offs, exL, X, F, trP, trO, stepD, stepW, newA, SV.tr, SV.trL, fz, allP, Ob.tr, loadA, cellsA, SV.cells, binA, binI, eqOut, isSl, isPt, natOf, callee, snap, SV.refsL, SV.refs, thaw, fzAll, loA, hiA, elemOf, partsA, buildA, putCells, ↓reduceIte, reduceCtorEq, okCell, Nat.reduceAdd, Nat.reduceEqDiff, Nat.reduceSub, Nat.reduceMul, Nat.reduceLeDiff, Nat.reduceLT, Nat.reduceBEq, PV.scal, PV.scalL, SV.scal, SV.scalL, Ob.scal, PV.isCell, pure', resO]
  exact finA_val (by simp [retA, rvA, mkE_cons, mk_nil, mkO_cons, mkO_nil, loadA, SV.tr, SV.trL, nmF, rn_nil, rn_cons1, rn_cons2, plainOb, SV.refsL, SV.refs, Ob.refs, X, F, List.range_succ, mkO, setO_mk]) (by simp [SV.tr, SV.trL])
theorem dg_toNat {d : Nat} (h : d < 10) : (UInt8.ofNat (48 + d)).toNat = 48 + d := by rw [UInt8.toNat_ofNat']; omega
theorem pu_dd : ∀ (k u : Nat), u < 10 ^ (k + 1) → u ≤ 1000000 → ∀ rest, Lib.parseUint10 0 (Lib.decDigits u ++ rest) = Lib.parseUint10 u rest
  | 0, u, h, _, rest => by
    have h : u < 10 := by omega
    rw [dd_small h]
    simp only [List.singleton_append, Lib.parseUint10, dg_toNat h]
    rw [if_pos (by omega), if_neg (by decide), if_neg (by omega)]
    congr 1
    omega
  | k + 1, u, h, hb, rest => by
    by_cases hu : u < 10
    · rw [dd_small hu]
      simp only [List.singleton_append, Lib.parseUint10, dg_toNat hu]
      rw [if_pos (by omega), if_neg (by decide), if_neg (by omega)]
      congr 1
      omega
    · have hd : u % 10 < 10 := Nat.mod_lt _ (by decide)
      rw [dd_big hu, List.append_assoc, pu_dd k (u / 10) (by rw [Nat.pow_succ] at h; omega) (by omega)]
      simp only [List.singleton_append, Lib.parseUint10, dg_toNat hd]
      rw [if_pos (by omega), if_neg (by omega), if_neg (by omega)]
      congr 1
      omega
def rdL (acc : Nat) : List UInt8 → Option Nat
  | [] => some acc
  | c :: r => if 48 ≤ c.toNat ∧ c.toNat ≤ 57 then rdL (10 * acc + (c.toNat - 48)) r else none
theorem rdL_snoc : ∀ (l : List UInt8) (acc : Nat) (c : UInt8), rdL acc (l ++ [c]) = (match rdL acc l with | some n => if 48 ≤ c.toNat ∧ c.toNat ≤ 57 then some (10 * n + (c.toNat - 48)) else none | none => none)
  | [], acc, c => rfl
  | a :: l, acc, c => by
    simp only [List.cons_append, rdL]
    split
    · exact rdL_snoc l _ c
    · rfl
theorem rdD_list (t : ByteArray) : ∀ i, i ≤ t.size → rdD t i = rdL 0 (t.data.toList.take i)
  | 0, _ => rfl
  | i + 1, hi => by
    have hlt : i < t.data.toList.length := by rw [Array.length_toList]; exact hi
    rw [List.take_succ_eq_append_getElem hlt, rdL_snoc, ← rdD_list t i (by omega), ← bAt_data (by omega)]
    rfl
theorem rdD_all (t : ByteArray) : rdD t t.size = rdL 0 t.data.toList := by
  rw [rdD_list t _ (Nat.le_refl _), List.take_of_length_le (by simp)]
theorem rd_dd : ∀ (k u : Nat), u < 10 ^ (k + 1) → ∀ rest, rdL 0 (Lib.decDigits u ++ rest) = rdL u rest
  | 0, u, h, rest => by
    have h : u < 10 := by omega
    rw [dd_small h]
    simp only [List.singleton_append, rdL, dg_toNat h]
    rw [if_pos (by omega)]
    congr 1
    omega
  | k + 1, u, h, rest => by
    by_cases hu : u < 10
    · rw [dd_small hu]
      simp only [List.singleton_append, rdL, dg_toNat hu]
      rw [if_pos (by omega)]
      congr 1
      omega
    · have hd : u % 10 < 10 := Nat.mod_lt _ (by decide)
      rw [dd_big hu, List.append_assoc, rd_dd k (u / 10) (by rw [Nat.pow_succ] at h; omega)]
      simp only [List.singleton_append, rdL, dg_toNat hd]
      rw [if_pos (by omega)]
      congr 1
      omega
theorem dd_dig : ∀ (k u : Nat), u < 10 ^ (k + 1) → ∀ c ∈ Lib.decDigits u, 48 ≤ c.toNat ∧ c.toNat ≤ 57
  | 0, u, h, c, hc => by
    have h : u < 10 := by omega
    rw [dd_small h, List.mem_singleton] at hc
    rw [hc, dg_toNat h]; omega
  | k + 1, u, h, c, hc => by
    by_cases hu : u < 10
    · rw [dd_small hu, List.mem_singleton] at hc
      rw [hc, dg_toNat hu]; omega
    · have hd : u % 10 < 10 := Nat.mod_lt _ (by decide)
      rw [dd_big hu, List.mem_append, List.mem_singleton] at hc
      rcases hc with hc | hc
      · exact dd_dig k (u / 10) (by rw [Nat.pow_succ] at h; omega) c hc
      · rw [hc, dg_toNat hd]; omega
theorem dd_ne (u : Nat) : Lib.decDigits u ≠ [] := by
  by_cases hu : u < 10
  · rw [dd_small hu]; simp
  · rw [dd_big hu]; simp
theorem mag_dd {u : Nat} (h : u ≤ 1000000) : Lib.parseMag (Lib.decDigits u) = .ok u := by
  unfold Lib.parseMag
  rw [if_neg (dd_ne u)]
  have := pu_dd 6 u (by omega) h []
  rw [List.append_nil] at this
  rw [this]
  rfl
theorem atoi_num {n : Int} (h0 : -1000000 ≤ n) (h1 : n ≤ 1000000) : Lib.atoiAll (numS n).data.toList = .ok n := by
  have e : (numS n).data.toList = Lib.itoa n := by simp [numS]
  rw [e]
  unfold Lib.itoa
  by_cases hn : n < 0
  · rw [if_pos hn]
    unfold Lib.atoiAll
    have e45 : ((45 : UInt8).toNat = 45) := rfl
    simp only [e45, or_true, if_true, mag_dd (u := n.natAbs) (by omega)]
    rw [if_neg (by simp), if_neg (by omega)]
    congr 1
    omega
  · rw [if_neg hn]
    have hm := mag_dd (u := n.toNat) (by omega)
    have hd := dd_dig 6 n.toNat (by omega)
    cases hl : Lib.decDigits n.toNat with
    | nil => exact absurd hl (dd_ne _)
    | cons c r =>
      rw [hl] at hm hd
      have hc := hd c (by simp)
      unfold Lib.atoiAll
      have c1 : ¬ c.toNat = 43 := by omega
      have c2 : ¬ c.toNat = 45 := by omega
      have e1 : ¬ 9223372036854775808 ≤ n.toNat := by omega
      have e2 : ((n.toNat : Nat) : Int) = n := by omega
      simp only [c1, c2, or_self, e1, e2, if_false, hm, not_false_eq_true, true_and, false_and]
def piV (s : ByteArray) : Int × Bool := match Lib.atoiAll s.data.toList with
  | .ok v => if (fiV v).2 = true ∧ ((fiV v).1.toList == s.toList) = true then (v, true) else (0, false)
  | _ => (0, false)
theorem piV_num {n : Int} (h0 : -999999 ≤ n) (h1 : n ≤ 999999) : piV (numS n) = (n, true) := by
  unfold piV
  rw [atoi_num (by omega) (by omega)]
  have : fiV n = (numS n, true) := by unfold fiV; rw [if_pos ⟨h0, h1⟩]
  simp [this]
theorem rdV_num {n : Int} (h0 : -999999 ≤ n) (h1 : n ≤ 999999) : rdV (numS n) = (n, true) := by
  have key : ∀ u : Nat, u ≤ 999999 → 1 ≤ (digS u).size ∧ (digS u).size ≤ 6 ∧ rdD (digS u) (digS u).size = some u ∧ 48 ≤ (bAt (digS u) 0).toNat := by
    intro u hu
    have hl := dd_len 5 u (by omega)
    have hs : (digS u).size = (Lib.decDigits u).length := by simp [digS, ByteArray.size]
    have hne : 1 ≤ (Lib.decDigits u).length := List.length_pos_iff.mpr (dd_ne u)
    refine ⟨by omega, by omega, ?_, ?_⟩
    · rw [rdD_all]
      have := rd_dd 5 u (by omega) []
      rw [List.append_nil] at this
      have e : (digS u).data.toList = Lib.decDigits u := by simp [digS]
      rw [e, this]
      rfl
    · rw [bAt_data (by omega)]
      exact (dd_dig 5 u (by omega) _ (by
        have e : (digS u).data.toList = Lib.decDigits u := by simp [digS]
        rw [← e]; exact List.getElem_mem _)).1
  by_cases hn : n < 0
  · obtain ⟨k1, k2, k3, k4⟩ := key n.natAbs (by omega)
    have hns := numS_neg hn
    have e1 : (⟨#[45]⟩ : ByteArray).size = 1 := rfl
    have hsz : (numS n).size = 1 + (digS n.natAbs).size := by rw [hns, ByteArray.size_append, e1]
    have hb : bAt (numS n) 0 = 45 := by
      rw [bAt_data (by omega)]
      have e : (numS n).data.toList = 45 :: (digS n.natAbs).data.toList := by rw [hns]; simp
      simp only [e, List.getElem_cons_zero]
    have ht : tlB (numS n) = digS n.natAbs := by
      unfold tlB
      rw [if_pos ⟨by omega, hb⟩, hns]
      apply ByteArray.ext
      simp
      exact Or.inr (by omega)
    unfold rdV
    rw [ht, if_pos ⟨k1, k2⟩, k3]
    have hz : rdZ (numS n) n.natAbs = n := by unfold rdZ; rw [ht, if_pos (by omega)]; omega
    simp only [hz, beq_self_eq_true, if_true]
  · obtain ⟨k1, k2, k3, k4⟩ := key n.toNat (by omega)
    have hns := numS_pos (n := n) (by omega)
    have ht : tlB (numS n) = digS n.toNat := by
      unfold tlB
      rw [hns, if_neg]
      rintro ⟨_, hb⟩
      rw [hb] at k4
      exact absurd k4 (by decide)
    unfold rdV
    rw [ht, if_pos ⟨k1, k2⟩, k3]
    have hz : rdZ (numS n) n.toNat = n := by unfold rdZ; rw [ht, hns, if_neg (by omega)]; omega
    simp only [hz, beq_self_eq_true, if_true]
theorem num_sizes : (numS 0).size = 1 ∧ (numS 1).size = 1 := by
  constructor
  · rw [numS_pos (by decide)]; rw [show (0 : Int).toNat = 0 from rfl, digS_one (by decide)]; rfl
  · rw [numS_pos (by decide)]; rw [show (1 : Int).toNat = 1 from rfl, digS_one (by decide)]; rfl
theorem num_nines : numS 999999 = ⟨#[57, 57, 57, 57, 57, 57]⟩ ∧ numS (-999999) = ⟨#[45, 57, 57, 57, 57, 57, 57]⟩ := by
  have h : digS 999999 = ⟨#[57, 57, 57, 57, 57, 57]⟩ := by
    rw [digS_more (by decide), digS_more (by decide), digS_more (by decide), digS_more (by decide), digS_more (by decide), digS_one (by decide)]
    rfl
  constructor
  · rw [numS_pos (by decide)]; exact h
  · rw [numS_neg (by decide)]; rw [show (-999999 : Int).natAbs = 999999 from rfl, h]; rfl
theorem list_size {a b : ByteArray} (h : a.size ≠ b.size) : (a.toList == b.toList) = false := by
  rw [Lib.toList_data, Lib.toList_data]
  simp only [beq_eq_false_iff_ne]
  intro e
  apply h
  have := congrArg List.length e
  simpa using this
theorem fixed_same : ∀ t ∈ dpL, piV t = rdV t := by
  intro t ht
  simp only [dpL, List.mem_cons, List.not_mem_nil, or_false] at ht
  obtain ⟨z1, z2⟩ := num_sizes
  obtain ⟨y1, y2⟩ := num_nines
  have f0 : fiV 0 = (numS 0, true) := by unfold fiV; rw [if_pos (by decide)]
  have f1 : fiV 1 = (numS 1, true) := by unfold fiV; rw [if_pos (by decide)]
  rcases ht with rfl | rfl | rfl | rfl | rfl | rfl | rfl | rfl | rfl | rfl | rfl
  · rfl
  · rfl
  · have h1 : Lib.atoiAll (⟨#[45, 48]⟩ : ByteArray).data.toList = .ok 0 := by decide
    have h2 : ((numS 0).toList == (⟨#[45, 48]⟩ : ByteArray).toList) = false := list_size (by rw [z1]; decide)
    have h3 : rdV ⟨#[45, 48]⟩ = (0, false) := by
      have a : tlB ⟨#[45, 48]⟩ = ⟨#[48]⟩ := by decide
      have b : rdD ⟨#[48]⟩ (⟨#[48]⟩ : ByteArray).size = some 0 := by decide
      have c : rdZ ⟨#[45, 48]⟩ 0 = 0 := by decide
      unfold rdV
      rw [a, if_pos (by decide), b]
      simp only [c, h2, Bool.false_eq_true, if_false]
    unfold piV
    rw [h1, h3]
    simp only [f0, h2, Bool.false_eq_true, and_false, if_false]
  · have h1 : Lib.atoiAll (⟨#[48, 48]⟩ : ByteArray).data.toList = .ok 0 := by decide
    have h2 : ((numS 0).toList == (⟨#[48, 48]⟩ : ByteArray).toList) = false := list_size (by rw [z1]; decide)
    have h3 : rdV ⟨#[48, 48]⟩ = (0, false) := by
      have a : tlB ⟨#[48, 48]⟩ = ⟨#[48, 48]⟩ := by decide
      have b : rdD ⟨#[48, 48]⟩ (⟨#[48, 48]⟩ : ByteArray).size = some 0 := by decide
      have c : rdZ ⟨#[48, 48]⟩ 0 = 0 := by decide
      unfold rdV
      rw [a, if_pos (by decide), b]
      simp only [c, h2, Bool.false_eq_true, if_false]
    unfold piV
    rw [h1, h3]
    simp only [f0, h2, Bool.false_eq_true, and_false, if_false]
  · have h1 : Lib.atoiAll (⟨#[48, 49]⟩ : ByteArray).data.toList = .ok 1 := by decide
    have h2 : ((numS 1).toList == (⟨#[48, 49]⟩ : ByteArray).toList) = false := list_size (by rw [z2]; decide)
    have h3 : rdV ⟨#[48, 49]⟩ = (0, false) := by
      have a : tlB ⟨#[48, 49]⟩ = ⟨#[48, 49]⟩ := by decide
      have b : rdD ⟨#[48, 49]⟩ (⟨#[48, 49]⟩ : ByteArray).size = some 1 := by decide
      have c : rdZ ⟨#[48, 49]⟩ 1 = 1 := by decide
      unfold rdV
      rw [a, if_pos (by decide), b]
      simp only [c, h2, Bool.false_eq_true, if_false]
    unfold piV
    rw [h1, h3]
    simp only [f1, h2, Bool.false_eq_true, and_false, if_false]
  · rfl
  · rfl
  · rw [← y1, piV_num (by decide) (by decide), rdV_num (by decide) (by decide)]
  · have h1 : Lib.atoiAll (⟨#[49, 48, 48, 48, 48, 48, 48]⟩ : ByteArray).data.toList = .ok 1000000 := by decide
    have f : fiV 1000000 = (⟨#[]⟩, false) := by unfold fiV; rw [if_neg (by decide)]
    have h3 : rdV ⟨#[49, 48, 48, 48, 48, 48, 48]⟩ = (0, false) := by
      have a : tlB ⟨#[49, 48, 48, 48, 48, 48, 48]⟩ = ⟨#[49, 48, 48, 48, 48, 48, 48]⟩ := by decide
      unfold rdV
      rw [a, if_neg (by decide)]
    unfold piV
    rw [h1, h3]
    simp only [f, Bool.false_eq_true, false_and, if_false]
  · rw [← y2, piV_num (by decide) (by decide), rdV_num (by decide) (by decide)]
  · have h1 : Lib.atoiAll (⟨#[49, 56, 52, 52, 54, 55, 52, 52, 48, 55, 51, 55, 48, 57, 53, 53, 49, 54, 49, 55]⟩ : ByteArray).data.toList = .range := by decide
    have h3 : rdV ⟨#[49, 56, 52, 52, 54, 55, 52, 52, 48, 55, 51, 55, 48, 57, 53, 53, 49, 54, 49, 55]⟩ = (0, false) := by
      have a : tlB ⟨#[49, 56, 52, 52, 54, 55, 52, 52, 48, 55, 51, 55, 48, 57, 53, 53, 49, 54, 49, 55]⟩ = ⟨#[49, 56, 52, 52, 54, 55, 52, 52, 48, 55, 51, 55, 48, 57, 53, 53, 49, 54, 49, 55]⟩ := by decide
      unfold rdV
      rw [a, if_neg (by decide)]
    unfold piV
    rw [h1, h3]
theorem parse_same {l : List Int} (hl : ∀ x ∈ l, 0 ≤ x ∧ x ≤ 255) : piV (dpV l) = rdV (dpV l) := by
  have q := (cu0 0 (Int.le_refl _)).pk l 2
  unfold dpV
  split
  · exact fixed_same _ (amS_mem hl q.1 (by decide))
  · have := dpN_b hl
    rw [piV_num (by omega) (by omega), rdV_num (by omega) (by omega)]
def smN (h : Nat) (b : UInt8) : Nat := (41 * h + b.toNat + 1) % 999979
def smL (h : Nat) (l : List UInt8) : Nat := l.foldl smN h
theorem smN_lt (h : Nat) (b : UInt8) : smN h b < 999979 := Nat.mod_lt _ (by decide)
theorem smL_lt : ∀ (l : List UInt8) (h : Nat), h < 999979 → smL h l < 999979
  | [], h, hh => hh
  | b :: l, h, _ => smL_lt l _ (smN_lt h b)
theorem smS_list (s : ByteArray) : ∀ i, i ≤ s.size → smS s i = smL 7 (s.data.toList.take i)
  | 0, _ => rfl
  | i + 1, hi => by
    have hlt : i < s.data.toList.length := by rw [Array.length_toList]; exact hi
    have ih := smS_list s i (by omega)
    unfold smL at ih ⊢
    rw [List.take_succ_eq_append_getElem hlt, List.foldl_append, ← ih, ← bAt_data (by omega)]
    rfl
theorem sumB_list (s : ByteArray) : sumB s = smL 7 s.data.toList := by
  unfold sumB
  rw [smS_list s _ (Nat.le_refl _), List.take_of_length_le (by rw [Array.length_toList]; exact Nat.le_refl _)]
theorem smN_inj {h h' : Nat} {b : UInt8} (a : h < 999979) (a' : h' < 999979) (e : smN h b = smN h' b) : h = h' := by
  unfold smN at e
  omega
theorem smL_inj : ∀ (l : List UInt8) {h h' : Nat}, h < 999979 → h' < 999979 → smL h l = smL h' l → h = h'
  | [], _, _, _, _, e => e
  | b :: l, h, h', a, a', e => smN_inj a a' (smL_inj l (smN_lt h b) (smN_lt h' b) e)
theorem smN_byte {h : Nat} {b c : UInt8} (e : smN h b = smN h c) : b = c := by
  unfold smN at e
  have h1 := b.toNat_lt
  have h2 := c.toNat_lt
  exact UInt8.toNat.inj (by omega)
theorem smL_byte {A R : List UInt8} {b c : UInt8} (e : smL 7 (A ++ b :: R) = smL 7 (A ++ c :: R)) : b = c := by
  simp only [smL, List.foldl_append, List.foldl_cons] at e
  exact smN_byte (smL_inj R (smN_lt _ _) (smN_lt _ _) e)
theorem first_occ {b : UInt8} : ∀ {l1 l2 r1 r2 : List UInt8}, b ∉ l1 → b ∉ l2 → l1 ++ b :: r1 = l2 ++ b :: r2 → l1 = l2 ∧ r1 = r2
  | [], [], r1, r2, _, _, e => by simpa using e
  | [], x :: l2, r1, r2, _, h2, e => by simp at e; exact absurd (by rw [e.1]; simp) h2
  | x :: l1, [], r1, r2, h1, _, e => by simp at e; exact absurd (by rw [← e.1]; simp) h1
  | x :: l1, y :: l2, r1, r2, h1, h2, e => by
    simp only [List.cons_append, List.cons.injEq] at e
    obtain ⟨rfl, e⟩ := e
    obtain ⟨ea, eb⟩ := first_occ (fun h => h1 (List.mem_cons_of_mem _ h)) (fun h => h2 (List.mem_cons_of_mem _ h)) e
    exact ⟨by rw [ea], eb⟩
theorem itoa_inj {m n : Int} (m0 : -1000000 ≤ m) (m1 : m ≤ 1000000) (n0 : -1000000 ≤ n) (n1 : n ≤ 1000000) (e : Lib.itoa m = Lib.itoa n) : m = n := by
  have h1 := atoi_num m0 m1
  have h2 := atoi_num n0 n1
  have e1 : (numS m).data.toList = Lib.itoa m := by simp [numS]
  have e2 : (numS n).data.toList = Lib.itoa n := by simp [numS]
  rw [e1, e, ← e2, h2] at h1
  injection h1 with h1
  exact h1.symm
def ckL (l : List UInt8) : List UInt8 := Lib.itoa (smL 7 l : Int)
theorem ckL_no (l : List UInt8) : (35 : UInt8) ∉ ckL l := by
  have h := smL_lt l 7 (by decide)
  unfold ckL Lib.itoa
  rw [if_neg (by omega)]
  intro hm
  have := dd_dig 6 (smL 7 l : Int).toNat (by omega) _ hm
  exact absurd this.1 (by decide)
theorem sealB_list (s : ByteArray) : (sealB s).data.toList = s.data.toList ++ 35 :: ckL s.data.toList := by
  unfold sealB ckL numS
  rw [sumB_list]
  simp
theorem cut_list (l : List UInt8) (b : UInt8) : ∀ (h : 0 ≤ Lib.indexByte l b), l = l.take (Lib.indexByte l b).toNat ++ b :: l.drop ((Lib.indexByte l b).toNat + 1) ∧ b ∉ l.take (Lib.indexByte l b).toNat := by
  induction l with
  | nil => intro h; simp [Lib.indexByte] at h
  | cons a l ih =>
    intro h
    have hge := Lib.indexByte_ge l b
    by_cases hab : a = b
    · subst hab
      have e : Lib.indexByte (a :: l) a = 0 := by unfold Lib.indexByte; simp
      rw [e]
      simp
    · have h' : (a == b) = false := by simp [hab]
      by_cases h2 : Lib.indexByte l b = -1
      · exfalso
        unfold Lib.indexByte at h
        simp [h', h2] at h
      · have e : Lib.indexByte (a :: l) b = Lib.indexByte l b + 1 := by
          have h2' : (Lib.indexByte l b == -1) = false := by simp [h2]
          rw [Lib.indexByte]
          simp only [h', h2', Bool.false_eq_true, if_false]
        obtain ⟨i1, i2⟩ := ih (by omega)
        rw [e, show (Lib.indexByte l b + 1).toNat = (Lib.indexByte l b).toNat + 1 by omega]
        simp only [List.take_succ_cons, List.drop_succ_cons, List.cons_append]
        refine ⟨by rw [← i1], ?_⟩
        intro hm
        rcases List.mem_cons.mp hm with hm | hm
        · exact hab hm.symm
        · exact i2 hm
theorem cutB_list (s : ByteArray) (b : UInt8) : (b ∉ s.data.toList ∧ cutB s b = s) ∨ ∃ r, s.data.toList = (cutB s b).data.toList ++ b :: r ∧ b ∉ (cutB s b).data.toList := by
  by_cases h : 0 ≤ Lib.indexByte s.data.toList b
  · right
    obtain ⟨c1, c2⟩ := cut_list _ _ h
    have e : (cutB s b).data.toList = s.data.toList.take (Lib.indexByte s.data.toList b).toNat := by
      unfold cutB
      rw [if_pos h]
      simp
    rw [e]
    exact ⟨_, c1, c2⟩
  · left
    refine ⟨?_, by unfold cutB; rw [if_neg h]⟩
    have hib := ib_has s.data.toList b
    have : decide (Lib.indexByte s.data.toList b ≥ 0) = false := by simp; omega
    rw [this] at hib
    intro hm
    have := List.contains_iff_mem.mpr hm
    rw [← hib] at this
    cases this
def vfV (s : ByteArray) : ByteArray × Bool := if (apV (cutB s 35)).2 = true ∧ ((apV (cutB s 35)).1.toList == s.toList) = true then (cutB s 35, true) else (⟨#[]⟩, false)
theorem hasB_mem {s : ByteArray} {b : UInt8} (h : hasB s b = false) : b ∉ s.data.toList := by
  intro hm
  have := List.contains_iff_mem.mpr hm
  unfold hasB at h
  rw [this] at h
  cases h
theorem apV_yes {x : ByteArray} (h : (apV x).2 = true) : (apV x).1 = sealB x ∧ (35 : UInt8) ∉ x.data.toList ∧ (sealB x).size ≤ 4000 := by
  unfold apV at h ⊢
  split at h
  · cases h
  · rename_i hc
    rw [if_neg hc]
    obtain ⟨_, h2⟩ := not_or.1 hc
    obtain ⟨h2, h3⟩ := not_or.1 h2
    exact ⟨rfl, hasB_mem (by simpa using h2), by omega⟩
theorem seal_open {x : ByteArray} (h : (apV x).2 = true) : vfV (sealB x) = (x, true) := by
  obtain ⟨h1, h2, h3⟩ := apV_yes h
  have hc : cutB (sealB x) 35 = x := by
    rcases cutB_list (sealB x) 35 with ⟨ha, _⟩ | ⟨r, ha, hb⟩
    · exact absurd (by rw [sealB_list]; simp) ha
    · rw [sealB_list] at ha
      have := (first_occ h2 hb ha).1
      apply ByteArray.ext
      exact (Array.toList_inj.mp this).symm
  unfold vfV
  rw [hc, h1, if_pos ⟨h, by simp⟩]
theorem changed_list {X T : List UInt8} {k : Nat} {c : UInt8} (hX : (35 : UInt8) ∉ X) (hT : (35 : UInt8) ∉ T) (hk : k < (X ++ 35 :: ckL X).length) (hc : (X ++ 35 :: ckL X)[k] ≠ c)
    (e : (X ++ 35 :: ckL X).set k c = T ++ 35 :: ckL T) : False := by
  have hD := ckL_no T
  by_cases h1 : k < X.length
  · have hs : (X ++ 35 :: ckL X).set k c = X.take k ++ c :: (X.drop (k + 1) ++ 35 :: ckL X) := by
      rw [List.set_append_left _ _ h1, List.set_eq_take_append_cons_drop, if_pos h1]
      simp
    have hx : X = X.take k ++ X[k] :: X.drop (k + 1) := by simp
    have hck : X[k] ≠ c := by
      rw [List.getElem_append_left h1] at hc; exact hc
    rw [hs] at e
    by_cases h35 : c = 35
    · subst h35
      have := (first_occ (fun h => hX (List.mem_of_mem_take h)) hT e).2
      rw [← this] at hD
      exact hD (by simp)
    · have hX' : (35 : UInt8) ∉ X.take k ++ c :: X.drop (k + 1) := by
        intro hm
        rw [List.mem_append, List.mem_cons] at hm
        rcases hm with hm | hm | hm
        · exact hX (List.mem_of_mem_take hm)
        · exact h35 hm.symm
        · exact hX (List.mem_of_mem_drop hm)
      have e2 : (X.take k ++ c :: X.drop (k + 1)) ++ 35 :: ckL X = T ++ 35 :: ckL T := by rw [← e]; simp
      obtain ⟨ea, eb⟩ := first_occ hX' hT e2
      have hl1 := smL_lt X 7 (by decide)
      have hl2 := smL_lt T 7 (by decide)
      have hsum := itoa_inj (by omega) (by omega) (by omega) (by omega) eb
      have hsum' : smL 7 X = smL 7 T := by omega
      rw [← ea] at hsum'
      have hsx : smL 7 X = smL 7 (X.take k ++ X[k] :: X.drop (k + 1)) := congrArg _ hx
      rw [hsx] at hsum'
      exact hck (smL_byte hsum')
  · by_cases h2 : k = X.length
    · have hs : (X ++ 35 :: ckL X).set k c = X ++ c :: ckL X := by
        rw [List.set_append_right _ _ (by omega), h2, Nat.sub_self]; rfl
      have h35 : (35 : UInt8) ≠ c := by
        intro h
        apply hc
        rw [List.getElem_append_right (by omega)]
        simp [h2, h]
      rw [hs] at e
      have hm : (35 : UInt8) ∈ X ++ c :: ckL X := by rw [e]; simp
      rw [List.mem_append, List.mem_cons] at hm
      rcases hm with hm | hm | hm
      · exact hX hm
      · exact h35 hm
      · exact ckL_no X hm
    · obtain ⟨j, rfl⟩ : ∃ j, k = X.length + (j + 1) := ⟨k - X.length - 1, by omega⟩
      have hs : (X ++ 35 :: ckL X).set (X.length + (j + 1)) c = X ++ 35 :: (ckL X).set j c := by
        rw [List.set_append_right _ _ (by omega), show X.length + (j + 1) - X.length = j + 1 by omega]; rfl
      rw [hs] at e
      obtain ⟨ea, eb⟩ := first_occ hX hT e
      subst ea
      apply hc
      have hj : j < (ckL X).length := by
        simp only [List.length_append, List.length_cons] at hk
        omega
      rw [List.getElem_append_right (by omega)]
      simp only [show X.length + (j + 1) - X.length = j + 1 by omega, List.getElem_cons_succ]
      have h3 : ((ckL X).set j c)[j]'(by simpa using hj) = c := by simp
      rw [← h3]
      congr 1
      exact eb.symm
theorem changed_shut {x y' : ByteArray} {k : Nat} {c : UInt8} (h : (apV x).2 = true) (hk : k < (sealB x).data.toList.length) (hc : (sealB x).data.toList[k] ≠ c) (hy : y'.data.toList = (sealB x).data.toList.set k c) : vfV y' = (⟨#[]⟩, false) := by
  obtain ⟨_, hX, _⟩ := apV_yes h
  unfold vfV
  rw [if_neg]
  rintro ⟨a1, a2⟩
  obtain ⟨b1, b2, _⟩ := apV_yes a1
  rw [b1, Lib.toList_data, Lib.toList_data] at a2
  have a2 := eq_of_beq a2
  have hl := sealB_list x
  rw [sealB_list, hy] at a2
  generalize (sealB x).data.toList = Y at *
  subst hl
  exact changed_list hX b2 hk hc a2.symm
inductive Val1 : SV → Value → Prop
  | bool (b : Bool) : Val1 (.p (.bool b)) (.bool b)
  | int (k : IntKind) (n : Int) : Val1 (.p (.int k n)) (.int k n)
  | str (s : ByteArray) : Val1 (.p (.str s)) (.string s)
inductive ValT : SV → Value → Prop
  | one {s : SV} {v : Value} (h : Val1 s v) : ValT s v
  | two {s t : SV} {u v : Value} (h : Val1 s u) (k : Val1 t v) : ValT (.tp [s, t]) (.tuple #[u, v])
  | three {s t r : SV} {u v x : Value} (h : Val1 s u) (k : Val1 t v) (l : Val1 r x) : ValT (.tp [s, t, r]) (.tuple #[u, v, x])
theorem Val1.eq {w : World} {S : Nat → Prop} {β : Nat → Nat} {O : Objs} {s : SV} {v x : Value} (h : Val1 s v) (hs : SR w S β O s x) : x = v := by
  cases h with
  | bool b => have := hs.p_inv; cases this; rfl
  | int k n => have := hs.p_inv; cases this; rfl
  | str s => have := hs.p_inv; cases this; rfl
theorem ValT.eq {w : World} {S : Nat → Prop} {β : Nat → Nat} {O : Objs} {s : SV} {v x : Value} (h : ValT s v) (hs : SR w S β O s x) : x = v := by
  cases h with
  | one h => exact h.eq hs
  | two h k =>
    obtain ⟨vs, rfl, hvs, hel⟩ := hs.tp_inv
    have e0 := hel 0 (by simp)
    have e1 := hel 1 (by simp)
    simp only [List.getElem_cons_zero, List.getElem_cons_succ] at e0 e1
    have e0 := h.eq e0
    have e1 := k.eq e1
    congr 1
    apply Array.ext
    · simpa using hvs
    · intro i h1 h2
      have : i = 0 ∨ i = 1 := by simp at h2; omega
      rcases this with rfl | rfl
      · simp [Array.getD, h1] at e0; simp [e0]
      · simp [Array.getD, h1] at e1; simp [e1]
  | three h k l =>
    obtain ⟨vs, rfl, hvs, hel⟩ := hs.tp_inv
    have e0 := hel 0 (by simp)
    have e1 := hel 1 (by simp)
    have e2 := hel 2 (by simp)
    simp only [List.getElem_cons_zero, List.getElem_cons_succ] at e0 e1 e2
    have e0 := h.eq e0
    have e1 := k.eq e1
    have e2 := l.eq e2
    congr 1
    apply Array.ext
    · simpa using hvs
    · intro i h1 h2
      have : i = 0 ∨ i = 1 ∨ i = 2 := by simp at h2; omega
      rcases this with rfl | rfl | rfl
      · simp [Array.getD, h1] at e0; simp [e0]
      · simp [Array.getD, h1] at e1; simp [e1]
      · simp [Array.getD, h1] at e2; simp [e2]
/-- All arguments stand. -/
def Args (w : World) (args : List PV) (vals : Array Value) : Prop := vals.size = args.length ∧ ∀ i (hi : i < args.length), PR w (All w) args[i] (vals.getD i undef)
theorem calls_of {P : Program} {f : FuncId} {c : Con} (h : Says P f c) {args : List PV} {vals : Array Value} {w : World} {r : SV} {y : Value} (hv : Args w args vals) (hc : c (args.map .p) [] = some (r, [], [])) (hy : ValT r y) :
    Calls P f vals w fun e w' => e = .returned y ∧ Go.RowKit.Below w.heap.size w w' := by
  obtain ⟨hsz, hv⟩ := hv
  refine ((h _ _ _ _ _ hc).2 w (All w) (fun _ => 0) vals (Rel.empty fun b hb => hb) (by simpa using hsz) fun i hi => ?_).mono fun e W' ⟨v, S', β', he, hf, _, _, _, _, _, _, hs⟩ => ?_
  · simpa using SR.p _ _ (hv i (by simpa using hi))
  · have e := hy.eq hs
    subst e
    exact ⟨he, hf.os, hf.tape, hf.output, hf.size, fun k hk => hf.block k hk fun ⟨n, hn, _⟩ => hn (resO_nil n)⟩
theorem Args.one {w : World} {a : PV} {v : Value} (h : PR w (All w) a v) : Args w [a] #[v] := ⟨rfl, fun i hi => by
  have : i = 0 := by simp at hi; exact hi
  subst this; exact h⟩
theorem Args.two {w : World} {a b : PV} {u v : Value} (h : PR w (All w) a u) (k : PR w (All w) b v) : Args w [a, b] #[u, v] := ⟨rfl, fun i hi => by
  have : i = 0 ∨ i = 1 := by simp at hi; omega
  rcases this with rfl | rfl
  · exact h
  · exact k⟩
theorem Args.three {w : World} {a b c : PV} {u v x : Value} (h : PR w (All w) a u) (k : PR w (All w) b v) (l : PR w (All w) c x) : Args w [a, b, c] #[u, v, x] := ⟨rfl, fun i hi => by
  have : i = 0 ∨ i = 1 ∨ i = 2 := by simp at hi; omega
  rcases this with rfl | rfl | rfl
  · exact h
  · exact k
  · exact l⟩
theorem prBelow {w w' : World} {a : PV} {v : Value} (h : PR w (All w) a v) (hb : Go.RowKit.Below w.heap.size w w') : PR w' (All w') a v :=
  h.mono fun b hlt => ⟨Nat.lt_of_lt_of_le hlt hb.size, hb.block b hlt⟩
theorem told_of {P : Program} {Γ : Gam} (h : GS P Γ) {f : FuncId} {c : Con} (e : Γ f = c) : Says P f c := by
  intro args ext r ext' fs he
  exact h f args ext r ext' fs (by rw [e]; exact he)
theorem one_byte {s : ByteArray} (h : s.size = 1) : s = ⟨#[bAt s 0]⟩ := by
  apply ByteArray.ext
  apply Array.ext
  · exact h
  · intro i h1 h2
    have : i = 0 := by simp at h2; omega
    subst this
    have := bAt_data (s := s) (i := 0) (by omega)
    simp only [List.getElem_toArray, List.getElem_cons_zero]
    rw [this]
    simp
theorem says_Index1 {P : Program} {f : FuncId} (hc : callable P f) (h : ∀ (s : ByteArray) (c : UInt8) (w : World), Calls P f #[.string s, .string ⟨#[c]⟩] w fun e w' => e = .returned (.int .i64 (Lib.indexByte s.data.toList c)) ∧ w' = w) : Says P f c_Index1 := by
  refine Says.pure fun args r fs he => ?_
  split at he
  case h_2 => cases he
  rename_i s sub
  split at he
  case isFalse => cases he
  rename_i hs1
  simp only [Option.some.injEq, Prod.mk.injEq] at he
  obtain ⟨rfl, rfl⟩ := he
  refine pc_str hc (fun _ _ _ _ _ => trivial) fun w S vals hsz hv _ => ?_
  obtain ⟨β0, e0⟩ := hv 0 (by simp)
  obtain ⟨β1, e1⟩ := hv 1 (by simp)
  simp only [List.getElem_cons_zero, List.getElem_cons_succ] at e0 e1
  have e0 := (Val1.str s).eq e0
  have e1 := (Val1.str sub).eq e1
  have hvals : vals = #[.string s, .string ⟨#[bAt sub 0]⟩] := by
    rw [← one_byte hs1]
    apply Array.ext
    · simpa using hsz
    · intro i h1 h2
      have : i = 0 ∨ i = 1 := by simp at h2; omega
      rcases this with rfl | rfl
      · simp [Array.getD, h1] at e0; simp [e0]
      · simp [Array.getD, h1] at e1; simp [e1]
  rw [hvals]
  exact (h s _ w).mono fun e w' ⟨he, hw⟩ => ⟨_, he, hw ▸ Go.RowKit.Below.refl _ _, fun _ _ => .int _ _⟩
/-- What the variables hold. -/
structure LaidW (P : Program) (w : World) : Prop where
  tab : Lib.TabIs P w "internal/strconv.uint64pow10" .u64 Lib.pow10Tab
  syn : ∃ tp p, w.var? P "strconv.ErrSyntax" = some #[.iface tp p]
  rng : ∃ tp p, w.var? P "strconv.ErrRange" = some #[.iface tp p]
theorem var_below {P : Program} {w w' : World} {n : String} {cs : Array Value} (hb : Go.RowKit.Below w.heap.size w w') (h : w.var? P n = some cs) : w'.var? P n = some cs := by
  unfold World.var? at h ⊢
  cases hg : P.globalNamed n with
  | none => rw [hg] at h; cases h
  | some g =>
    rw [hg] at h
    simp only [Option.bind_some] at h ⊢
    have hlt : g < w.heap.size := by
      apply Classical.byContradiction
      intro hn
      rw [Array.getElem?_eq_none (by omega)] at h
      cases h
    rw [hb.block g hlt]
    exact h
theorem LaidW.below {P : Program} {w w' : World} (h : LaidW P w) (hb : Go.RowKit.Below w.heap.size w w') : LaidW P w' where
  tab := var_below hb h.tab
  syn := by obtain ⟨tp, p, e⟩ := h.syn; exact ⟨tp, p, var_below hb e⟩
  rng := by obtain ⟨tp, p, e⟩ := h.rng; exact ⟨tp, p, var_below hb e⟩
end Go.Proofs.YtpobnchalcokoaaDoor.Pam
