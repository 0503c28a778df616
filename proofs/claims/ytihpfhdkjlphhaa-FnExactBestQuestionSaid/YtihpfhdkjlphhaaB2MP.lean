/- A part of the proof that stands in this folder: a small machine whose steps are shown to be the steps of the model, or walks of functions by it. No condition of its own. -/
import Derived.Test.YtihpfhdkjlphhaaB2ML
set_option linter.unusedVariables false
set_option linter.unusedSimpArgs false
namespace Go.Proofs.Ytihpfhdkjlphhaa.Pam
open Go
structure M where
  i : Nat
  a : SV
  b : SV
  c : SV
  d : SV
  e : SV
  f : SV
  g : SV
  h : SV
  k : SV
  l : SV
  m : SV
  o : Option Ob
  p : Option Ob
  q : Option Ob
  r : Option Ob
  t : Option Ob
def a_l4Needs (f_l4Counted : FuncId) (f_l4Told : FuncId) (f_l4Counts : FuncId) (f_l4Within : FuncId) : AFn := ⟨1, 
  .seq (.reg [⟨some 2, none, .d (.mv (.c (.nilsl)))⟩])
  (.seq (.reg [⟨some 3, none, .d (.mv (.c (.int .i64 1)))⟩])
  (.seq (.seq (.reg [⟨some 4, none, .d (.mv (.c (.int .i64 0)))⟩])
  (.block 0 (.loop (.seq (.seq (.reg [⟨some 14, none, .d (.mv (.t 4))⟩,
      ⟨some 15, none, .d (.mv (.t 0))⟩,
      ⟨some 16, none, .d (.bin .arith .lss (.t 14) (.t 15))⟩])
    (.cond (.t 16) (.skip) (.exit 0)))
    (.seq (.block 1 (.reg [⟨some 19, none, .d (.mv (.t 3))⟩,
       ⟨some 20, none, .d (.bin .arith .mul (.t 19) (.c (.int .i64 9)))⟩,
       ⟨some 3, none, .d (.mv (.t 20))⟩]))
    (.reg [⟨some 17, none, .d (.mv (.t 4))⟩,
      ⟨some 18, none, .d (.bin .arith .add (.t 17) (.c (.int .i64 1)))⟩,
      ⟨some 4, none, .d (.mv (.t 18))⟩]))))))
  (.seq (.reg [⟨some 21, none, .d (.mv (.t 3))⟩,
    ⟨some 22, none, .w (.mkslice 1 (.int .i64 0) (.t 21))⟩,
    ⟨some 23, none, .w (.bslice 1 [] [])⟩,
    ⟨some 5, none, .d (.mv (.t 22))⟩,
    ⟨some 6, none, .d (.mv (.t 23))⟩])
  (.seq (.seq (.reg [⟨some 7, none, .d (.mv (.c (.int .i64 0)))⟩])
  (.block 2 (.loop (.seq (.seq (.reg [⟨some 24, none, .d (.mv (.t 7))⟩,
      ⟨some 25, none, .d (.mv (.t 3))⟩,
      ⟨some 26, none, .d (.bin .arith .lss (.t 24) (.t 25))⟩])
    (.cond (.t 26) (.skip) (.exit 2)))
    (.seq (.block 3 (.seq (.reg [⟨some 29, none, .d (.mv (.t 5))⟩,
       ⟨some 30, none, .d (.mv (.t 7))⟩,
       ⟨some 31, none, .d (.ia 1 (.t 29) (.t 30))⟩,
       ⟨none, none, .w (.store 1 (.t 31) (.c (.int .i64 (-1))))⟩])
     (.seq (.reg [⟨some 32, none, .d (.mv (.t 7))⟩,
       ⟨some 33, none, .d (.mv (.t 0))⟩,
       ⟨some 34, none, .d (.call (.f f_l4Counted) [(.t 32), (.t 33)])⟩,
       ⟨some 8, none, .d (.mv (.t 34))⟩])
     (.seq (.reg [⟨some 35, none, .d (.mv (.t 8))⟩,
       ⟨some 36, none, .d (.call (.f f_l4Told) [(.t 35)])⟩])
     (.cond (.t 36) (.reg [⟨some 37, none, .d (.mv (.t 5))⟩,
        ⟨some 38, none, .d (.mv (.t 7))⟩,
        ⟨some 39, none, .d (.ia 1 (.t 37) (.t 38))⟩,
        ⟨none, none, .w (.store 1 (.t 39) (.c (.int .i64 0)))⟩]) (.seq (.reg [⟨some 40, none, .d (.mv (.t 8))⟩,
        ⟨some 41, none, .d (.call (.f f_l4Counts) [(.t 40)])⟩])
      (.cond (.t 41) (.reg [⟨some 42, none, .d (.mv (.t 6))⟩,
         ⟨some 43, none, .d (.mv (.t 7))⟩,
         ⟨some 44, none, .w (.bslice 1 [.int .i64 0] [(0, (.t 43))])⟩,
         ⟨some 45, none, .w (.append 1 (.t 42) (.t 44))⟩,
         ⟨some 6, none, .d (.mv (.t 45))⟩]) (.skip))))))))
    (.reg [⟨some 27, none, .d (.mv (.t 7))⟩,
      ⟨some 28, none, .d (.bin .arith .add (.t 27) (.c (.int .i64 1)))⟩,
      ⟨some 7, none, .d (.mv (.t 28))⟩]))))))
  (.seq (.seq (.reg [⟨some 9, none, .d (.mv (.c (.int .i64 1)))⟩])
  (.block 4 (.loop (.seq (.seq (.reg [⟨some 46, none, .d (.mv (.t 6))⟩,
      ⟨some 47, none, .d (.len (.t 46))⟩,
      ⟨some 48, none, .d (.bin .arith .gtr (.t 47) (.c (.int .i64 0)))⟩])
    (.cond (.t 48) (.skip) (.exit 4)))
    (.seq (.block 5 (.seq (.reg [⟨some 51, none, .w (.bslice 1 [] [])⟩,
       ⟨some 52, none, .w (.bslice 1 [] [])⟩,
       ⟨some 10, none, .d (.mv (.t 51))⟩,
       ⟨some 11, none, .d (.mv (.t 52))⟩])
     (.seq (.seq (.reg [⟨some 12, none, .d (.mv (.c (.int .i64 0)))⟩])
     (.block 6 (.loop (.seq (.seq (.reg [⟨some 53, none, .d (.mv (.t 12))⟩,
         ⟨some 54, none, .d (.mv (.t 6))⟩,
         ⟨some 55, none, .d (.len (.t 54))⟩,
         ⟨some 56, none, .d (.bin .arith .lss (.t 53) (.t 55))⟩])
       (.cond (.t 56) (.skip) (.exit 6)))
       (.seq (.block 7 (.seq (.reg [⟨some 59, none, .d (.mv (.t 6))⟩,
          ⟨some 60, none, .d (.mv (.t 12))⟩,
          ⟨some 61, none, .d (.ia 1 (.t 59) (.t 60))⟩,
          ⟨some 62, none, .d (.load false 1 (.t 61))⟩,
          ⟨some 63, none, .d (.mv (.t 0))⟩,
          ⟨some 64, none, .d (.call (.f f_l4Counted) [(.t 62), (.t 63)])⟩,
          ⟨some 65, none, .d (.mv (.t 5))⟩,
          ⟨some 66, none, .d (.call (.f f_l4Within) [(.t 64), (.t 65)])⟩])
        (.cond (.t 66) (.reg [⟨some 67, none, .d (.mv (.t 10))⟩,
           ⟨some 68, none, .d (.mv (.t 6))⟩,
           ⟨some 69, none, .d (.mv (.t 12))⟩,
           ⟨some 70, none, .d (.ia 1 (.t 68) (.t 69))⟩,
           ⟨some 71, none, .d (.load false 1 (.t 70))⟩,
           ⟨some 72, none, .w (.bslice 1 [.int .i64 0] [(0, (.t 71))])⟩,
           ⟨some 73, none, .w (.append 1 (.t 67) (.t 72))⟩,
           ⟨some 10, none, .d (.mv (.t 73))⟩]) (.reg [⟨some 74, none, .d (.mv (.t 11))⟩,
           ⟨some 75, none, .d (.mv (.t 6))⟩,
           ⟨some 76, none, .d (.mv (.t 12))⟩,
           ⟨some 77, none, .d (.ia 1 (.t 75) (.t 76))⟩,
           ⟨some 78, none, .d (.load false 1 (.t 77))⟩,
           ⟨some 79, none, .w (.bslice 1 [.int .i64 0] [(0, (.t 78))])⟩,
           ⟨some 80, none, .w (.append 1 (.t 74) (.t 79))⟩,
           ⟨some 11, none, .d (.mv (.t 80))⟩]))))
       (.reg [⟨some 57, none, .d (.mv (.t 12))⟩,
         ⟨some 58, none, .d (.bin .arith .add (.t 57) (.c (.int .i64 1)))⟩,
         ⟨some 12, none, .d (.mv (.t 58))⟩]))))))
     (.seq (.seq (.reg [⟨some 13, none, .d (.mv (.c (.int .i64 0)))⟩])
     (.block 8 (.loop (.seq (.seq (.reg [⟨some 81, none, .d (.mv (.t 13))⟩,
         ⟨some 82, none, .d (.mv (.t 10))⟩,
         ⟨some 83, none, .d (.len (.t 82))⟩,
         ⟨some 84, none, .d (.bin .arith .lss (.t 81) (.t 83))⟩])
       (.cond (.t 84) (.skip) (.exit 8)))
       (.seq (.block 9 (.reg [⟨some 87, none, .d (.mv (.t 5))⟩,
          ⟨some 88, none, .d (.mv (.t 10))⟩,
          ⟨some 89, none, .d (.mv (.t 13))⟩,
          ⟨some 90, none, .d (.ia 1 (.t 88) (.t 89))⟩,
          ⟨some 91, none, .d (.load false 1 (.t 90))⟩,
          ⟨some 92, none, .d (.mv (.t 9))⟩,
          ⟨some 93, none, .d (.ia 1 (.t 87) (.t 91))⟩,
          ⟨none, none, .w (.store 1 (.t 93) (.t 92))⟩]))
       (.reg [⟨some 85, none, .d (.mv (.t 13))⟩,
         ⟨some 86, none, .d (.bin .arith .add (.t 85) (.c (.int .i64 1)))⟩,
         ⟨some 13, none, .d (.mv (.t 86))⟩]))))))
     (.reg [⟨some 94, none, .d (.mv (.t 11))⟩,
       ⟨some 6, none, .d (.mv (.t 94))⟩])))))
    (.reg [⟨some 49, none, .d (.mv (.t 9))⟩,
      ⟨some 50, none, .d (.bin .arith .add (.t 49) (.c (.int .i64 1)))⟩,
      ⟨some 9, none, .d (.mv (.t 50))⟩]))))))
  (.seq (.reg [⟨some 95, none, .d (.mv (.t 5))⟩,
    ⟨some 2, none, .d (.mv (.t 95))⟩])
  (.ret))))))), [.tmp 2]⟩
def n_l4Needs : Nat → Option Ann := fun _ => none
abbrev k_l4Needs : List Nat := [0, 2, 3, 4, 5, 6, 7, 8, 9, 10, 11, 12, 13, 16, 26, 36, 41, 48, 56, 66, 84]
abbrev o_l4Needs : List Nat := [22, 23, 44, 45, 51, 52, 72, 73, 79, 80]
def c_l4Needs : Con := pure' fun
  | [.p (.int .i64 p)] => if (1 ≤ p ∧ p ≤ 3) then some (.ar 2000000, [.arr 1 (ints (tabK (ntT tabB) p.toNat 9))]) else none
  | _ => none
theorem nt_top {both : Bool} {nt : List Int → Nat} {R : Nat} (N : NT both nt R) {p key : Nat} (h : okPl both nt p) (h1 : 1 ≤ p) (h3 : p ≤ 3) (hk : key < 9 ^ p) (hs : (dg key p).sum ≤ 8) : nt (pad3 (dg key p)) ≤ R := by
  refine N.top _ (mem_allT.2 ?_)
  have h8 := dg_in8 key p
  match p, h1, h3 with
  | 1, _, _ => simp [dg, pad3, inT] at hs ⊢; omega
  | 2, _, _ => simp [dg, pad3, inT] at hs ⊢; omega
  | 3, _, _ => simp [dg, pad3, inT] at hs ⊢; omega
set_option maxHeartbeats 4000000 in
theorem s_l4Needs {P : Program} (hm : P.follows .mixedOrders = true) {Γ : Gam} (hΓ : GS P Γ) {n : FuncId} {f_l4Counted : FuncId} {f_l4Told : FuncId} {f_l4Counts : FuncId} {f_l4Within : FuncId} (is : Is P n (a_l4Needs f_l4Counted f_l4Told f_l4Counts f_l4Within)) (h_l4Counted : Γ f_l4Counted = c_l4Counted) (h_l4Told : Γ f_l4Told = c_isTold) (h_l4Counts : Γ f_l4Counts = c_AreCounts) (h_l4Within : Γ f_l4Within = c_l4Within)  : Says P n c_l4Needs := by
  refine Says.pure fun args r fs h => ?_
  split at h
  case h_2 => cases h
  rename_i p
  split at h
  case isFalse => cases h
  rename_i hc
  simp only [ofI_ints, ofBo_bools, ofAs_asks, Option.some.injEq, Prod.mk.injEq] at h hc
  obtain ⟨rfl, rfl⟩ := h
  obtain ⟨hp1', hp3'⟩ := hc
  obtain ⟨p, rfl⟩ : ∃ j : Nat, p = j := ⟨p.toNat, by omega⟩
  simp only [Int.toNat_natCast]
  have hp1 : 1 ≤ p := by omega
  have hp3 : p ≤ 3 := by omega
  have hpi3 : (p : Int) ≤ 3 := by omega
  have hpi0 : (0 : Int) ≤ (p : Int) := by omega
  have h9 := pow9 hp3
  have hokB := okP_B hp1 hp3
  have hN : NT true (ntT tabB) 9 := ntB
  have htop : ∀ key, key < 9 ^ p → (dg key p).sum ≤ 8 → (ntT tabB) (pad3 (dg key p)) ≤ 9 := fun key hk hs => nt_top hN hokB hp1 hp3 hk hs
  generalize (ntT tabB) = nt at *
  refine is.go hm hΓ k_l4Needs o_l4Needs (by simp [a_l4Needs]) ?_
  simp only [a_l4Needs, List.zipIdx_cons, List.zipIdx_nil, ↓SP, SQ, Gam.add, stepM, callC, argC, lendO, nmBy, nmC, likeL, likeB, plainOb, offs, exL, X, F, trP, trO, stepD, stepW, newA, SV.tr, SV.trL, fz, allP, Ob.tr, loadA, cellsA, SV.cells, binA, binI, eqOut, isSl, isPt, natOf, callee, snap, SV.refsL, SV.refs, thaw, fzAll, loA, hiA, elemOf, partsA, buildA, putCells, ↓reduceIte, reduceCtorEq, okCell, Nat.reduceAdd, Nat.reduceEqDiff, Nat.reduceSub, Nat.reduceMul, Nat.reduceLeDiff, Nat.reduceLT, Nat.reduceBEq, PV.scal, PV.scalL, SV.scal, SV.scalL, Ob.scal, PV.isCell, pure', resO]
  refine loop_at (fun s : M => mkEnv [(0, si p), (2, .p .nilsl), (3, si ((9 ^ s.i : Nat) : Int)), (4, si s.i), (5, .junk), (6, .junk), (7, .junk), (8, .junk), (9, .junk), (10, .junk), (11, .junk), (12, .junk), (13, .junk), (16, s.a), (26, .junk), (36, .junk), (41, .junk), (48, .junk), (56, .junk), (66, .junk), (84, .junk)]) (fun s => mkO [(22, none), (23, none), (44, none), (45, none), (51, none), (52, none), (72, none), (73, none), (79, none), (80, none)]) (fun s => s.i ≤ p) (fun s => p - s.i) ⟨0, .junk, .junk, .junk, .junk, .junk, .junk, .junk, .junk, .junk, .junk, .junk, none, none, none, none, none⟩ (by simp) rfl rfl ?_
  rintro ⟨i, waa, wab, wac, wad, wae, waf, wag, wah, wak, wal, wam, waoo, waop, waoq, waor, waot⟩ hi R1 hR1 hN1
  simp only at hi
  by_cases h : i < p
  · have h1 : (i : Int) < (p : Int) := by omega
    have hw := wrap_one (i := i) (by omega)
    have hpw := pow9 (i := i) (by omega)
    have hm9 : IntKind.i64.wrap (((9 ^ i : Nat) : Int) * 9) = ((9 ^ (i + 1) : Nat) : Int) := by
      rw [Nat.pow_succ]
      generalize 9 ^ i = z at hpw
      rw [wrap64 (by omega) (by omega)]; omega
    simp only [h1, hw, hm9, ↓SP, SQ, Gam.add, stepM, callC, argC, lendO, nmBy, nmC, likeL, likeB, plainOb, offs, exL, X, F, trP, trO, stepD, stepW, newA, SV.tr, SV.trL, fz, allP, Ob.tr, loadA, cellsA, SV.cells, binA, binI, eqOut, isSl, isPt, natOf, callee, snap, SV.refsL, SV.refs, thaw, fzAll, loA, hiA, elemOf, partsA, buildA, putCells, ↓reduceIte, reduceCtorEq, okCell, Nat.reduceAdd, Nat.reduceEqDiff, Nat.reduceSub, Nat.reduceMul, Nat.reduceLeDiff, Nat.reduceLT, Nat.reduceBEq, PV.scal, PV.scalL, SV.scal, SV.scalL, Ob.scal, PV.isCell, pure', resO]
    exact hN1 ⟨i + 1, _, .junk, .junk, .junk, .junk, .junk, .junk, .junk, .junk, .junk, .junk, none, none, none, none, none⟩ _ _ (by simp only; omega) (by simp only; omega) rfl rfl
  have hie : i = p := by omega
  have h1 : ¬ ((p : Nat) : Int) < (p : Int) := by omega
  subst hie
  have hroom : 9 ^ i ≤ roomA := by unfold roomA; omega
  have hn0 : (0 : Int) ≤ ((9 ^ i : Nat) : Int) := Int.natCast_nonneg _
  have hA0 := stA_0 nt i
  simp only [h1, ↓SP, SQ, Gam.add, stepM, callC, argC, lendO, nmBy, nmC, likeL, likeB, plainOb, offs, exL, X, F, trP, trO, stepD, stepW, newA, SV.tr, SV.trL, fz, allP, Ob.tr, loadA, cellsA, SV.cells, binA, binI, eqOut, isSl, isPt, natOf, callee, snap, SV.refsL, SV.refs, thaw, fzAll, loA, hiA, elemOf, partsA, buildA, putCells, ↓reduceIte, reduceCtorEq, okCell, Nat.reduceAdd, Nat.reduceEqDiff, Nat.reduceSub, Nat.reduceMul, Nat.reduceLeDiff, Nat.reduceLT, Nat.reduceBEq, PV.scal, PV.scalL, SV.scal, SV.scalL, Ob.scal, PV.isCell, pure', resO]
  refine hR1 _ _ _ (by intro h; cases h) ?_
  simp only [hroom, hn0, Int.toNat_natCast, ints_rep, hA0, ↓SP, SQ, Gam.add, stepM, callC, argC, lendO, nmBy, nmC, likeL, likeB, plainOb, offs, exL, X, F, trP, trO, stepD, stepW, newA, SV.tr, SV.trL, fz, allP, Ob.tr, loadA, cellsA, SV.cells, binA, binI, eqOut, isSl, isPt, natOf, callee, snap, SV.refsL, SV.refs, thaw, fzAll, loA, hiA, elemOf, partsA, buildA, putCells, ↓reduceIte, reduceCtorEq, okCell, Nat.reduceAdd, Nat.reduceEqDiff, Nat.reduceSub, Nat.reduceMul, Nat.reduceLeDiff, Nat.reduceLT, Nat.reduceBEq, PV.scal, PV.scalL, SV.scal, SV.scalL, Ob.scal, PV.isCell, pure', resO]
  refine loop_at (fun s : M => mkEnv [(0, si i), (2, .p .nilsl), (3, si ((9 ^ i : Nat) : Int)), (4, si i), (5, .ar 22), (6, .ar 23), (7, si s.i), (8, s.a), (9, .junk), (10, .junk), (11, .junk), (12, .junk), (13, .junk), (16, sb false), (26, s.b), (36, s.c), (41, s.d), (48, .junk), (56, .junk), (66, .junk), (84, .junk)]) (fun s => mkO [(22, some (.arr 1 (ints (stA nt i s.i)))), (23, some (.arr 1 (ints (nz (lfA nt i s.i))))), (44, s.o), (45, none), (51, none), (52, none), (72, none), (73, none), (79, none), (80, none)]) (fun s => s.i ≤ 9 ^ i) (fun s => 9 ^ i - s.i) ⟨0, .junk, .junk, .junk, .junk, .junk, .junk, .junk, .junk, .junk, .junk, .junk, none, none, none, none, none⟩ (by simp) rfl rfl ?_
  rintro ⟨j, wba, wbb, wbc, wbd, wbe, wbf, wbg, wbh, wbk, wbl, wbm, wboo, wbop, wboq, wbor, wbot⟩ hj R2 hR2 hN2
  simp only at hj
  by_cases h : j < 9 ^ i
  · have h2 : (j : Int) < ((9 ^ i : Nat) : Int) := Int.ofNat_lt.2 h
    have hw := wrap_one (i := j) (by omega)
    have hj0 : (0 : Int) ≤ (j : Int) := Int.natCast_nonneg _
    have hj1 : (j : Int) ≤ 1000000 := by omega
    have hlen := stA_len nt i j
    have hdl := dg_len j i
    have hdl3 : (dg j i).length ≤ 3 := by omega
    have hdlb : (dg j i).length ≤ 1100000 := by omega
    have hd8 := dg_in8 j i
    have hone := stA_one (nt := nt) (p := i) (i := j)
    obtain ⟨e0, he0⟩ : ∃ e, (ints (stA nt i j))[j]? = some e := ⟨_, List.getElem?_eq_getElem (by rw [ints_len, hlen]; exact h)⟩
    have hlen1 : ((stA nt i j).set j (-1)).length = 9 ^ i := by rw [List.length_set, hlen]
    obtain ⟨e1, he1⟩ : ∃ e, (ints ((stA nt i j).set j (-1)))[j]? = some e := ⟨_, List.getElem?_eq_getElem (by rw [ints_len, hlen1]; exact h)⟩
    cases ht : told (dg j i) with
    | true =>
      have hv := val0_told hokB h ht
      have hs8 : (dg j i).sum ≤ 8 := by have := ht; simp only [told, decide_eq_true_eq] at this; omega
      have hz := (zero_told hokB h hs8).2 ht
      have hno := lfA_no (nt := nt) (p := i) (i := j) (by omega)
      rw [hv] at hone
      have hset : ((stA nt i j).set j (-1)).set j 0 = stA nt i (j + 1) := by rw [List.set_set, hone]
      simp only [h, h2, hw, hj0, hj1, hpi0, hpi3, hlen, hlen1, hdl3, hdlb, hd8, he0, he1, ht, hset, Int.toNat_natCast, ints_len, ints_set, isI_ints, ofI_ints, h_l4Counted, c_l4Counted, h_l4Told, c_isTold, h_l4Counts, c_AreCounts, ↓SP, SQ, Gam.add, stepM, callC, argC, lendO, nmBy, nmC, likeL, likeB, plainOb, offs, exL, X, F, trP, trO, stepD, stepW, newA, SV.tr, SV.trL, fz, allP, Ob.tr, loadA, cellsA, SV.cells, binA, binI, eqOut, isSl, isPt, natOf, callee, snap, SV.refsL, SV.refs, thaw, fzAll, loA, hiA, elemOf, partsA, buildA, putCells, ↓reduceIte, reduceCtorEq, okCell, Nat.reduceAdd, Nat.reduceEqDiff, Nat.reduceSub, Nat.reduceMul, Nat.reduceLeDiff, Nat.reduceLT, Nat.reduceBEq, PV.scal, PV.scalL, SV.scal, SV.scalL, Ob.scal, PV.isCell, pure', resO]
      exact hN2 ⟨j + 1, _, _, _, _, .junk, .junk, .junk, .junk, .junk, .junk, .junk, _, none, none, none, none⟩ _ _ (by simp only; omega) (by simp only; omega) rfl (by rw [hno])
    | false =>
      have hv := val0_not hokB h ht
      rw [hv] at hone
      cases hkc : okC (dg j i) with
      | true =>
        have hs8 := (okC_out hkc).2.2
        have hnz : 0 < nt (pad3 (dg j i)) := by
          rcases Nat.eq_zero_or_pos (nt (pad3 (dg j i))) with g | g
          · have := (zero_told hokB h hs8).1 g; rw [ht] at this; cases this
          · exact g
        have hyes := lfA_yes hs8 hnz
        have hll := lfA_len nt i j
        have hr : (lfA nt i j).length + 1 ≤ roomA := by unfold roomA; omega
        simp only [h, h2, hw, hj0, hj1, hpi0, hpi3, hlen, hlen1, hdl3, hdlb, hd8, he0, he1, ht, hkc, hone, hyes, hr, nz_len, nz_app, Int.toNat_natCast, ints_len, ints_set, ints_app1, ints_cell, isI_ints, ofI_ints, h_l4Counted, c_l4Counted, h_l4Told, c_isTold, h_l4Counts, c_AreCounts, ↓SP, SQ, Gam.add, stepM, callC, argC, lendO, nmBy, nmC, likeL, likeB, plainOb, offs, exL, X, F, trP, trO, stepD, stepW, newA, SV.tr, SV.trL, fz, allP, Ob.tr, loadA, cellsA, SV.cells, binA, binI, eqOut, isSl, isPt, natOf, callee, snap, SV.refsL, SV.refs, thaw, fzAll, loA, hiA, elemOf, partsA, buildA, putCells, ↓reduceIte, reduceCtorEq, okCell, Nat.reduceAdd, Nat.reduceEqDiff, Nat.reduceSub, Nat.reduceMul, Nat.reduceLeDiff, Nat.reduceLT, Nat.reduceBEq, PV.scal, PV.scalL, SV.scal, SV.scalL, Ob.scal, PV.isCell, pure', resO]
        exact hN2 ⟨j + 1, _, _, _, _, .junk, .junk, .junk, .junk, .junk, .junk, .junk, _, none, none, none, none⟩ _ _ (by simp only; omega) (by simp only; omega) rfl rfl
      | false =>
        have hno := lfA_no (nt := nt) (p := i) (i := j) (fun e => by
          have : okC (dg j i) = true := by
            simp only [okC, hdl, hd8, dec_t e.1, Bool.and_true]
            rw [dec_t (by omega), dec_t (by omega)]; rfl
          rw [hkc] at this; cases this)
        simp only [h, h2, hw, hj0, hj1, hpi0, hpi3, hlen, hlen1, hdl3, hdlb, hd8, he0, he1, ht, hkc, hone, Int.toNat_natCast, ints_len, ints_set, isI_ints, ofI_ints, h_l4Counted, c_l4Counted, h_l4Told, c_isTold, h_l4Counts, c_AreCounts, ↓SP, SQ, Gam.add, stepM, callC, argC, lendO, nmBy, nmC, likeL, likeB, plainOb, offs, exL, X, F, trP, trO, stepD, stepW, newA, SV.tr, SV.trL, fz, allP, Ob.tr, loadA, cellsA, SV.cells, binA, binI, eqOut, isSl, isPt, natOf, callee, snap, SV.refsL, SV.refs, thaw, fzAll, loA, hiA, elemOf, partsA, buildA, putCells, ↓reduceIte, reduceCtorEq, okCell, Nat.reduceAdd, Nat.reduceEqDiff, Nat.reduceSub, Nat.reduceMul, Nat.reduceLeDiff, Nat.reduceLT, Nat.reduceBEq, PV.scal, PV.scalL, SV.scal, SV.scalL, Ob.scal, PV.isCell, pure', resO]
        exact hN2 ⟨j + 1, _, _, _, _, .junk, .junk, .junk, .junk, .junk, .junk, .junk, _, none, none, none, none⟩ _ _ (by simp only; omega) (by simp only; omega) rfl (by rw [hno])
  have hje : j = 9 ^ i := by omega
  have h2 : ¬ ((9 ^ i : Nat) : Int) < ((9 ^ i : Nat) : Int) := Int.lt_irrefl _
  subst hje
  have hA9 := stA_end nt i
  have hL9 := lfA_end nt i
  simp only [h2, ↓SP, SQ, Gam.add, stepM, callC, argC, lendO, nmBy, nmC, likeL, likeB, plainOb, offs, exL, X, F, trP, trO, stepD, stepW, newA, SV.tr, SV.trL, fz, allP, Ob.tr, loadA, cellsA, SV.cells, binA, binI, eqOut, isSl, isPt, natOf, callee, snap, SV.refsL, SV.refs, thaw, fzAll, loA, hiA, elemOf, partsA, buildA, putCells, ↓reduceIte, reduceCtorEq, okCell, Nat.reduceAdd, Nat.reduceEqDiff, Nat.reduceSub, Nat.reduceMul, Nat.reduceLeDiff, Nat.reduceLT, Nat.reduceBEq, PV.scal, PV.scalL, SV.scal, SV.scalL, Ob.scal, PV.isCell, pure', resO]
  refine hR2 _ _ _ (by intro h; cases h) ?_
  simp only [hA9, hL9, ↓SP, SQ, Gam.add, stepM, callC, argC, lendO, nmBy, nmC, likeL, likeB, plainOb, offs, exL, X, F, trP, trO, stepD, stepW, newA, SV.tr, SV.trL, fz, allP, Ob.tr, loadA, cellsA, SV.cells, binA, binI, eqOut, isSl, isPt, natOf, callee, snap, SV.refsL, SV.refs, thaw, fzAll, loA, hiA, elemOf, partsA, buildA, putCells, ↓reduceIte, reduceCtorEq, okCell, Nat.reduceAdd, Nat.reduceEqDiff, Nat.reduceSub, Nat.reduceMul, Nat.reduceLeDiff, Nat.reduceLT, Nat.reduceBEq, PV.scal, PV.scalL, SV.scal, SV.scalL, Ob.scal, PV.isCell, pure', resO]
  refine loop_at (fun s : M => mkEnv [(0, si i), (2, .p .nilsl), (3, si ((9 ^ i : Nat) : Int)), (4, si i), (5, .ar 22), (6, match s.i with | 0 => .ar 23 | _ + 1 => .ar 52), (7, si ((9 ^ i : Nat) : Int)), (8, s.a), (9, si ((s.i + 1 : Nat) : Int)), (10, s.b), (11, s.c), (12, s.d), (13, s.e), (16, sb false), (26, sb false), (36, s.f), (41, s.g), (48, s.h), (56, s.k), (66, s.l), (84, s.m)]) (fun s => mkO [(22, some (.arr 1 (ints (tabK nt i s.i)))), (23, some (.arr 1 (ints (nz (lfK nt i 0))))), (44, s.o), (45, none), (51, s.p), (52, match s.i with | 0 => none | k + 1 => some (.arr 1 (ints (nz (lfK nt i (k + 1)))))), (72, s.q), (73, none), (79, s.r), (80, none)]) (fun s => s.i ≤ 9) (fun s => 9 - s.i) ⟨0, _, .junk, .junk, .junk, .junk, _, _, .junk, .junk, .junk, .junk, _, none, none, none, none⟩ (by simp) rfl rfl ?_
  rintro ⟨k, wca, wcb, wcc, wcd, wce, wcf, wcg, wch, wck, wcl, wcm, wcoo, wcop, wcoq, wcor, wcot⟩ hk R3 hR3 hN3
  simp only at hk
  by_cases h : 0 < (lfK nt i k).length
  · have hkR : k < 9 := by
      obtain ⟨key, hkey⟩ := List.exists_mem_of_length_pos h
      have := lf_mem hkey
      have := htop key this.1 this.2.1
      omega
    have hw := wrap_one (i := k + 1) (by omega)
    have hll := lf_len nt i k
    have hz0 := lf_len nt i 0
    have h3' : ((lfK nt i k).length : Int) > 0 := by omega
    cases k with
    | zero =>
      simp only [h3', nz_len, ints_len, ↓SP, SQ, Gam.add, stepM, callC, argC, lendO, nmBy, nmC, likeL, likeB, plainOb, offs, exL, X, F, trP, trO, stepD, stepW, newA, SV.tr, SV.trL, fz, allP, Ob.tr, loadA, cellsA, SV.cells, binA, binI, eqOut, isSl, isPt, natOf, callee, snap, SV.refsL, SV.refs, thaw, fzAll, loA, hiA, elemOf, partsA, buildA, putCells, ↓reduceIte, reduceCtorEq, okCell, Nat.reduceAdd, Nat.reduceEqDiff, Nat.reduceSub, Nat.reduceMul, Nat.reduceLeDiff, Nat.reduceLT, Nat.reduceBEq, PV.scal, PV.scalL, SV.scal, SV.scalL, Ob.scal, PV.isCell, pure', resO]
      refine loop_at (fun s : M => mkEnv [(0, si i), (2, .p .nilsl), (3, si ((9 ^ i : Nat) : Int)), (4, si i), (5, .ar 22), (6, .ar 23), (7, si ((9 ^ i : Nat) : Int)), (8, s.a), (9, si ((1 : Nat) : Int)), (10, .ar 51), (11, .ar 52), (12, si s.i), (13, s.b), (16, sb false), (26, sb false), (36, s.c), (41, s.d), (48, sb true), (56, s.e), (66, s.f), (84, s.g)]) (fun s => mkO [(22, some (.arr 1 (ints (tabK nt i (0))))), (23, some (.arr 1 (ints (nz (lfK nt i 0))))), (44, s.o), (45, none), (51, some (.arr 1 (ints (nz (((lfK nt i (0)).take s.i).filter fun key => decide (nt (pad3 (dg key i)) ≤ 1)))))), (52, some (.arr 1 (ints (nz (((lfK nt i (0)).take s.i).filter fun key => !decide (nt (pad3 (dg key i)) ≤ 1)))))), (72, s.q), (73, none), (79, s.r), (80, none)]) (fun s => s.i ≤ (lfK nt i (0)).length) (fun s => (lfK nt i (0)).length - s.i) ⟨0, _, _, _, _, _, _, _, .junk, .junk, .junk, .junk, _, none, _, _, none⟩ (by simp) rfl rfl ?_
      rintro ⟨i2, wda, wdb, wdc, wdd, wde, wdf, wdg, wdh, wdk, wdl, wdm, wdoo, wdop, wdoq, wdor, wdot⟩ hi2 R4 hR4 hN4
      simp only at hi2
      by_cases hlt : i2 < (lfK nt i (0)).length
      · have h4 : (i2 : Int) < (lfK nt i (0)).length := by omega
        have hi3 : i2 < (lfK nt i (0)).length := hlt
        have hwi := wrap_one (i := i2) (by omega)
        obtain ⟨key, hkey⟩ : ∃ key, (lfK nt i (0)).getD i2 0 = key := ⟨_, rfl⟩
        have hmem := lf_mem (nt := nt) (p := i) (k := 0) (key := key) (by rw [← hkey, getD_lt hlt]; exact List.getElem_mem hlt)
        have hgk := nz_get hlt
        rw [hkey] at hgk
        have hk0 : (0 : Int) ≤ (key : Int) := by omega
        have hk1 : (key : Int) ≤ 1000000 := by omega
        have hdl := dg_len key i
        have htold : told (dg key i) = false := by
          cases ht : told (dg key i) with
          | false => rfl
          | true => have := (zero_told hokB hmem.1 hmem.2.1).2 ht; omega
        have hokw := open_okw hp1 hp3 hmem.1 hmem.2.1 htold
        have htabl : (tabK nt i (0)).length = 9 ^ i := tabK_len nt i (0)
        have hwany := wi_any (k := 0) hokB hp3 hmem.1 hmem.2.1 htold
        have hq0 := take_one (lfK nt i (0)) i2 0 hlt
        rw [hkey] at hq0
        by_cases hnt : nt (pad3 (dg key i)) ≤ 1
        ·   skip
            rw [dec_t hnt] at hwany
            have hapx : (((lfK nt i (0)).take i2).filter fun key => decide (nt (pad3 (dg key i)) ≤ 1)) ++ [key] = ((lfK nt i (0)).take (i2 + 1)).filter fun key => decide (nt (pad3 (dg key i)) ≤ 1) := by
              rw [hq0, List.filter_append]; simp only [List.filter_cons, dec_t hnt, List.filter_nil, if_true]
            have hsm : ((lfK nt i (0)).take (i2 + 1)).filter (fun key => !decide (nt (pad3 (dg key i)) ≤ 1)) = ((lfK nt i (0)).take i2).filter fun key => !decide (nt (pad3 (dg key i)) ≤ 1) := by
              rw [hq0, List.filter_append]; simp only [List.filter_cons, dec_t hnt, Bool.not_true, List.filter_nil, Bool.false_eq_true, if_false, List.append_nil]
            have hfl : (((lfK nt i (0)).take i2).filter fun key => decide (nt (pad3 (dg key i)) ≤ 1)).length + 1 ≤ roomA := by
              have := List.length_filter_le (fun key => decide (nt (pad3 (dg key i)) ≤ 1)) ((lfK nt i (0)).take i2)
              rw [List.length_take] at this
              unfold roomA; omega
            simp only [h4, hi3, hgk, hk0, hk1, hpi0, hpi3, nz_len, ints_len, Int.toNat_natCast, isI_ints, ofI_ints, h_l4Counted, c_l4Counted, hwany, hokw, htabl, hdl, h_l4Within, c_l4Within, hwi, hapx, hfl, nz_app, ints_app1, ints_cell, ↓SP, SQ, Gam.add, stepM, callC, argC, lendO, nmBy, nmC, likeL, likeB, plainOb, offs, exL, X, F, trP, trO, stepD, stepW, newA, SV.tr, SV.trL, fz, allP, Ob.tr, loadA, cellsA, SV.cells, binA, binI, eqOut, isSl, isPt, natOf, callee, snap, SV.refsL, SV.refs, thaw, fzAll, loA, hiA, elemOf, partsA, buildA, putCells, ↓reduceIte, reduceCtorEq, okCell, Nat.reduceAdd, Nat.reduceEqDiff, Nat.reduceSub, Nat.reduceMul, Nat.reduceLeDiff, Nat.reduceLT, Nat.reduceBEq, PV.scal, PV.scalL, SV.scal, SV.scalL, Ob.scal, PV.isCell, pure', resO]
            exact hN4 ⟨i2 + 1, _, _, _, _, _, _, _, .junk, .junk, .junk, .junk, _, none, _, _, none⟩ _ _ (by simp only; omega) (by simp only; omega) rfl (by rw [hsm])
        ·   skip
            rw [dec_f hnt] at hwany
            have hapx : (((lfK nt i (0)).take i2).filter fun key => !decide (nt (pad3 (dg key i)) ≤ 1)) ++ [key] = ((lfK nt i (0)).take (i2 + 1)).filter fun key => !decide (nt (pad3 (dg key i)) ≤ 1) := by
              rw [hq0, List.filter_append]; simp only [List.filter_cons, dec_f hnt, Bool.not_false, List.filter_nil, if_true]
            have hsm : ((lfK nt i (0)).take (i2 + 1)).filter (fun key => decide (nt (pad3 (dg key i)) ≤ 1)) = ((lfK nt i (0)).take i2).filter fun key => decide (nt (pad3 (dg key i)) ≤ 1) := by
              rw [hq0, List.filter_append]; simp only [List.filter_cons, dec_f hnt, List.filter_nil, Bool.false_eq_true, if_false, List.append_nil]
            have hfl : (((lfK nt i (0)).take i2).filter fun key => !decide (nt (pad3 (dg key i)) ≤ 1)).length + 1 ≤ roomA := by
              have := List.length_filter_le (fun key => !decide (nt (pad3 (dg key i)) ≤ 1)) ((lfK nt i (0)).take i2)
              rw [List.length_take] at this
              unfold roomA; omega
            simp only [h4, hi3, hgk, hk0, hk1, hpi0, hpi3, nz_len, ints_len, Int.toNat_natCast, isI_ints, ofI_ints, h_l4Counted, c_l4Counted, hwany, hokw, htabl, hdl, h_l4Within, c_l4Within, hwi, hapx, hfl, nz_app, ints_app1, ints_cell, ↓SP, SQ, Gam.add, stepM, callC, argC, lendO, nmBy, nmC, likeL, likeB, plainOb, offs, exL, X, F, trP, trO, stepD, stepW, newA, SV.tr, SV.trL, fz, allP, Ob.tr, loadA, cellsA, SV.cells, binA, binI, eqOut, isSl, isPt, natOf, callee, snap, SV.refsL, SV.refs, thaw, fzAll, loA, hiA, elemOf, partsA, buildA, putCells, ↓reduceIte, reduceCtorEq, okCell, Nat.reduceAdd, Nat.reduceEqDiff, Nat.reduceSub, Nat.reduceMul, Nat.reduceLeDiff, Nat.reduceLT, Nat.reduceBEq, PV.scal, PV.scalL, SV.scal, SV.scalL, Ob.scal, PV.isCell, pure', resO]
            exact hN4 ⟨i2 + 1, _, _, _, _, _, _, _, .junk, .junk, .junk, .junk, _, none, _, _, none⟩ _ _ (by simp only; omega) (by simp only; omega) rfl (by rw [hsm])
      have hi2e : i2 = (lfK nt i (0)).length := by omega
      have h4 : ¬ ((lfK nt i (0)).length : Int) < (lfK nt i (0)).length := by omega
      subst hi2e
      have hmore : ((lfK nt i (0)).take (lfK nt i (0)).length).filter (fun key => !decide (nt (pad3 (dg key i)) ≤ 1)) = lfK nt i (1) := by rw [List.take_length, lf_next]
      obtain ⟨fnd, hfnd⟩ : ∃ fnd, ((lfK nt i (0)).take (lfK nt i (0)).length).filter (fun key => decide (nt (pad3 (dg key i)) ≤ 1)) = fnd := ⟨_, rfl⟩
      have hfl1 : fnd.length ≤ 9 ^ i := by
        rw [← hfnd]
        have := List.length_filter_le (fun key => decide (nt (pad3 (dg key i)) ≤ 1)) ((lfK nt i (0)).take (lfK nt i (0)).length)
        rw [List.take_length] at this
        rw [List.take_length]; omega
      have hfm : ∀ x ∈ fnd, x < 9 ^ i := fun x hx => by
        rw [← hfnd] at hx
        exact (lf_mem (List.mem_of_mem_take (List.mem_filter.1 hx).1)).1
      have hB0 := stB_0 nt i (0)
      simp only [h4, nz_len, ints_len, ↓SP, SQ, Gam.add, stepM, callC, argC, lendO, nmBy, nmC, likeL, likeB, plainOb, offs, exL, X, F, trP, trO, stepD, stepW, newA, SV.tr, SV.trL, fz, allP, Ob.tr, loadA, cellsA, SV.cells, binA, binI, eqOut, isSl, isPt, natOf, callee, snap, SV.refsL, SV.refs, thaw, fzAll, loA, hiA, elemOf, partsA, buildA, putCells, ↓reduceIte, reduceCtorEq, okCell, Nat.reduceAdd, Nat.reduceEqDiff, Nat.reduceSub, Nat.reduceMul, Nat.reduceLeDiff, Nat.reduceLT, Nat.reduceBEq, PV.scal, PV.scalL, SV.scal, SV.scalL, Ob.scal, PV.isCell, pure', resO]
      refine hR4 _ _ _ (by intro h; cases h) ?_
      simp only [hmore, hfnd, ↓SP, SQ, Gam.add, stepM, callC, argC, lendO, nmBy, nmC, likeL, likeB, plainOb, offs, exL, X, F, trP, trO, stepD, stepW, newA, SV.tr, SV.trL, fz, allP, Ob.tr, loadA, cellsA, SV.cells, binA, binI, eqOut, isSl, isPt, natOf, callee, snap, SV.refsL, SV.refs, thaw, fzAll, loA, hiA, elemOf, partsA, buildA, putCells, ↓reduceIte, reduceCtorEq, okCell, Nat.reduceAdd, Nat.reduceEqDiff, Nat.reduceSub, Nat.reduceMul, Nat.reduceLeDiff, Nat.reduceLT, Nat.reduceBEq, PV.scal, PV.scalL, SV.scal, SV.scalL, Ob.scal, PV.isCell, pure', resO]
      refine loop_at (fun s : M => mkEnv [(0, si i), (2, .p .nilsl), (3, si ((9 ^ i : Nat) : Int)), (4, si i), (5, .ar 22), (6, .ar 23), (7, si ((9 ^ i : Nat) : Int)), (8, s.a), (9, si ((1 : Nat) : Int)), (10, .ar 51), (11, .ar 52), (12, si (lfK nt i (0)).length), (13, si s.i), (16, sb false), (26, sb false), (36, s.c), (41, s.d), (48, sb true), (56, sb false), (66, s.f), (84, s.g)]) (fun s => mkO [(22, some (.arr 1 (ints (stB nt i (0) (fnd.take s.i))))), (23, some (.arr 1 (ints (nz (lfK nt i 0))))), (44, s.o), (45, none), (51, some (.arr 1 (ints (nz fnd)))), (52, some (.arr 1 (ints (nz (lfK nt i (1)))))), (72, s.q), (73, none), (79, s.r), (80, none)]) (fun s => s.i ≤ fnd.length) (fun s => fnd.length - s.i) ⟨0, _, .junk, _, _, .junk, _, _, .junk, .junk, .junk, .junk, _, none, _, _, none⟩ (by simp) rfl (by simp only [List.take_zero, hB0]; try rfl) ?_
      rintro ⟨i3, wea, web, wec, wed, wee, wef, weg, weh, wek, wel, wem, weoo, weop, weoq, weor, weot⟩ hi3 R5 hR5 hN5
      simp only at hi3
      by_cases hlt : i3 < fnd.length
      · have h5 : (i3 : Int) < fnd.length := by omega
        have hwi := wrap_one (i := i3) (by omega)
        obtain ⟨key, hkey⟩ : ∃ key, fnd.getD i3 0 = key := ⟨_, rfl⟩
        have hkm := hfm key (by rw [← hkey, getD_lt hlt]; exact List.getElem_mem hlt)
        have hgk := nz_get hlt
        rw [hkey] at hgk
        have hk0 : (0 : Int) ≤ (key : Int) := by omega
        have hbl := stB_len nt i (0) (fnd.take i3)
        have hset := stB_one nt i (0) (fnd.take i3) key
        have ht1 := take_one fnd i3 0 hlt
        rw [hkey] at ht1
        rw [← ht1] at hset
        obtain ⟨e6, he6⟩ : ∃ e, (ints (stB nt i (0) (fnd.take i3)))[key]? = some e := ⟨_, List.getElem?_eq_getElem (by rw [ints_len, hbl]; exact hkm)⟩
        simp only [h5, hlt, hgk, hk0, hkm, hbl, hset, he6, hwi, nz_len, ints_len, ints_set, Int.toNat_natCast, ↓SP, SQ, Gam.add, stepM, callC, argC, lendO, nmBy, nmC, likeL, likeB, plainOb, offs, exL, X, F, trP, trO, stepD, stepW, newA, SV.tr, SV.trL, fz, allP, Ob.tr, loadA, cellsA, SV.cells, binA, binI, eqOut, isSl, isPt, natOf, callee, snap, SV.refsL, SV.refs, thaw, fzAll, loA, hiA, elemOf, partsA, buildA, putCells, ↓reduceIte, reduceCtorEq, okCell, Nat.reduceAdd, Nat.reduceEqDiff, Nat.reduceSub, Nat.reduceMul, Nat.reduceLeDiff, Nat.reduceLT, Nat.reduceBEq, PV.scal, PV.scalL, SV.scal, SV.scalL, Ob.scal, PV.isCell, pure', resO]
        exact hN5 ⟨i3 + 1, _, .junk, _, _, .junk, _, _, .junk, .junk, .junk, .junk, _, none, _, _, none⟩ _ _ (by simp only; omega) (by simp only; omega) rfl rfl
      have hi3e : i3 = fnd.length := by omega
      have h5 : ¬ (fnd.length : Int) < fnd.length := by omega
      subst hi3e
      have hend : stB nt i (0) (fnd.take fnd.length) = tabK nt i (1) := by
        rw [List.take_length, ← hfnd, List.take_length, stB_end]
      simp only [h5, nz_len, ints_len, ↓SP, SQ, Gam.add, stepM, callC, argC, lendO, nmBy, nmC, likeL, likeB, plainOb, offs, exL, X, F, trP, trO, stepD, stepW, newA, SV.tr, SV.trL, fz, allP, Ob.tr, loadA, cellsA, SV.cells, binA, binI, eqOut, isSl, isPt, natOf, callee, snap, SV.refsL, SV.refs, thaw, fzAll, loA, hiA, elemOf, partsA, buildA, putCells, ↓reduceIte, reduceCtorEq, okCell, Nat.reduceAdd, Nat.reduceEqDiff, Nat.reduceSub, Nat.reduceMul, Nat.reduceLeDiff, Nat.reduceLT, Nat.reduceBEq, PV.scal, PV.scalL, SV.scal, SV.scalL, Ob.scal, PV.isCell, pure', resO]
      refine hR5 _ _ _ (by intro h; cases h) ?_
      simp only [hend, hw, ↓SP, SQ, Gam.add, stepM, callC, argC, lendO, nmBy, nmC, likeL, likeB, plainOb, offs, exL, X, F, trP, trO, stepD, stepW, newA, SV.tr, SV.trL, fz, allP, Ob.tr, loadA, cellsA, SV.cells, binA, binI, eqOut, isSl, isPt, natOf, callee, snap, SV.refsL, SV.refs, thaw, fzAll, loA, hiA, elemOf, partsA, buildA, putCells, ↓reduceIte, reduceCtorEq, okCell, Nat.reduceAdd, Nat.reduceEqDiff, Nat.reduceSub, Nat.reduceMul, Nat.reduceLeDiff, Nat.reduceLT, Nat.reduceBEq, PV.scal, PV.scalL, SV.scal, SV.scalL, Ob.scal, PV.isCell, pure', resO]
      exact hN3 ⟨1, _, _, _, _, _, _, _, _, _, _, _, _, _, _, _, none⟩ _ _ (by simp only; omega) (by simp only; omega) rfl rfl
    | succ k =>
      simp only [h3', nz_len, ints_len, ↓SP, SQ, Gam.add, stepM, callC, argC, lendO, nmBy, nmC, likeL, likeB, plainOb, offs, exL, X, F, trP, trO, stepD, stepW, newA, SV.tr, SV.trL, fz, allP, Ob.tr, loadA, cellsA, SV.cells, binA, binI, eqOut, isSl, isPt, natOf, callee, snap, SV.refsL, SV.refs, thaw, fzAll, loA, hiA, elemOf, partsA, buildA, putCells, ↓reduceIte, reduceCtorEq, okCell, Nat.reduceAdd, Nat.reduceEqDiff, Nat.reduceSub, Nat.reduceMul, Nat.reduceLeDiff, Nat.reduceLT, Nat.reduceBEq, PV.scal, PV.scalL, SV.scal, SV.scalL, Ob.scal, PV.isCell, pure', resO]
      refine loop_at (fun s : M => mkEnv [(0, si i), (2, .p .nilsl), (3, si ((9 ^ i : Nat) : Int)), (4, si i), (5, .ar 22), (6, .p (.sl 1 (ints (nz (lfK nt i (k + 1)))))), (7, si ((9 ^ i : Nat) : Int)), (8, s.a), (9, si ((k + 1 + 1 : Nat) : Int)), (10, .ar 51), (11, .ar 52), (12, si s.i), (13, s.b), (16, sb false), (26, sb false), (36, s.c), (41, s.d), (48, sb true), (56, s.e), (66, s.f), (84, s.g)]) (fun s => mkO [(22, some (.arr 1 (ints (tabK nt i (k + 1))))), (23, some (.arr 1 (ints (nz (lfK nt i 0))))), (44, s.o), (45, none), (51, some (.arr 1 (ints (nz (((lfK nt i (k + 1)).take s.i).filter fun key => decide (nt (pad3 (dg key i)) ≤ (k + 1) + 1)))))), (52, some (.arr 1 (ints (nz (((lfK nt i (k + 1)).take s.i).filter fun key => !decide (nt (pad3 (dg key i)) ≤ (k + 1) + 1)))))), (72, s.q), (73, none), (79, s.r), (80, none)]) (fun s => s.i ≤ (lfK nt i (k + 1)).length) (fun s => (lfK nt i (k + 1)).length - s.i) ⟨0, _, _, _, _, _, _, _, .junk, .junk, .junk, .junk, _, none, _, _, none⟩ (by simp) rfl rfl ?_
      rintro ⟨i2, wda, wdb, wdc, wdd, wde, wdf, wdg, wdh, wdk, wdl, wdm, wdoo, wdop, wdoq, wdor, wdot⟩ hi2 R4 hR4 hN4
      simp only at hi2
      by_cases hlt : i2 < (lfK nt i (k + 1)).length
      · have h4 : (i2 : Int) < (lfK nt i (k + 1)).length := by omega
        have hi3 : i2 < (lfK nt i (k + 1)).length := hlt
        have hwi := wrap_one (i := i2) (by omega)
        obtain ⟨key, hkey⟩ : ∃ key, (lfK nt i (k + 1)).getD i2 0 = key := ⟨_, rfl⟩
        have hmem := lf_mem (nt := nt) (p := i) (k := k + 1) (key := key) (by rw [← hkey, getD_lt hlt]; exact List.getElem_mem hlt)
        have hgk := nz_get hlt
        rw [hkey] at hgk
        have hk0 : (0 : Int) ≤ (key : Int) := by omega
        have hk1 : (key : Int) ≤ 1000000 := by omega
        have hdl := dg_len key i
        have htold : told (dg key i) = false := by
          cases ht : told (dg key i) with
          | false => rfl
          | true => have := (zero_told hokB hmem.1 hmem.2.1).2 ht; omega
        have hokw := open_okw hp1 hp3 hmem.1 hmem.2.1 htold
        have htabl : (tabK nt i (k + 1)).length = 9 ^ i := tabK_len nt i (k + 1)
        have hwany := wi_any (k := k + 1) hokB hp3 hmem.1 hmem.2.1 htold
        have hq0 := take_one (lfK nt i (k + 1)) i2 0 hlt
        rw [hkey] at hq0
        by_cases hnt : nt (pad3 (dg key i)) ≤ (k + 1) + 1
        ·   skip
            rw [dec_t hnt] at hwany
            have hapx : (((lfK nt i (k + 1)).take i2).filter fun key => decide (nt (pad3 (dg key i)) ≤ (k + 1) + 1)) ++ [key] = ((lfK nt i (k + 1)).take (i2 + 1)).filter fun key => decide (nt (pad3 (dg key i)) ≤ (k + 1) + 1) := by
              rw [hq0, List.filter_append]; simp only [List.filter_cons, dec_t hnt, List.filter_nil, if_true]
            have hsm : ((lfK nt i (k + 1)).take (i2 + 1)).filter (fun key => !decide (nt (pad3 (dg key i)) ≤ (k + 1) + 1)) = ((lfK nt i (k + 1)).take i2).filter fun key => !decide (nt (pad3 (dg key i)) ≤ (k + 1) + 1) := by
              rw [hq0, List.filter_append]; simp only [List.filter_cons, dec_t hnt, Bool.not_true, List.filter_nil, Bool.false_eq_true, if_false, List.append_nil]
            have hfl : (((lfK nt i (k + 1)).take i2).filter fun key => decide (nt (pad3 (dg key i)) ≤ (k + 1) + 1)).length + 1 ≤ roomA := by
              have := List.length_filter_le (fun key => decide (nt (pad3 (dg key i)) ≤ (k + 1) + 1)) ((lfK nt i (k + 1)).take i2)
              rw [List.length_take] at this
              unfold roomA; omega
            simp only [h4, hi3, hgk, hk0, hk1, hpi0, hpi3, nz_len, ints_len, Int.toNat_natCast, isI_ints, ofI_ints, h_l4Counted, c_l4Counted, hwany, hokw, htabl, hdl, h_l4Within, c_l4Within, hwi, hapx, hfl, nz_app, ints_app1, ints_cell, ↓SP, SQ, Gam.add, stepM, callC, argC, lendO, nmBy, nmC, likeL, likeB, plainOb, offs, exL, X, F, trP, trO, stepD, stepW, newA, SV.tr, SV.trL, fz, allP, Ob.tr, loadA, cellsA, SV.cells, binA, binI, eqOut, isSl, isPt, natOf, callee, snap, SV.refsL, SV.refs, thaw, fzAll, loA, hiA, elemOf, partsA, buildA, putCells, ↓reduceIte, reduceCtorEq, okCell, Nat.reduceAdd, Nat.reduceEqDiff, Nat.reduceSub, Nat.reduceMul, Nat.reduceLeDiff, Nat.reduceLT, Nat.reduceBEq, PV.scal, PV.scalL, SV.scal, SV.scalL, Ob.scal, PV.isCell, pure', resO]
            exact hN4 ⟨i2 + 1, _, _, _, _, _, _, _, .junk, .junk, .junk, .junk, _, none, _, _, none⟩ _ _ (by simp only; omega) (by simp only; omega) rfl (by rw [hsm])
        ·   skip
            rw [dec_f hnt] at hwany
            have hapx : (((lfK nt i (k + 1)).take i2).filter fun key => !decide (nt (pad3 (dg key i)) ≤ (k + 1) + 1)) ++ [key] = ((lfK nt i (k + 1)).take (i2 + 1)).filter fun key => !decide (nt (pad3 (dg key i)) ≤ (k + 1) + 1) := by
              rw [hq0, List.filter_append]; simp only [List.filter_cons, dec_f hnt, Bool.not_false, List.filter_nil, if_true]
            have hsm : ((lfK nt i (k + 1)).take (i2 + 1)).filter (fun key => decide (nt (pad3 (dg key i)) ≤ (k + 1) + 1)) = ((lfK nt i (k + 1)).take i2).filter fun key => decide (nt (pad3 (dg key i)) ≤ (k + 1) + 1) := by
              rw [hq0, List.filter_append]; simp only [List.filter_cons, dec_f hnt, List.filter_nil, Bool.false_eq_true, if_false, List.append_nil]
            have hfl : (((lfK nt i (k + 1)).take i2).filter fun key => !decide (nt (pad3 (dg key i)) ≤ (k + 1) + 1)).length + 1 ≤ roomA := by
              have := List.length_filter_le (fun key => !decide (nt (pad3 (dg key i)) ≤ (k + 1) + 1)) ((lfK nt i (k + 1)).take i2)
              rw [List.length_take] at this
              unfold roomA; omega
            simp only [h4, hi3, hgk, hk0, hk1, hpi0, hpi3, nz_len, ints_len, Int.toNat_natCast, isI_ints, ofI_ints, h_l4Counted, c_l4Counted, hwany, hokw, htabl, hdl, h_l4Within, c_l4Within, hwi, hapx, hfl, nz_app, ints_app1, ints_cell, ↓SP, SQ, Gam.add, stepM, callC, argC, lendO, nmBy, nmC, likeL, likeB, plainOb, offs, exL, X, F, trP, trO, stepD, stepW, newA, SV.tr, SV.trL, fz, allP, Ob.tr, loadA, cellsA, SV.cells, binA, binI, eqOut, isSl, isPt, natOf, callee, snap, SV.refsL, SV.refs, thaw, fzAll, loA, hiA, elemOf, partsA, buildA, putCells, ↓reduceIte, reduceCtorEq, okCell, Nat.reduceAdd, Nat.reduceEqDiff, Nat.reduceSub, Nat.reduceMul, Nat.reduceLeDiff, Nat.reduceLT, Nat.reduceBEq, PV.scal, PV.scalL, SV.scal, SV.scalL, Ob.scal, PV.isCell, pure', resO]
            exact hN4 ⟨i2 + 1, _, _, _, _, _, _, _, .junk, .junk, .junk, .junk, _, none, _, _, none⟩ _ _ (by simp only; omega) (by simp only; omega) rfl (by rw [hsm])
      have hi2e : i2 = (lfK nt i (k + 1)).length := by omega
      have h4 : ¬ ((lfK nt i (k + 1)).length : Int) < (lfK nt i (k + 1)).length := by omega
      subst hi2e
      have hmore : ((lfK nt i (k + 1)).take (lfK nt i (k + 1)).length).filter (fun key => !decide (nt (pad3 (dg key i)) ≤ (k + 1) + 1)) = lfK nt i ((k + 1) + 1) := by rw [List.take_length, lf_next]
      obtain ⟨fnd, hfnd⟩ : ∃ fnd, ((lfK nt i (k + 1)).take (lfK nt i (k + 1)).length).filter (fun key => decide (nt (pad3 (dg key i)) ≤ (k + 1) + 1)) = fnd := ⟨_, rfl⟩
      have hfl1 : fnd.length ≤ 9 ^ i := by
        rw [← hfnd]
        have := List.length_filter_le (fun key => decide (nt (pad3 (dg key i)) ≤ (k + 1) + 1)) ((lfK nt i (k + 1)).take (lfK nt i (k + 1)).length)
        rw [List.take_length] at this
        rw [List.take_length]; omega
      have hfm : ∀ x ∈ fnd, x < 9 ^ i := fun x hx => by
        rw [← hfnd] at hx
        exact (lf_mem (List.mem_of_mem_take (List.mem_filter.1 hx).1)).1
      have hB0 := stB_0 nt i (k + 1)
      simp only [h4, nz_len, ints_len, ↓SP, SQ, Gam.add, stepM, callC, argC, lendO, nmBy, nmC, likeL, likeB, plainOb, offs, exL, X, F, trP, trO, stepD, stepW, newA, SV.tr, SV.trL, fz, allP, Ob.tr, loadA, cellsA, SV.cells, binA, binI, eqOut, isSl, isPt, natOf, callee, snap, SV.refsL, SV.refs, thaw, fzAll, loA, hiA, elemOf, partsA, buildA, putCells, ↓reduceIte, reduceCtorEq, okCell, Nat.reduceAdd, Nat.reduceEqDiff, Nat.reduceSub, Nat.reduceMul, Nat.reduceLeDiff, Nat.reduceLT, Nat.reduceBEq, PV.scal, PV.scalL, SV.scal, SV.scalL, Ob.scal, PV.isCell, pure', resO]
      refine hR4 _ _ _ (by intro h; cases h) ?_
      simp only [hmore, hfnd, ↓SP, SQ, Gam.add, stepM, callC, argC, lendO, nmBy, nmC, likeL, likeB, plainOb, offs, exL, X, F, trP, trO, stepD, stepW, newA, SV.tr, SV.trL, fz, allP, Ob.tr, loadA, cellsA, SV.cells, binA, binI, eqOut, isSl, isPt, natOf, callee, snap, SV.refsL, SV.refs, thaw, fzAll, loA, hiA, elemOf, partsA, buildA, putCells, ↓reduceIte, reduceCtorEq, okCell, Nat.reduceAdd, Nat.reduceEqDiff, Nat.reduceSub, Nat.reduceMul, Nat.reduceLeDiff, Nat.reduceLT, Nat.reduceBEq, PV.scal, PV.scalL, SV.scal, SV.scalL, Ob.scal, PV.isCell, pure', resO]
      refine loop_at (fun s : M => mkEnv [(0, si i), (2, .p .nilsl), (3, si ((9 ^ i : Nat) : Int)), (4, si i), (5, .ar 22), (6, .p (.sl 1 (ints (nz (lfK nt i (k + 1)))))), (7, si ((9 ^ i : Nat) : Int)), (8, s.a), (9, si ((k + 1 + 1 : Nat) : Int)), (10, .ar 51), (11, .ar 52), (12, si (lfK nt i (k + 1)).length), (13, si s.i), (16, sb false), (26, sb false), (36, s.c), (41, s.d), (48, sb true), (56, sb false), (66, s.f), (84, s.g)]) (fun s => mkO [(22, some (.arr 1 (ints (stB nt i (k + 1) (fnd.take s.i))))), (23, some (.arr 1 (ints (nz (lfK nt i 0))))), (44, s.o), (45, none), (51, some (.arr 1 (ints (nz fnd)))), (52, some (.arr 1 (ints (nz (lfK nt i ((k + 1) + 1)))))), (72, s.q), (73, none), (79, s.r), (80, none)]) (fun s => s.i ≤ fnd.length) (fun s => fnd.length - s.i) ⟨0, _, .junk, _, _, .junk, _, _, .junk, .junk, .junk, .junk, _, none, _, _, none⟩ (by simp) rfl (by simp only [List.take_zero, hB0]; try rfl) ?_
      rintro ⟨i3, wea, web, wec, wed, wee, wef, weg, weh, wek, wel, wem, weoo, weop, weoq, weor, weot⟩ hi3 R5 hR5 hN5
      simp only at hi3
      by_cases hlt : i3 < fnd.length
      · have h5 : (i3 : Int) < fnd.length := by omega
        have hwi := wrap_one (i := i3) (by omega)
        obtain ⟨key, hkey⟩ : ∃ key, fnd.getD i3 0 = key := ⟨_, rfl⟩
        have hkm := hfm key (by rw [← hkey, getD_lt hlt]; exact List.getElem_mem hlt)
        have hgk := nz_get hlt
        rw [hkey] at hgk
        have hk0 : (0 : Int) ≤ (key : Int) := by omega
        have hbl := stB_len nt i (k + 1) (fnd.take i3)
        have hset := stB_one nt i (k + 1) (fnd.take i3) key
        have ht1 := take_one fnd i3 0 hlt
        rw [hkey] at ht1
        rw [← ht1] at hset
        obtain ⟨e6, he6⟩ : ∃ e, (ints (stB nt i (k + 1) (fnd.take i3)))[key]? = some e := ⟨_, List.getElem?_eq_getElem (by rw [ints_len, hbl]; exact hkm)⟩
        simp only [h5, hlt, hgk, hk0, hkm, hbl, hset, he6, hwi, nz_len, ints_len, ints_set, Int.toNat_natCast, ↓SP, SQ, Gam.add, stepM, callC, argC, lendO, nmBy, nmC, likeL, likeB, plainOb, offs, exL, X, F, trP, trO, stepD, stepW, newA, SV.tr, SV.trL, fz, allP, Ob.tr, loadA, cellsA, SV.cells, binA, binI, eqOut, isSl, isPt, natOf, callee, snap, SV.refsL, SV.refs, thaw, fzAll, loA, hiA, elemOf, partsA, buildA, putCells, ↓reduceIte, reduceCtorEq, okCell, Nat.reduceAdd, Nat.reduceEqDiff, Nat.reduceSub, Nat.reduceMul, Nat.reduceLeDiff, Nat.reduceLT, Nat.reduceBEq, PV.scal, PV.scalL, SV.scal, SV.scalL, Ob.scal, PV.isCell, pure', resO]
        exact hN5 ⟨i3 + 1, _, .junk, _, _, .junk, _, _, .junk, .junk, .junk, .junk, _, none, _, _, none⟩ _ _ (by simp only; omega) (by simp only; omega) rfl rfl
      have hi3e : i3 = fnd.length := by omega
      have h5 : ¬ (fnd.length : Int) < fnd.length := by omega
      subst hi3e
      have hend : stB nt i (k + 1) (fnd.take fnd.length) = tabK nt i ((k + 1) + 1) := by
        rw [List.take_length, ← hfnd, List.take_length, stB_end]
      simp only [h5, nz_len, ints_len, ↓SP, SQ, Gam.add, stepM, callC, argC, lendO, nmBy, nmC, likeL, likeB, plainOb, offs, exL, X, F, trP, trO, stepD, stepW, newA, SV.tr, SV.trL, fz, allP, Ob.tr, loadA, cellsA, SV.cells, binA, binI, eqOut, isSl, isPt, natOf, callee, snap, SV.refsL, SV.refs, thaw, fzAll, loA, hiA, elemOf, partsA, buildA, putCells, ↓reduceIte, reduceCtorEq, okCell, Nat.reduceAdd, Nat.reduceEqDiff, Nat.reduceSub, Nat.reduceMul, Nat.reduceLeDiff, Nat.reduceLT, Nat.reduceBEq, PV.scal, PV.scalL, SV.scal, SV.scalL, Ob.scal, PV.isCell, pure', resO]
      refine hR5 _ _ _ (by intro h; cases h) ?_
      simp only [hend, hw, ↓SP, SQ, Gam.add, stepM, callC, argC, lendO, nmBy, nmC, likeL, likeB, plainOb, offs, exL, X, F, trP, trO, stepD, stepW, newA, SV.tr, SV.trL, fz, allP, Ob.tr, loadA, cellsA, SV.cells, binA, binI, eqOut, isSl, isPt, natOf, callee, snap, SV.refsL, SV.refs, thaw, fzAll, loA, hiA, elemOf, partsA, buildA, putCells, ↓reduceIte, reduceCtorEq, okCell, Nat.reduceAdd, Nat.reduceEqDiff, Nat.reduceSub, Nat.reduceMul, Nat.reduceLeDiff, Nat.reduceLT, Nat.reduceBEq, PV.scal, PV.scalL, SV.scal, SV.scalL, Ob.scal, PV.isCell, pure', resO]
      exact hN3 ⟨(k + 1) + 1, _, _, _, _, _, _, _, _, _, _, _, _, _, _, _, none⟩ _ _ (by simp only; omega) (by simp only; omega) rfl rfl
  have hnil : lfK nt i k = [] := List.length_eq_zero_iff.1 (by omega)
  have hl0 : (lfK nt i k).length = 0 := by omega
  have h00 : ¬ ((0 : Nat) : Int) > 0 := by omega
  have hdone := tab_done (R := 9) hnil hk
  cases k with
  | zero =>
    simp only [hl0, h00, nz_len, ints_len, ↓SP, SQ, Gam.add, stepM, callC, argC, lendO, nmBy, nmC, likeL, likeB, plainOb, offs, exL, X, F, trP, trO, stepD, stepW, newA, SV.tr, SV.trL, fz, allP, Ob.tr, loadA, cellsA, SV.cells, binA, binI, eqOut, isSl, isPt, natOf, callee, snap, SV.refsL, SV.refs, thaw, fzAll, loA, hiA, elemOf, partsA, buildA, putCells, ↓reduceIte, reduceCtorEq, okCell, Nat.reduceAdd, Nat.reduceEqDiff, Nat.reduceSub, Nat.reduceMul, Nat.reduceLeDiff, Nat.reduceLT, Nat.reduceBEq, PV.scal, PV.scalL, SV.scal, SV.scalL, Ob.scal, PV.isCell, pure', resO]
    refine hR3 _ _ _ (by intro h; cases h) ?_
    simp only [hdone, ↓SP, SQ, Gam.add, stepM, callC, argC, lendO, nmBy, nmC, likeL, likeB, plainOb, offs, exL, X, F, trP, trO, stepD, stepW, newA, SV.tr, SV.trL, fz, allP, Ob.tr, loadA, cellsA, SV.cells, binA, binI, eqOut, isSl, isPt, natOf, callee, snap, SV.refsL, SV.refs, thaw, fzAll, loA, hiA, elemOf, partsA, buildA, putCells, ↓reduceIte, reduceCtorEq, okCell, Nat.reduceAdd, Nat.reduceEqDiff, Nat.reduceSub, Nat.reduceMul, Nat.reduceLeDiff, Nat.reduceLT, Nat.reduceBEq, PV.scal, PV.scalL, SV.scal, SV.scalL, Ob.scal, PV.isCell, pure', resO]
    refine finA_gen [22] trivial (by simp [retA, rvA, mkE_cons, mk_nil, mkO_cons, mkO_nil, loadA, SV.tr, SV.trL, nmF, rn_nil, rn_cons1, rn_cons2, plainOb, SV.refsL, SV.refs, Ob.refs, X, F, List.range_succ, mkO, setO_mk]; rfl) ?_ ?_ ?_ ?_ ?_ ?_ ?_ <;> simp [retA, rvA, mkE_cons, mk_nil, mkO_cons, mkO_nil, loadA, SV.tr, SV.trL, nmF, rn_nil, rn_cons1, rn_cons2, plainOb, SV.refsL, SV.refs, Ob.refs, X, F, List.range_succ, mkO, setO_mk]
  | succ k =>
    simp only [hl0, h00, nz_len, ints_len, ↓SP, SQ, Gam.add, stepM, callC, argC, lendO, nmBy, nmC, likeL, likeB, plainOb, offs, exL, X, F, trP, trO, stepD, stepW, newA, SV.tr, SV.trL, fz, allP, Ob.tr, loadA, cellsA, SV.cells, binA, binI, eqOut, isSl, isPt, natOf, callee, snap, SV.refsL, SV.refs, thaw, fzAll, loA, hiA, elemOf, partsA, buildA, putCells, ↓reduceIte, reduceCtorEq, okCell, Nat.reduceAdd, Nat.reduceEqDiff, Nat.reduceSub, Nat.reduceMul, Nat.reduceLeDiff, Nat.reduceLT, Nat.reduceBEq, PV.scal, PV.scalL, SV.scal, SV.scalL, Ob.scal, PV.isCell, pure', resO]
    refine hR3 _ _ _ (by intro h; cases h) ?_
    simp only [hdone, ↓SP, SQ, Gam.add, stepM, callC, argC, lendO, nmBy, nmC, likeL, likeB, plainOb, offs, exL, X, F, trP, trO, stepD, stepW, newA, SV.tr, SV.trL, fz, allP, Ob.tr, loadA, cellsA, SV.cells, binA, binI, eqOut, isSl, isPt, natOf, callee, snap, SV.refsL, SV.refs, thaw, fzAll, loA, hiA, elemOf, partsA, buildA, putCells, ↓reduceIte, reduceCtorEq, okCell, Nat.reduceAdd, Nat.reduceEqDiff, Nat.reduceSub, Nat.reduceMul, Nat.reduceLeDiff, Nat.reduceLT, Nat.reduceBEq, PV.scal, PV.scalL, SV.scal, SV.scalL, Ob.scal, PV.isCell, pure', resO]
    refine finA_gen [22] trivial (by simp [retA, rvA, mkE_cons, mk_nil, mkO_cons, mkO_nil, loadA, SV.tr, SV.trL, nmF, rn_nil, rn_cons1, rn_cons2, plainOb, SV.refsL, SV.refs, Ob.refs, X, F, List.range_succ, mkO, setO_mk]; rfl) ?_ ?_ ?_ ?_ ?_ ?_ ?_ <;> simp [retA, rvA, mkE_cons, mk_nil, mkO_cons, mkO_nil, loadA, SV.tr, SV.trL, nmF, rn_nil, rn_cons1, rn_cons2, plainOb, SV.refsL, SV.refs, Ob.refs, X, F, List.range_succ, mkO, setO_mk]
def ntR (both : Bool) : List Int → Nat := if both = true then ntT tabB else ntT tabO
def ndI (both : Bool) (c : List Int) : Int := (ntR both (pad3 c) : Int)
theorem okC_pad {c : List Int} (h : okC c = true) : pad3 c ∈ allT := by
  obtain ⟨⟨h1, h3⟩, h8, hs⟩ := okC_out h
  rw [mem_allT]
  have q := in8_get h8
  match c, h1, h3 with
  | [a], _, _ =>
    have h0 := q 0
    simp at h0 hs
    simp [pad3, inT]; omega
  | [a, b], _, _ =>
    have h0 := q 0
    have h1 := q 1
    simp at h0 h1 hs
    simp [pad3, inT]; omega
  | [a, b, d], _, _ =>
    have h0 := q 0
    have h1 := q 1
    have h2 := q 2
    simp at h0 h1 h2 hs
    simp [pad3, inT]; omega
theorem eL_val {nt : List Int → Nat} : ∀ k, ∀ e ∈ eL nt k, 0 ≤ e.2 ∧ e.2 ≤ (k : Int)
  | 0, e, h => by
    simp only [eL, List.mem_map] at h
    obtain ⟨t, _, rfl⟩ := h
    simp
  | k + 1, e, h => by
    simp only [eL, List.mem_append, List.mem_map] at h
    rcases h with h | ⟨t, _, rfl⟩
    · have := eL_val k e h; omega
    · simp only; omega
theorem okE_nES (both : Bool) : okE (nES both) = true := by
  cases both
  · exact okE_ents (all3_eL _ _) fun e he => by have := eL_val 6 e he; omega
  · exact okE_ents (all3_eL _ _) fun e he => by have := eL_val 9 e he; omega
theorem ofE_nES (both : Bool) {c : List Int} (h : okC c = true) : ofE (nES both) c = ndI both c := by
  have hp := okC_pad h
  have hl := pad3_len (okC_out h).1.2
  cases both
  · simp only [nES, Bool.false_eq_true, if_false, ofE, look_ents hl (all3_eL _ _), lk_eL hp, if_pos (ntO.top _ hp), Option.map_some, ndI, ntR]
  · simp only [nES, if_true, ofE, look_ents hl (all3_eL _ _), lk_eL hp, if_pos (ntB.top _ hp), Option.map_some, ndI, ntR]
theorem tab_nd {c : List Int} (h : okC c = true) : (tabK (ntT tabB) c.length 9).getD (keyN c) 0 = ndI true c ∧ (tabK (ntT tabO) c.length 6).getD (keyN c) 0 = ndI false c := by
  have hp := okC_pad h
  obtain ⟨⟨h1, h3⟩, h8, hs⟩ := okC_out h
  rw [tabK_at rfl h3 h8 hs, tabK_at rfl h3 h8 hs, if_pos (ntB.top _ hp), if_pos (ntO.top _ hp)]
  exact ⟨rfl, rfl⟩
theorem neederOf_both {Γ1 : Gam} {g : FuncId} (h : Γ1 g = c_bothWays) : c_neederOf Γ1 [.p (.fn g [] [])] [] = some (.ag [.p (.fn g [] []), .p (.mapv (nES true))], [], []) := by simp [c_neederOf, pure', h]
theorem mem_spI {c : List Int} : ∀ {i : Nat} {s : List Int}, s.length = i → (∀ j, j < i → 0 ≤ s.getD j 0 ∧ s.getD j 0 ≤ c.getD j 0) → s ∈ spI c i
  | 0, s, hl, _ => by
    have : s = [] := List.length_eq_zero_iff.1 hl
    simp [spI, this]
  | i + 1, s, hl, h => by
    have h1 := take_one s i 0 (by omega)
    rw [List.take_of_length_le (by omega)] at h1
    have h2 : s.take i ∈ spI c i := mem_spI (by simp; omega) fun j hj => by
      have := h j (by omega)
      rw [List.getD_eq_getElem?_getD, List.getElem?_take, if_pos hj, ← List.getD_eq_getElem?_getD]; exact this
    have h3 := h i (by omega)
    simp only [spI, List.mem_flatMap, rowK, List.mem_map, List.mem_range]
    refine ⟨s.take i, h2, (s.getD i 0).toNat, by omega, ?_⟩
    have e : (((s.getD i 0).toNat : Nat) : Int) = s.getD i 0 := by omega
    rw [e]; exact h1.symm
theorem mem_spl {c s : List Int} (h : okSp c s = true) : s ∈ splL c := by
  obtain ⟨h1, h2⟩ := okSp_out h
  exact mem_spI h1 fun j _ => h2 j
/-- A split of counts that are not told leads to counts. -/
theorem sp_okC {c s : List Int} (hc : okC c = true) (hu : told c = false) (hs : s ∈ splL c) : okC (yesL c s) = true ∧ okC (noL c s) = true := by
  obtain ⟨⟨l1, l3⟩, h8, hsum⟩ := okC_out hc
  have hk := keyN_bd (p := c.length) rfl h8
  have hdg := dg_key (p := c.length) rfl l3 h8
  have hch := chk_of (okP_B l1 l3) hk.2 (by rw [hdg]; exact hsum) (by rw [hdg]; exact hu)
  rw [hdg] at hch
  have h2 := chk_inn hch hs
  have hsl := spl_len hs
  have hyl : (yesL c s).length = c.length := by rw [yesL_len, hsl]
  have hnl : (noL c s).length = c.length := by rw [noL_len, hsl]
  have hyb : yb true c s = yesL c s := rfl
  rw [hyb] at h2
  have e1 := pad_sum (c := yesL c s) (by omega) (mem_allT.1 h2.1)
  have e2 := pad_sum (c := noL c s) (by omega) (mem_allT.1 h2.2)
  constructor
  · simp only [okC, hyl, e1.1, dec_t e1.2, Bool.and_true]
    rw [dec_t (by omega), dec_t (by omega)]; rfl
  · simp only [okC, hnl, e2.1, dec_t e2.2, Bool.and_true]
    rw [dec_t (by omega), dec_t (by omega)]; rfl
def mxI (a b : Int) : Int := if a > b then a else b
theorem mxI_max (a b : Int) : (if b > a then b else a) = mxI a b := by
  simp only [mxI]
  by_cases h : b > a
  · rw [if_pos h, if_neg (by omega)]
  · rw [if_neg h]
    by_cases h2 : a > b
    · rw [if_pos h2]
    · rw [if_neg h2]; omega
def a_nSplit (f_nOf : FuncId) : AFn := ⟨3, 
  .seq (.reg [⟨some 3, none, .w (.box 2 (.t 0))⟩,
    ⟨some 6, none, .d (.mv (.c (.int .i64 0)))⟩])
  (.seq (.reg [⟨some 10, none, .d (.fa 0 (.t 3))⟩,
    ⟨some 11, none, .d (.load false 1 (.t 10))⟩,
    ⟨some 12, none, .d (.mv (.t 1))⟩,
    ⟨some 13, none, .d (.mv (.t 2))⟩,
    ⟨some 14, none, .d (.call (.t 11) [(.t 12), (.t 13)])⟩,
    ⟨some 9, none, .d (.mv (.t 14))⟩,
    ⟨some 15, none, .d (.extract (.t 9) 0)⟩,
    ⟨some 16, none, .d (.extract (.t 9) 1)⟩,
    ⟨some 7, none, .d (.mv (.t 15))⟩,
    ⟨some 8, none, .d (.mv (.t 16))⟩])
  (.seq (.dreg [] [([], ⟨some 17, none, .d (.load true 2 (.t 3))⟩),
    ([], ⟨some 18, none, .d (.mv (.t 7))⟩),
    ([], ⟨some 19, none, .d (.call (.f f_nOf) [(.t 17), (.t 18)])⟩),
    ([], ⟨some 20, none, .d (.load true 2 (.t 3))⟩),
    ([], ⟨some 21, none, .d (.mv (.t 8))⟩)] [⟨some 22, none, .d (.call (.f f_nOf) [(.t 20), (.t 21)])⟩,
    ⟨some 23, none, .d (.max2 (.t 19) (.t 22))⟩,
    ⟨some 24, none, .d (.bin .arith .add (.c (.int .i64 1)) (.t 23))⟩,
    ⟨some 6, none, .d (.mv (.t 24))⟩])
  (.ret))), [.tmp 6]⟩
def n_nSplit : Nat → Option Ann := fun _ => none
abbrev k_nSplit : List Nat := [0, 1, 2, 3, 6, 7, 8]
abbrev o_nSplit : List Nat := [3]
open Classical in
noncomputable def c_nSplit (Γ0 : Gam) : Con := pure' fun
  | [.p (.agg [.fn g [] [], .mapv es]), .p (.sl 1 c_), .p (.sl 1 s_)] =>
    if (Γ0 g = c_bothWays ∨ Γ0 g = c_oneWay) ∧ okE es = true ∧ isI c_ = true ∧ isI s_ = true ∧ 1 ≤ c_.length ∧ c_.length ≤ 3 ∧ s_.length = c_.length ∧ bd 1000 (ofI c_) = true ∧ bd 1000 (ofI s_) = true then
      some (.p (.int .i64 (1 + mxI (ofE es (ruleY Γ0 g (ofI c_) (ofI s_))) (ofE es (noL (ofI c_) (ofI s_))))), [])
    else none
  | _ => none
theorem s_nSplit {P : Program} (hm : P.follows .mixedOrders = true) {Γ : Gam} (hΓ : GS P Γ) {n : FuncId} {f_nOf : FuncId} (is : Is P n (a_nSplit f_nOf)) (h_nOf : Γ f_nOf = c_nOf)  : Says P n (c_nSplit Γ) := by
  refine Says.pure fun args r fs h => ?_
  split at h
  case h_2 => cases h
  rename_i g es c_ s_
  split at h
  case isFalse => cases h
  rename_i hc
  obtain ⟨hg, hok, hc_, hs_, l1, l3, hsl, hb1, hb2⟩ := hc
  obtain ⟨c, rfl⟩ := isI_out hc_
  obtain ⟨s, rfl⟩ := isI_out hs_
  rw [ints_len] at l1 l3
  rw [ints_len, ints_len] at hsl
  simp only [ofI_ints] at hb1 hb2
  simp only [ofI_ints, Option.some.injEq, Prod.mk.injEq] at h
  obtain ⟨rfl, rfl⟩ := h
  have hcl : c.length ≤ 1100000 := by omega
  have hyl : (yesL c s).length = c.length := by rw [yesL_len, hsl]
  have hnl : (noL c s).length = c.length := by rw [noL_len, hsl]
  have y1 : 1 ≤ (yesL c s).length := by omega
  have y3 : (yesL c s).length ≤ 3 := by omega
  have n1 : 1 ≤ (noL c s).length := by omega
  have n3 : (noL c s).length ≤ 3 := by omega
  have s1 : 1 ≤ s.length := by omega
  have s3 : s.length ≤ 3 := by omega
  have bn := ofE_bd hok n3
  have key : ∀ a b : Int, -1000 ≤ a → a ≤ 1000 → -1000 ≤ b → b ≤ 1000 → IntKind.i64.wrap (1 + (if b > a then b else a)) = 1 + mxI a b := fun a b h1 h2 h3 h4 => by
    rw [mxI_max]
    refine wrap64 ?_ ?_ <;> (simp only [mxI]; split <;> omega)
  rcases hg with hg | hg
  · rw [ruleY_both hg]
    have by' := ofE_bd hok y3
    have hw := key _ _ by'.1 by'.2 bn.1 bn.2
    refine is.go hm hΓ k_nSplit o_nSplit (by simp [a_nSplit]) ?_
    simp only [a_nSplit, h_nOf, c_nOf, hg, c_bothWays, hcl, l1, hsl, hb1, hb2, hok, y1, y3, n1, n3, hw, isI_ints, ofI_ints, ints_len, List.zipIdx_cons, List.zipIdx_nil, ↓SP, SQ, Gam.add, stepM, callC, argC, lendO, nmBy, nmC, likeL, likeB, plainOb, offs, exL, X, F, trP, trO, stepD, stepW, newA, SV.tr, SV.trL, fz, allP, Ob.tr, loadA, cellsA, SV.cells, binA, binI, eqOut, isSl, isPt, natOf, callee, snap, SV.refsL, SV.refs, thaw, fzAll, loA, hiA, elemOf, partsA, buildA, putCells, ↓reduceIte, reduceCtorEq, okCell, Nat.reduceAdd, Nat.reduceEqDiff, Nat.reduceSub, Nat.reduceMul, Nat.reduceLeDiff, Nat.reduceLT, Nat.reduceBEq, PV.scal, PV.scalL, SV.scal, SV.scalL, Ob.scal, PV.isCell, pure', resO]
    exact finA_val (by simp [retA, rvA, mkE_cons, mk_nil, mkO_cons, mkO_nil, loadA, SV.tr, SV.trL, nmF, rn_nil, rn_cons1, rn_cons2, plainOb, SV.refsL, SV.refs, Ob.refs, X, F, List.range_succ, mkO, setO_mk]) (by simp [SV.tr, SV.trL])
  · rw [ruleY_one hg]
    have bs := ofE_bd hok s3
    have hw := key _ _ bs.1 bs.2 bn.1 bn.2
    refine is.go hm hΓ k_nSplit o_nSplit (by simp [a_nSplit]) ?_
    simp only [a_nSplit, h_nOf, c_nOf, hg, c_oneWay, hcl, l1, l3, hsl, hb1, hb2, hok, s1, s3, n1, n3, hw, isI_ints, ofI_ints, ints_len, List.zipIdx_cons, List.zipIdx_nil, ↓SP, SQ, Gam.add, stepM, callC, argC, lendO, nmBy, nmC, likeL, likeB, plainOb, offs, exL, X, F, trP, trO, stepD, stepW, newA, SV.tr, SV.trL, fz, allP, Ob.tr, loadA, cellsA, SV.cells, binA, binI, eqOut, isSl, isPt, natOf, callee, snap, SV.refsL, SV.refs, thaw, fzAll, loA, hiA, elemOf, partsA, buildA, putCells, ↓reduceIte, reduceCtorEq, okCell, Nat.reduceAdd, Nat.reduceEqDiff, Nat.reduceSub, Nat.reduceMul, Nat.reduceLeDiff, Nat.reduceLT, Nat.reduceBEq, PV.scal, PV.scalL, SV.scal, SV.scalL, Ob.scal, PV.isCell, pure', resO]
    exact finA_val (by simp [retA, rvA, mkE_cons, mk_nil, mkO_cons, mkO_nil, loadA, SV.tr, SV.trL, nmF, rn_nil, rn_cons1, rn_cons2, plainOb, SV.refsL, SV.refs, Ob.refs, X, F, List.range_succ, mkO, setO_mk]) (by simp [SV.tr, SV.trL])
/-- Whether a split leads back. -/
def backB (c s : List Int) : Bool := decide (yesL c s = c) || decide (noL c s = c)
def snV (c s : List Int) : Int := 1 + mxI (ndI true (yesL c s)) (ndI true (noL c s))
def a_l4SplitNeed (f_l4Yes : FuncId) (f_l4No : FuncId) (f_eqIntS : FuncId) (f_l4Key : FuncId) (f_l1Most : FuncId) : AFn := ⟨3, 
  .seq (.reg [⟨some 6, none, .d (.mv (.c (.int .i64 0)))⟩])
  (.seq (.reg [⟨some 9, none, .d (.mv (.t 0))⟩,
    ⟨some 10, none, .d (.mv (.t 1))⟩,
    ⟨some 11, none, .d (.call (.f f_l4Yes) [(.t 9), (.t 10)])⟩,
    ⟨some 12, none, .d (.mv (.t 0))⟩,
    ⟨some 13, none, .d (.mv (.t 1))⟩,
    ⟨some 14, none, .d (.call (.f f_l4No) [(.t 12), (.t 13)])⟩,
    ⟨some 7, none, .d (.mv (.t 11))⟩,
    ⟨some 8, none, .d (.mv (.t 14))⟩])
  (.seq (.seq (.reg [⟨some 15, none, .d (.mv (.t 7))⟩,
    ⟨some 16, none, .d (.mv (.t 0))⟩,
    ⟨some 17, none, .d (.call (.f f_eqIntS) [(.t 15), (.t 16)])⟩,
    ⟨some 18, none, .d (.mv (.t 17))⟩,
    ⟨some 19, some (18, false), .d (.mv (.t 8))⟩,
    ⟨some 20, some (18, false), .d (.mv (.t 0))⟩,
    ⟨some 21, some (18, false), .d (.call (.f f_eqIntS) [(.t 19), (.t 20)])⟩,
    ⟨some 22, none, .d (.pick (.t 18) (.c (.bool true)) (.t 21))⟩])
  (.cond (.t 22) (.seq (.reg [⟨some 6, none, .d (.mv (.c (.int .i64 (-1))))⟩])
   (.ret)) (.skip)))
  (.seq (.dreg [] [([], ⟨some 23, none, .d (.mv (.t 2))⟩),
    ([], ⟨some 24, none, .d (.mv (.t 7))⟩),
    ([], ⟨some 25, none, .d (.call (.f f_l4Key) [(.t 24)])⟩),
    ([], ⟨some 26, none, .d (.ia 1 (.t 23) (.t 25))⟩),
    ([], ⟨some 27, none, .d (.load false 1 (.t 26))⟩),
    ([], ⟨some 28, none, .d (.mv (.t 2))⟩),
    ([], ⟨some 29, none, .d (.mv (.t 8))⟩),
    ([], ⟨some 30, none, .d (.call (.f f_l4Key) [(.t 29)])⟩),
    ([], ⟨some 31, none, .d (.ia 1 (.t 28) (.t 30))⟩),
    ([], ⟨some 32, none, .d (.load false 1 (.t 31))⟩)] [⟨some 33, none, .d (.call (.f f_l1Most) [(.t 27), (.t 32)])⟩,
    ⟨some 34, none, .d (.bin .arith .add (.c (.int .i64 1)) (.t 33))⟩,
    ⟨some 6, none, .d (.mv (.t 34))⟩])
  (.ret)))), [.tmp 6]⟩
def n_l4SplitNeed : Nat → Option Ann := fun _ => none
abbrev k_l4SplitNeed : List Nat := [0, 1, 2, 6, 7, 8, 22]
abbrev o_l4SplitNeed : List Nat := []
/-- The need of a split by a table. -/
def c_l4SplitNeed : Con := pure' fun
  | [.p (.sl 1 c_), .p (.sl 1 s_), .p (.sl 1 tab_)] => if isI c_ = true ∧ isI s_ = true ∧ isI tab_ = true ∧ (isOKw (ofI c_) = true ∧ (ofI s_) ∈ splL (ofI c_) ∧ (ofI tab_).length = 9 ^ (ofI c_).length ∧ bd 1000 (ofI tab_) = true) then some (.p (.int .i64 (if backB (ofI c_) (ofI s_) = true then -1 else 1 + mxI ((ofI tab_).getD (keyN (yesL (ofI c_) (ofI s_))) 0) ((ofI tab_).getD (keyN (noL (ofI c_) (ofI s_))) 0))), []) else none
  | _ => none
theorem s_l4SplitNeed {P : Program} (hm : P.follows .mixedOrders = true) {Γ : Gam} (hΓ : GS P Γ) {n : FuncId} {f_l4Yes : FuncId} {f_l4No : FuncId} {f_eqIntS : FuncId} {f_l4Key : FuncId} {f_l1Most : FuncId} (is : Is P n (a_l4SplitNeed f_l4Yes f_l4No f_eqIntS f_l4Key f_l1Most)) (h_l4Yes : Γ f_l4Yes = c_l4Yes) (h_l4No : Γ f_l4No = c_l4No) (h_eqIntS : Γ f_eqIntS = c_eqIntS) (h_l4Key : Γ f_l4Key = c_l4Key) (h_l1Most : Γ f_l1Most = c_l1Most)  : Says P n c_l4SplitNeed := by
  refine Says.pure fun args r fs h => ?_
  split at h
  case h_2 => cases h
  rename_i c_ s_ tab_
  split at h
  case isFalse => cases h
  rename_i hc
  obtain ⟨hc_, hc⟩ := hc
  obtain ⟨c, rfl⟩ := isI_out hc_
  obtain ⟨hs_, hc⟩ := hc
  obtain ⟨s, rfl⟩ := isI_out hs_
  obtain ⟨htab_, hc⟩ := hc
  obtain ⟨tab, rfl⟩ := isI_out htab_
  simp only [ofI_ints, ofBo_bools, ofAs_asks, Option.some.injEq, Prod.mk.injEq] at h hc
  obtain ⟨rfl, rfl⟩ := h
  obtain ⟨hok, hsm, htl, hbt⟩ := hc
  obtain ⟨h1l, hl3, h8, hin⟩ := isOKw_out hok
  have hp := pow9 hl3
  have hcl : c.length ≤ 1100000 := by omega
  have hslen := spl_len hsm
  have hs8 := spl_in8 h8 hsm
  have hb3 : bd 1000 c = true := bd_in8 h8 (by omega)
  have hb4 : bd 10000 c = true := bd_in8 h8 (by omega)
  have hbs3 : bd 1000 s = true := bd_in8 hs8 (by omega)
  have hbs4 : bd 10000 s = true := bd_in8 hs8 (by omega)
  obtain ⟨hy8, hn8⟩ := hin s hsm
  have hyl : (yesL c s).length = c.length := by rw [yesL_len, hslen]
  have hnl : (noL c s).length = c.length := by rw [noL_len, hslen]
  have hyl3 : (yesL c s).length ≤ 3 := by omega
  have hnl3 : (noL c s).length ≤ 3 := by omega
  have hylb : (yesL c s).length ≤ 1100000 := by omega
  have hnlb : (noL c s).length ≤ 1100000 := by omega
  obtain ⟨y0, y1⟩ := keyN_bd (p := c.length) hyl hy8
  obtain ⟨n0, n1⟩ := keyN_bd (p := c.length) hnl hn8
  have hgy := ints_get (l := tab) (i := keyN (yesL c s)) (by omega)
  have hgn := ints_get (l := tab) (i := keyN (noL c s)) (by omega)
  have ey : (keyL (yesL c s)).toNat = keyN (yesL c s) := rfl
  have en : (keyL (noL c s)).toNat = keyN (noL c s) := rfl
  have b1 := bd_get hbt (by omega) (keyN (yesL c s))
  have b2 := bd_get hbt (by omega) (keyN (noL c s))
  have hmx : ∀ a b : Int, (if a > b then a else b) = mxI a b := fun _ _ => rfl
  have hw : IntKind.i64.wrap (1 + mxI (tab.getD (keyN (yesL c s)) 0) (tab.getD (keyN (noL c s)) 0)) = 1 + mxI (tab.getD (keyN (yesL c s)) 0) (tab.getD (keyN (noL c s)) 0) := by
    refine wrap64 ?_ ?_ <;> (simp only [mxI]; split <;> omega)
  by_cases e1 : yesL c s = c
  · have hd := dec_t e1
    refine is.go hm hΓ k_l4SplitNeed o_l4SplitNeed (by simp [a_l4SplitNeed]) ?_
    simp only [a_l4SplitNeed, h_l4Yes, c_l4Yes, h_l4No, c_l4No, h_eqIntS, c_eqIntS, h_l4Key, c_l4Key, h_l1Most, c_l1Most, hcl, h1l, hslen, hb3, hb4, hbs3, hbs4, hylb, hnlb, hd, slI_sl, isI_ints, ofI_ints, ints_len, List.zipIdx_cons, List.zipIdx_nil, ↓SP, SQ, Gam.add, stepM, callC, argC, lendO, nmBy, nmC, likeL, likeB, plainOb, offs, exL, X, F, trP, trO, stepD, stepW, newA, SV.tr, SV.trL, fz, allP, Ob.tr, loadA, cellsA, SV.cells, binA, binI, eqOut, isSl, isPt, natOf, callee, snap, SV.refsL, SV.refs, thaw, fzAll, loA, hiA, elemOf, partsA, buildA, putCells, ↓reduceIte, reduceCtorEq, okCell, Nat.reduceAdd, Nat.reduceEqDiff, Nat.reduceSub, Nat.reduceMul, Nat.reduceLeDiff, Nat.reduceLT, Nat.reduceBEq, PV.scal, PV.scalL, SV.scal, SV.scalL, Ob.scal, PV.isCell, pure', resO]
    exact finA_val (by simp [backB, hd, retA, rvA, mkE_cons, mk_nil, mkO_cons, mkO_nil, loadA, SV.tr, SV.trL, nmF, rn_nil, rn_cons1, rn_cons2, plainOb, SV.refsL, SV.refs, Ob.refs, X, F, List.range_succ, mkO, setO_mk]) (by simp [SV.tr, SV.trL])
  · have hd := dec_f e1
    by_cases e2 : noL c s = c
    · have hd2 := dec_t e2
      refine is.go hm hΓ k_l4SplitNeed o_l4SplitNeed (by simp [a_l4SplitNeed]) ?_
      simp only [a_l4SplitNeed, h_l4Yes, c_l4Yes, h_l4No, c_l4No, h_eqIntS, c_eqIntS, h_l4Key, c_l4Key, h_l1Most, c_l1Most, hcl, h1l, hslen, hb3, hb4, hbs3, hbs4, hylb, hnlb, hd, hd2, slI_sl, isI_ints, ofI_ints, ints_len, List.zipIdx_cons, List.zipIdx_nil, ↓SP, SQ, Gam.add, stepM, callC, argC, lendO, nmBy, nmC, likeL, likeB, plainOb, offs, exL, X, F, trP, trO, stepD, stepW, newA, SV.tr, SV.trL, fz, allP, Ob.tr, loadA, cellsA, SV.cells, binA, binI, eqOut, isSl, isPt, natOf, callee, snap, SV.refsL, SV.refs, thaw, fzAll, loA, hiA, elemOf, partsA, buildA, putCells, ↓reduceIte, reduceCtorEq, okCell, Nat.reduceAdd, Nat.reduceEqDiff, Nat.reduceSub, Nat.reduceMul, Nat.reduceLeDiff, Nat.reduceLT, Nat.reduceBEq, PV.scal, PV.scalL, SV.scal, SV.scalL, Ob.scal, PV.isCell, pure', resO]
      exact finA_val (by simp [backB, hd, hd2, retA, rvA, mkE_cons, mk_nil, mkO_cons, mkO_nil, loadA, SV.tr, SV.trL, nmF, rn_nil, rn_cons1, rn_cons2, plainOb, SV.refsL, SV.refs, Ob.refs, X, F, List.range_succ, mkO, setO_mk]) (by simp [SV.tr, SV.trL])
    · have hd2 := dec_f e2
      refine is.go hm hΓ k_l4SplitNeed o_l4SplitNeed (by simp [a_l4SplitNeed]) ?_
      simp only [a_l4SplitNeed, h_l4Yes, c_l4Yes, h_l4No, c_l4No, h_eqIntS, c_eqIntS, h_l4Key, c_l4Key, h_l1Most, c_l1Most, hcl, h1l, hslen, hb3, hb4, hbs3, hbs4, hylb, hnlb, hyl3, hnl3, hy8, hn8, y0, n0, ey, en, hgy, hgn, hd, hd2, hmx, hw, slI_sl, isI_ints, ofI_ints, ints_len, List.zipIdx_cons, List.zipIdx_nil, ↓SP, SQ, Gam.add, stepM, callC, argC, lendO, nmBy, nmC, likeL, likeB, plainOb, offs, exL, X, F, trP, trO, stepD, stepW, newA, SV.tr, SV.trL, fz, allP, Ob.tr, loadA, cellsA, SV.cells, binA, binI, eqOut, isSl, isPt, natOf, callee, snap, SV.refsL, SV.refs, thaw, fzAll, loA, hiA, elemOf, partsA, buildA, putCells, ↓reduceIte, reduceCtorEq, okCell, Nat.reduceAdd, Nat.reduceEqDiff, Nat.reduceSub, Nat.reduceMul, Nat.reduceLeDiff, Nat.reduceLT, Nat.reduceBEq, PV.scal, PV.scalL, SV.scal, SV.scalL, Ob.scal, PV.isCell, pure', resO]
      exact finA_val (by simp [backB, hd, hd2, retA, rvA, mkE_cons, mk_nil, mkO_cons, mkO_nil, loadA, SV.tr, SV.trL, nmF, rn_nil, rn_cons1, rn_cons2, plainOb, SV.refsL, SV.refs, Ob.refs, X, F, List.range_succ, mkO, setO_mk]) (by simp [SV.tr, SV.trL])
theorem okw_of {c : List Int} (hc : okC c = true) (hu : told c = false) : isOKw c = true := by
  obtain ⟨⟨l1, l3⟩, h8, hsum⟩ := okC_out hc
  have hk := keyN_bd (p := c.length) rfl h8
  have hdg := dg_key (p := c.length) rfl l3 h8
  have := open_okw l1 l3 hk.2 (by rw [hdg]; exact hsum) (by rw [hdg]; exact hu)
  rwa [hdg] at this
theorem tabK_bd {nt : List Int → Nat} {p k : Nat} (hk : k ≤ 1000) : bd 1000 (tabK nt p k) = true := by
  refine bd_of fun j hj => ?_
  rw [tabK_len] at hj
  rw [tabK_get hj, valK]
  split
  · rename_i h; omega
  · omega
theorem tab_yn {c s : List Int} (hc : okC c = true) (hu : told c = false) (hs : s ∈ splL c) : (tabK (ntT tabB) c.length 9).getD (keyN (yesL c s)) 0 = ndI true (yesL c s) ∧ (tabK (ntT tabB) c.length 9).getD (keyN (noL c s)) 0 = ndI true (noL c s) := by
  obtain ⟨h1, h2⟩ := sp_okC hc hu hs
  have hsl := spl_len hs
  have e1 := (tab_nd h1).1
  have e2 := (tab_nd h2).1
  rw [yesL_len, hsl] at e1
  rw [noL_len, hsl] at e2
  exact ⟨e1, e2⟩
end Go.Proofs.Ytihpfhdkjlphhaa.Pam
