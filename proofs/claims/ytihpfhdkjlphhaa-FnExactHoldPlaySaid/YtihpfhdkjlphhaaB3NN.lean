/- A part of the proof that stands in this folder: a small machine whose steps are shown to be the steps of the model, or walks of functions by it. No condition of its own. -/
import Derived.Test.YtihpfhdkjlphhaaB3ML
set_option linter.unusedVariables false
set_option linter.unusedSimpArgs false
namespace Go.Proofs.Ytihpfhdkjlphhaa.Pam
open Go
structure M where
  i : Nat
  a : SV
  b : SV
  c : SV
  d : SV
  e : SV
  f : SV
  g : SV
  h : SV
  k : SV
  l : SV
  m : SV
  o : Option Ob
  p : Option Ob
  q : Option Ob
  r : Option Ob
  t : Option Ob
def a_l4Needs (f_l4Counted : FuncId) (f_l4Told : FuncId) (f_l4Counts : FuncId) (f_l4Within : FuncId) : AFn := ⟨1, 
  .seq (.reg [⟨some 2, none, .d (.mv (.c (.nilsl)))⟩])
  (.seq (.reg [⟨some 3, none, .d (.mv (.c (.int .i64 1)))⟩])
  (.seq (.seq (.reg [⟨some 4, none, .d (.mv (.c (.int .i64 0)))⟩])
  (.block 0 (.loop (.seq (.seq (.reg [⟨some 14, none, .d (.mv (.t 4))⟩,
      ⟨some 15, none, .d (.mv (.t 0))⟩,
      ⟨some 16, none, .d (.bin .arith .lss (.t 14) (.t 15))⟩])
    (.cond (.t 16) (.skip) (.exit 0)))
    (.seq (.block 1 (.reg [⟨some 19, none, .d (.mv (.t 3))⟩,
       ⟨some 20, none, .d (.bin .arith .mul (.t 19) (.c (.int .i64 9)))⟩,
       ⟨some 3, none, .d (.mv (.t 20))⟩]))
    (.reg [⟨some 17, none, .d (.mv (.t 4))⟩,
      ⟨some 18, none, .d (.bin .arith .add (.t 17) (.c (.int .i64 1)))⟩,
      ⟨some 4, none, .d (.mv (.t 18))⟩]))))))
  (.seq (.reg [⟨some 21, none, .d (.mv (.t 3))⟩,
    ⟨some 22, none, .w (.mkslice 1 (.int .i64 0) (.t 21))⟩,
    ⟨some 23, none, .w (.bslice 1 [] [])⟩,
    ⟨some 5, none, .d (.mv (.t 22))⟩,
    ⟨some 6, none, .d (.mv (.t 23))⟩])
  (.seq (.seq (.reg [⟨some 7, none, .d (.mv (.c (.int .i64 0)))⟩])
  (.block 2 (.loop (.seq (.seq (.reg [⟨some 24, none, .d (.mv (.t 7))⟩,
      ⟨some 25, none, .d (.mv (.t 3))⟩,
      ⟨some 26, none, .d (.bin .arith .lss (.t 24) (.t 25))⟩])
    (.cond (.t 26) (.skip) (.exit 2)))
    (.seq (.block 3 (.seq (.reg [⟨some 29, none, .d (.mv (.t 5))⟩,
       ⟨some 30, none, .d (.mv (.t 7))⟩,
       ⟨some 31, none, .d (.ia 1 (.t 29) (.t 30))⟩,
       ⟨none, none, .w (.store 1 (.t 31) (.c (.int .i64 (-1))))⟩])
     (.seq (.reg [⟨some 32, none, .d (.mv (.t 7))⟩,
       ⟨some 33, none, .d (.mv (.t 0))⟩,
       ⟨some 34, none, .d (.call (.f f_l4Counted) [(.t 32), (.t 33)])⟩,
       ⟨some 8, none, .d (.mv (.t 34))⟩])
     (.seq (.reg [⟨some 35, none, .d (.mv (.t 8))⟩,
       ⟨some 36, none, .d (.call (.f f_l4Told) [(.t 35)])⟩])
     (.cond (.t 36) (.reg [⟨some 37, none, .d (.mv (.t 5))⟩,
        ⟨some 38, none, .d (.mv (.t 7))⟩,
        ⟨some 39, none, .d (.ia 1 (.t 37) (.t 38))⟩,
        ⟨none, none, .w (.store 1 (.t 39) (.c (.int .i64 0)))⟩]) (.seq (.reg [⟨some 40, none, .d (.mv (.t 8))⟩,
        ⟨some 41, none, .d (.call (.f f_l4Counts) [(.t 40)])⟩])
      (.cond (.t 41) (.reg [⟨some 42, none, .d (.mv (.t 6))⟩,
         ⟨some 43, none, .d (.mv (.t 7))⟩,
         ⟨some 44, none, .w (.bslice 1 [.int .i64 0] [(0, (.t 43))])⟩,
         ⟨some 45, none, .w (.append 1 (.t 42) (.t 44))⟩,
         ⟨some 6, none, .d (.mv (.t 45))⟩]) (.skip))))))))
    (.reg [⟨some 27, none, .d (.mv (.t 7))⟩,
      ⟨some 28, none, .d (.bin .arith .add (.t 27) (.c (.int .i64 1)))⟩,
      ⟨some 7, none, .d (.mv (.t 28))⟩]))))))
  (.seq (.seq (.reg [⟨some 9, none, .d (.mv (.c (.int .i64 1)))⟩])
  (.block 4 (.loop (.seq (.seq (.reg [⟨some 46, none, .d (.mv (.t 6))⟩,
      ⟨some 47, none, .d (.len (.t 46))⟩,
      ⟨some 48, none, .d (.bin .arith .gtr (.t 47) (.c (.int .i64 0)))⟩])
    (.cond (.t 48) (.skip) (.exit 4)))
    (.seq (.block 5 (.seq (.reg [⟨some 51, none, .w (.bslice 1 [] [])⟩,
       ⟨some 52, none, .w (.bslice 1 [] [])⟩,
       ⟨some 10, none, .d (.mv (.t 51))⟩,
       ⟨some 11, none, .d (.mv (.t 52))⟩])
     (.seq (.seq (.reg [⟨some 12, none, .d (.mv (.c (.int .i64 0)))⟩])
     (.block 6 (.loop (.seq (.seq (.reg [⟨some 53, none, .d (.mv (.t 12))⟩,
         ⟨some 54, none, .d (.mv (.t 6))⟩,
         ⟨some 55, none, .d (.len (.t 54))⟩,
         ⟨some 56, none, .d (.bin .arith .lss (.t 53) (.t 55))⟩])
       (.cond (.t 56) (.skip) (.exit 6)))
       (.seq (.block 7 (.seq (.reg [⟨some 59, none, .d (.mv (.t 6))⟩,
          ⟨some 60, none, .d (.mv (.t 12))⟩,
          ⟨some 61, none, .d (.ia 1 (.t 59) (.t 60))⟩,
          ⟨some 62, none, .d (.load false 1 (.t 61))⟩,
          ⟨some 63, none, .d (.mv (.t 0))⟩,
          ⟨some 64, none, .d (.call (.f f_l4Counted) [(.t 62), (.t 63)])⟩,
          ⟨some 65, none, .d (.mv (.t 5))⟩,
          ⟨some 66, none, .d (.call (.f f_l4Within) [(.t 64), (.t 65)])⟩])
        (.cond (.t 66) (.reg [⟨some 67, none, .d (.mv (.t 10))⟩,
           ⟨some 68, none, .d (.mv (.t 6))⟩,
           ⟨some 69, none, .d (.mv (.t 12))⟩,
           ⟨some 70, none, .d (.ia 1 (.t 68) (.t 69))⟩,
           ⟨some 71, none, .d (.load false 1 (.t 70))⟩,
           ⟨some 72, none, .w (.bslice 1 [.int .i64 0] [(0, (.t 71))])⟩,
           ⟨some 73, none, .w (.append 1 (.t 67) (.t 72))⟩,
           ⟨some 10, none, .d (.mv (.t 73))⟩]) (.reg [⟨some 74, none, .d (.mv (.t 11))⟩,
           ⟨some 75, none, .d (.mv (.t 6))⟩,
           ⟨some 76, none, .d (.mv (.t 12))⟩,
           ⟨some 77, none, .d (.ia 1 (.t 75) (.t 76))⟩,
           ⟨some 78, none, .d (.load false 1 (.t 77))⟩,
           ⟨some 79, none, .w (.bslice 1 [.int .i64 0] [(0, (.t 78))])⟩,
           ⟨some 80, none, .w (.append 1 (.t 74) (.t 79))⟩,
           ⟨some 11, none, .d (.mv (.t 80))⟩]))))
       (.reg [⟨some 57, none, .d (.mv (.t 12))⟩,
         ⟨some 58, none, .d (.bin .arith .add (.t 57) (.c (.int .i64 1)))⟩,
         ⟨some 12, none, .d (.mv (.t 58))⟩]))))))
     (.seq (.seq (.reg [⟨some 13, none, .d (.mv (.c (.int .i64 0)))⟩])
     (.block 8 (.loop (.seq (.seq (.reg [⟨some 81, none, .d (.mv (.t 13))⟩,
         ⟨some 82, none, .d (.mv (.t 10))⟩,
         ⟨some 83, none, .d (.len (.t 82))⟩,
         ⟨some 84, none, .d (.bin .arith .lss (.t 81) (.t 83))⟩])
       (.cond (.t 84) (.skip) (.exit 8)))
       (.seq (.block 9 (.reg [⟨some 87, none, .d (.mv (.t 5))⟩,
          ⟨some 88, none, .d (.mv (.t 10))⟩,
          ⟨some 89, none, .d (.mv (.t 13))⟩,
          ⟨some 90, none, .d (.ia 1 (.t 88) (.t 89))⟩,
          ⟨some 91, none, .d (.load false 1 (.t 90))⟩,
          ⟨some 92, none, .d (.mv (.t 9))⟩,
          ⟨some 93, none, .d (.ia 1 (.t 87) (.t 91))⟩,
          ⟨none, none, .w (.store 1 (.t 93) (.t 92))⟩]))
       (.reg [⟨some 85, none, .d (.mv (.t 13))⟩,
         ⟨some 86, none, .d (.bin .arith .add (.t 85) (.c (.int .i64 1)))⟩,
         ⟨some 13, none, .d (.mv (.t 86))⟩]))))))
     (.reg [⟨some 94, none, .d (.mv (.t 11))⟩,
       ⟨some 6, none, .d (.mv (.t 94))⟩])))))
    (.reg [⟨some 49, none, .d (.mv (.t 9))⟩,
      ⟨some 50, none, .d (.bin .arith .add (.t 49) (.c (.int .i64 1)))⟩,
      ⟨some 9, none, .d (.mv (.t 50))⟩]))))))
  (.seq (.reg [⟨some 95, none, .d (.mv (.t 5))⟩,
    ⟨some 2, none, .d (.mv (.t 95))⟩])
  (.ret))))))), [.tmp 2]⟩
def n_l4Needs : Nat → Option Ann := fun _ => none
abbrev k_l4Needs : List Nat := [0, 2, 3, 4, 5, 6, 7, 8, 9, 10, 11, 12, 13, 16, 26, 36, 41, 48, 56, 66, 84]
abbrev o_l4Needs : List Nat := [22, 23, 44, 45, 51, 52, 72, 73, 79, 80]
def c_l4Needs : Con := pure' fun
  | [.p (.int .i64 p)] => if (1 ≤ p ∧ p ≤ 3) then some (.ar 2000000, [.arr 1 (ints (tabK (ntT tabB) p.toNat 9))]) else none
  | _ => none
theorem nt_top {both : Bool} {nt : List Int → Nat} {R : Nat} (N : NT both nt R) {p key : Nat} (h : okPl both nt p) (h1 : 1 ≤ p) (h3 : p ≤ 3) (hk : key < 9 ^ p) (hs : (dg key p).sum ≤ 8) : nt (pad3 (dg key p)) ≤ R := by
  refine N.top _ (mem_allT.2 ?_)
  have h8 := dg_in8 key p
  match p, h1, h3 with
  | 1, _, _ => simp [dg, pad3, inT] at hs ⊢; omega
  | 2, _, _ => simp [dg, pad3, inT] at hs ⊢; omega
  | 3, _, _ => simp [dg, pad3, inT] at hs ⊢; omega
set_option maxHeartbeats 4000000 in
theorem s_l4Needs {P : Program} (hm : P.follows .mixedOrders = true) {Γ : Gam} (hΓ : GS P Γ) {n : FuncId} {f_l4Counted : FuncId} {f_l4Told : FuncId} {f_l4Counts : FuncId} {f_l4Within : FuncId} (is : Is P n (a_l4Needs f_l4Counted f_l4Told f_l4Counts f_l4Within)) (h_l4Counted : Γ f_l4Counted = c_l4Counted) (h_l4Told : Γ f_l4Told = c_isTold) (h_l4Counts : Γ f_l4Counts = c_AreCounts) (h_l4Within : Γ f_l4Within = c_l4Within)  : Says P n c_l4Needs := by
  refine Says.pure fun args r fs h => ?_
  split at h
  case h_2 => cases h
  rename_i p
  split at h
  case isFalse => cases h
  rename_i hc
  simp only [ofI_ints, ofBo_bools, ofAs_asks, Option.some.injEq, Prod.mk.injEq] at h hc
  obtain ⟨rfl, rfl⟩ := h
  obtain ⟨hp1', hp3'⟩ := hc
  obtain ⟨p, rfl⟩ : ∃ j : Nat, p = j := ⟨p.toNat, by omega⟩
  simp only [Int.toNat_natCast]
  have hp1 : 1 ≤ p := by omega
  have hp3 : p ≤ 3 := by omega
  have hpi3 : (p : Int) ≤ 3 := by omega
  have hpi0 : (0 : Int) ≤ (p : Int) := by omega
  have h9 := pow9 hp3
  have hokB := okP_B hp1 hp3
  have hN : NT true (ntT tabB) 9 := ntB
  have htop : ∀ key, key < 9 ^ p → (dg key p).sum ≤ 8 → (ntT tabB) (pad3 (dg key p)) ≤ 9 := fun key hk hs => nt_top hN hokB hp1 hp3 hk hs
  generalize (ntT tabB) = nt at *
  refine is.go hm hΓ k_l4Needs o_l4Needs (by simp [a_l4Needs]) ?_
  simp only [a_l4Needs, List.zipIdx_cons, List.zipIdx_nil, ↓SP, SQ, Gam.add, stepM, callC, argC, lendO, nmBy, nmC, likeL, likeB, plainOb, offs, exL, X, F, trP, trO, stepD, stepW, newA, SV.tr, SV.trL, fz, allP, Ob.tr, loadA, cellsA, SV.cells, binA, binI, eqOut, isSl, isPt, natOf, callee, snap, SV.refsL, SV.refs, thaw, fzAll, loA, hiA, elemOf, partsA, buildA, putCells, ↓reduceIte, reduceCtorEq, okCell, Nat.reduceAdd, Nat.reduceEqDiff, Nat.reduceSub, Nat.reduceMul, Nat.reduceLeDiff, Nat.reduceLT, Nat.reduceBEq, PV.scal, PV.scalL, SV.scal, SV.scalL, Ob.scal, PV.isCell, pure', resO]
  refine loop_at (fun s : M => mkEnv [(0, si p), (2, .p .nilsl), (3, si ((9 ^ s.i : Nat) : Int)), (4, si s.i), (5, .junk), (6, .junk), (7, .junk), (8, .junk), (9, .junk), (10, .junk), (11, .junk), (12, .junk), (13, .junk), (16, s.a), (26, .junk), (36, .junk), (41, .junk), (48, .junk), (56, .junk), (66, .junk), (84, .junk)]) (fun s => mkO [(22, none), (23, none), (44, none), (45, none), (51, none), (52, none), (72, none), (73, none), (79, none), (80, none)]) (fun s => s.i ≤ p) (fun s => p - s.i) ⟨0, .junk, .junk, .junk, .junk, .junk, .junk, .junk, .junk, .junk, .junk, .junk, none, none, none, none, none⟩ (by simp) rfl rfl ?_
  rintro ⟨i, waa, wab, wac, wad, wae, waf, wag, wah, wak, wal, wam, waoo, waop, waoq, waor, waot⟩ hi R1 hR1 hN1
  simp only at hi
  by_cases h : i < p
  · have h1 : (i : Int) < (p : Int) := by omega
    have hw := wrap_one (i := i) (by omega)
    have hpw := pow9 (i := i) (by omega)
    have hm9 : IntKind.i64.wrap (((9 ^ i : Nat) : Int) * 9) = ((9 ^ (i + 1) : Nat) : Int) := by
      rw [Nat.pow_succ]
      generalize 9 ^ i = z at hpw
      rw [wrap64 (by omega) (by omega)]; omega
    simp only [h1, hw, hm9, ↓SP, SQ, Gam.add, stepM, callC, argC, lendO, nmBy, nmC, likeL, likeB, plainOb, offs, exL, X, F, trP, trO, stepD, stepW, newA, SV.tr, SV.trL, fz, allP, Ob.tr, loadA, cellsA, SV.cells, binA, binI, eqOut, isSl, isPt, natOf, callee, snap, SV.refsL, SV.refs, thaw, fzAll, loA, hiA, elemOf, partsA, buildA, putCells, ↓reduceIte, reduceCtorEq, okCell, Nat.reduceAdd, Nat.reduceEqDiff, Nat.reduceSub, Nat.reduceMul, Nat.reduceLeDiff, Nat.reduceLT, Nat.reduceBEq, PV.scal, PV.scalL, SV.scal, SV.scalL, Ob.scal, PV.isCell, pure', resO]
    exact hN1 ⟨i + 1, _, .junk, .junk, .junk, .junk, .junk, .junk, .junk, .junk, .junk, .junk, none, none, none, none, none⟩ _ _ (by simp only; omega) (by simp only; omega) rfl rfl
  have hie : i = p := by omega
  have h1 : ¬ ((p : Nat) : Int) < (p : Int) := by omega
  subst hie
  have hroom : 9 ^ i ≤ roomA := by unfold roomA; omega
  have hn0 : (0 : Int) ≤ ((9 ^ i : Nat) : Int) := Int.natCast_nonneg _
  have hA0 := stA_0 nt i
  simp only [h1, ↓SP, SQ, Gam.add, stepM, callC, argC, lendO, nmBy, nmC, likeL, likeB, plainOb, offs, exL, X, F, trP, trO, stepD, stepW, newA, SV.tr, SV.trL, fz, allP, Ob.tr, loadA, cellsA, SV.cells, binA, binI, eqOut, isSl, isPt, natOf, callee, snap, SV.refsL, SV.refs, thaw, fzAll, loA, hiA, elemOf, partsA, buildA, putCells, ↓reduceIte, reduceCtorEq, okCell, Nat.reduceAdd, Nat.reduceEqDiff, Nat.reduceSub, Nat.reduceMul, Nat.reduceLeDiff, Nat.reduceLT, Nat.reduceBEq, PV.scal, PV.scalL, SV.scal, SV.scalL, Ob.scal, PV.isCell, pure', resO]
  refine hR1 _ _ _ (by intro h; cases h) ?_
  simp only [hroom, hn0, Int.toNat_natCast, ints_rep, hA0, ↓SP, SQ, Gam.add, stepM, callC, argC, lendO, nmBy, nmC, likeL, likeB, plainOb, offs, exL, X, F, trP, trO, stepD, stepW, newA, SV.tr, SV.trL, fz, allP, Ob.tr, loadA, cellsA, SV.cells, binA, binI, eqOut, isSl, isPt, natOf, callee, snap, SV.refsL, SV.refs, thaw, fzAll, loA, hiA, elemOf, partsA, buildA, putCells, ↓reduceIte, reduceCtorEq, okCell, Nat.reduceAdd, Nat.reduceEqDiff, Nat.reduceSub, Nat.reduceMul, Nat.reduceLeDiff, Nat.reduceLT, Nat.reduceBEq, PV.scal, PV.scalL, SV.scal, SV.scalL, Ob.scal, PV.isCell, pure', resO]
  refine loop_at (fun s : M => mkEnv [(0, si i), (2, .p .nilsl), (3, si ((9 ^ i : Nat) : Int)), (4, si i), (5, .ar 22), (6, .ar 23), (7, si s.i), (8, s.a), (9, .junk), (10, .junk), (11, .junk), (12, .junk), (13, .junk), (16, sb false), (26, s.b), (36, s.c), (41, s.d), (48, .junk), (56, .junk), (66, .junk), (84, .junk)]) (fun s => mkO [(22, some (.arr 1 (ints (stA nt i s.i)))), (23, some (.arr 1 (ints (nz (lfA nt i s.i))))), (44, s.o), (45, none), (51, none), (52, none), (72, none), (73, none), (79, none), (80, none)]) (fun s => s.i ≤ 9 ^ i) (fun s => 9 ^ i - s.i) ⟨0, .junk, .junk, .junk, .junk, .junk, .junk, .junk, .junk, .junk, .junk, .junk, none, none, none, none, none⟩ (by simp) rfl rfl ?_
  rintro ⟨j, wba, wbb, wbc, wbd, wbe, wbf, wbg, wbh, wbk, wbl, wbm, wboo, wbop, wboq, wbor, wbot⟩ hj R2 hR2 hN2
  simp only at hj
  by_cases h : j < 9 ^ i
  · have h2 : (j : Int) < ((9 ^ i : Nat) : Int) := Int.ofNat_lt.2 h
    have hw := wrap_one (i := j) (by omega)
    have hj0 : (0 : Int) ≤ (j : Int) := Int.natCast_nonneg _
    have hj1 : (j : Int) ≤ 1000000 := by omega
    have hlen := stA_len nt i j
    have hdl := dg_len j i
    have hdl3 : (dg j i).length ≤ 3 := by omega
    have hdlb : (dg j i).length ≤ 1100000 := by omega
    have hd8 := dg_in8 j i
    have hone := stA_one (nt := nt) (p := i) (i := j)
    obtain ⟨e0, he0⟩ : ∃ e, (ints (stA nt i j))[j]? = some e := ⟨_, List.getElem?_eq_getElem (by rw [ints_len, hlen]; exact h)⟩
    have hlen1 : ((stA nt i j).set j (-1)).length = 9 ^ i := by rw [List.length_set, hlen]
    obtain ⟨e1, he1⟩ : ∃ e, (ints ((stA nt i j).set j (-1)))[j]? = some e := ⟨_, List.getElem?_eq_getElem (by rw [ints_len, hlen1]; exact h)⟩
    cases ht : told (dg j i) with
    | true =>
      have hv := val0_told hokB h ht
      have hs8 : (dg j i).sum ≤ 8 := by have := ht; simp only [told, decide_eq_true_eq] at this; omega
      have hz := (zero_told hokB h hs8).2 ht
      have hno := lfA_no (nt := nt) (p := i) (i := j) (by omega)
      rw [hv] at hone
      have hset : ((stA nt i j).set j (-1)).set j 0 = stA nt i (j + 1) := by rw [List.set_set, hone]
      simp only [h, h2, hw, hj0, hj1, hpi0, hpi3, hlen, hlen1, hdl3, hdlb, hd8, he0, he1, ht, hset, Int.toNat_natCast, ints_len, ints_set, isI_ints, ofI_ints, h_l4Counted, c_l4Counted, h_l4Told, c_isTold, h_l4Counts, c_AreCounts, ↓SP, SQ, Gam.add, stepM, callC, argC, lendO, nmBy, nmC, likeL, likeB, plainOb, offs, exL, X, F, trP, trO, stepD, stepW, newA, SV.tr, SV.trL, fz, allP, Ob.tr, loadA, cellsA, SV.cells, binA, binI, eqOut, isSl, isPt, natOf, callee, snap, SV.refsL, SV.refs, thaw, fzAll, loA, hiA, elemOf, partsA, buildA, putCells, ↓reduceIte, reduceCtorEq, okCell, Nat.reduceAdd, Nat.reduceEqDiff, Nat.reduceSub, Nat.reduceMul, Nat.reduceLeDiff, Nat.reduceLT, Nat.reduceBEq, PV.scal, PV.scalL, SV.scal, SV.scalL, Ob.scal, PV.isCell, pure', resO]
      exact hN2 ⟨j + 1, _, _, _, _, .junk, .junk, .junk, .junk, .junk, .junk, .junk, _, none, none, none, none⟩ _ _ (by simp only; omega) (by simp only; omega) rfl (by rw [hno])
    | false =>
      have hv := val0_not hokB h ht
      rw [hv] at hone
      cases hkc : okC (dg j i) with
      | true =>
        have hs8 := (okC_out hkc).2.2
        have hnz : 0 < nt (pad3 (dg j i)) := by
          rcases Nat.eq_zero_or_pos (nt (pad3 (dg j i))) with g | g
          · have := (zero_told hokB h hs8).1 g; rw [ht] at this; cases this
          · exact g
        have hyes := lfA_yes hs8 hnz
        have hll := lfA_len nt i j
        have hr : (lfA nt i j).length + 1 ≤ roomA := by unfold roomA; omega
        simp only [h, h2, hw, hj0, hj1, hpi0, hpi3, hlen, hlen1, hdl3, hdlb, hd8, he0, he1, ht, hkc, hone, hyes, hr, nz_len, nz_app, Int.toNat_natCast, ints_len, ints_set, ints_app1, ints_cell, isI_ints, ofI_ints, h_l4Counted, c_l4Counted, h_l4Told, c_isTold, h_l4Counts, c_AreCounts, ↓SP, SQ, Gam.add, stepM, callC, argC, lendO, nmBy, nmC, likeL, likeB, plainOb, offs, exL, X, F, trP, trO, stepD, stepW, newA, SV.tr, SV.trL, fz, allP, Ob.tr, loadA, cellsA, SV.cells, binA, binI, eqOut, isSl, isPt, natOf, callee, snap, SV.refsL, SV.refs, thaw, fzAll, loA, hiA, elemOf, partsA, buildA, putCells, ↓reduceIte, reduceCtorEq, okCell, Nat.reduceAdd, Nat.reduceEqDiff, Nat.reduceSub, Nat.reduceMul, Nat.reduceLeDiff, Nat.reduceLT, Nat.reduceBEq, PV.scal, PV.scalL, SV.scal, SV.scalL, Ob.scal, PV.isCell, pure', resO]
        exact hN2 ⟨j + 1, _, _, _, _, .junk, .junk, .junk, .junk, .junk, .junk, .junk, _, none, none, none, none⟩ _ _ (by simp only; omega) (by simp only; omega) rfl rfl
      | false =>
        have hno := lfA_no (nt := nt) (p := i) (i := j) (fun e => by
          have : okC (dg j i) = true := by
            simp only [okC, hdl, hd8, dec_t e.1, Bool.and_true]
            rw [dec_t (by omega), dec_t (by omega)]; rfl
          rw [hkc] at this; cases this)
        simp only [h, h2, hw, hj0, hj1, hpi0, hpi3, hlen, hlen1, hdl3, hdlb, hd8, he0, he1, ht, hkc, hone, Int.toNat_natCast, ints_len, ints_set, isI_ints, ofI_ints, h_l4Counted, c_l4Counted, h_l4Told, c_isTold, h_l4Counts, c_AreCounts, ↓SP, SQ, Gam.add, stepM, callC, argC, lendO, nmBy, nmC, likeL, likeB, plainOb, offs, exL, X, F, trP, trO, stepD, stepW, newA, SV.tr, SV.trL, fz, allP, Ob.tr, loadA, cellsA, SV.cells, binA, binI, eqOut, isSl, isPt, natOf, callee, snap, SV.refsL, SV.refs, thaw, fzAll, loA, hiA, elemOf, partsA, buildA, putCells, ↓reduceIte, reduceCtorEq, okCell, Nat.reduceAdd, Nat.reduceEqDiff, Nat.reduceSub, Nat.reduceMul, Nat.reduceLeDiff, Nat.reduceLT, Nat.reduceBEq, PV.scal, PV.scalL, SV.scal, SV.scalL, Ob.scal, PV.isCell, pure', resO]
        exact hN2 ⟨j + 1, _, _, _, _, .junk, .junk, .junk, .junk, .junk, .junk, .junk, _, none, none, none, none⟩ _ _ (by simp only; omega) (by simp only; omega) rfl (by rw [hno])
  have hje : j = 9 ^ i := by omega
  have h2 : ¬ ((9 ^ i : Nat) : Int) < ((9 ^ i : Nat) : Int) := Int.lt_irrefl _
  subst hje
  have hA9 := stA_end nt i
  have hL9 := lfA_end nt i
  simp only [h2, ↓SP, SQ, Gam.add, stepM, callC, argC, lendO, nmBy, nmC, likeL, likeB, plainOb, offs, exL, X, F, trP, trO, stepD, stepW, newA, SV.tr, SV.trL, fz, allP, Ob.tr, loadA, cellsA, SV.cells, binA, binI, eqOut, isSl, isPt, natOf, callee, snap, SV.refsL, SV.refs, thaw, fzAll, loA, hiA, elemOf, partsA, buildA, putCells, ↓reduceIte, reduceCtorEq, okCell, Nat.reduceAdd, Nat.reduceEqDiff, Nat.reduceSub, Nat.reduceMul, Nat.reduceLeDiff, Nat.reduceLT, Nat.reduceBEq, PV.scal, PV.scalL, SV.scal, SV.scalL, Ob.scal, PV.isCell, pure', resO]
  refine hR2 _ _ _ (by intro h; cases h) ?_
  simp only [hA9, hL9, ↓SP, SQ, Gam.add, stepM, callC, argC, lendO, nmBy, nmC, likeL, likeB, plainOb, offs, exL, X, F, trP, trO, stepD, stepW, newA, SV.tr, SV.trL, fz, allP, Ob.tr, loadA, cellsA, SV.cells, binA, binI, eqOut, isSl, isPt, natOf, callee, snap, SV.refsL, SV.refs, thaw, fzAll, loA, hiA, elemOf, partsA, buildA, putCells, ↓reduceIte, reduceCtorEq, okCell, Nat.reduceAdd, Nat.reduceEqDiff, Nat.reduceSub, Nat.reduceMul, Nat.reduceLeDiff, Nat.reduceLT, Nat.reduceBEq, PV.scal, PV.scalL, SV.scal, SV.scalL, Ob.scal, PV.isCell, pure', resO]
  refine loop_at (fun s : M => mkEnv [(0, si i), (2, .p .nilsl), (3, si ((9 ^ i : Nat) : Int)), (4, si i), (5, .ar 22), (6, match s.i with | 0 => .ar 23 | _ + 1 => .ar 52), (7, si ((9 ^ i : Nat) : Int)), (8, s.a), (9, si ((s.i + 1 : Nat) : Int)), (10, s.b), (11, s.c), (12, s.d), (13, s.e), (16, sb false), (26, sb false), (36, s.f), (41, s.g), (48, s.h), (56, s.k), (66, s.l), (84, s.m)]) (fun s => mkO [(22, some (.arr 1 (ints (tabK nt i s.i)))), (23, some (.arr 1 (ints (nz (lfK nt i 0))))), (44, s.o), (45, none), (51, s.p), (52, match s.i with | 0 => none | k + 1 => some (.arr 1 (ints (nz (lfK nt i (k + 1)))))), (72, s.q), (73, none), (79, s.r), (80, none)]) (fun s => s.i ≤ 9) (fun s => 9 - s.i) ⟨0, _, .junk, .junk, .junk, .junk, _, _, .junk, .junk, .junk, .junk, _, none, none, none, none⟩ (by simp) rfl rfl ?_
  rintro ⟨k, wca, wcb, wcc, wcd, wce, wcf, wcg, wch, wck, wcl, wcm, wcoo, wcop, wcoq, wcor, wcot⟩ hk R3 hR3 hN3
  simp only at hk
  by_cases h : 0 < (lfK nt i k).length
  · have hkR : k < 9 := by
      obtain ⟨key, hkey⟩ := List.exists_mem_of_length_pos h
      have := lf_mem hkey
      have := htop key this.1 this.2.1
      omega
    have hw := wrap_one (i := k + 1) (by omega)
    have hll := lf_len nt i k
    have hz0 := lf_len nt i 0
    have h3' : ((lfK nt i k).length : Int) > 0 := by omega
    cases k with
    | zero =>
      simp only [h3', nz_len, ints_len, ↓SP, SQ, Gam.add, stepM, callC, argC, lendO, nmBy, nmC, likeL, likeB, plainOb, offs, exL, X, F, trP, trO, stepD, stepW, newA, SV.tr, SV.trL, fz, allP, Ob.tr, loadA, cellsA, SV.cells, binA, binI, eqOut, isSl, isPt, natOf, callee, snap, SV.refsL, SV.refs, thaw, fzAll, loA, hiA, elemOf, partsA, buildA, putCells, ↓reduceIte, reduceCtorEq, okCell, Nat.reduceAdd, Nat.reduceEqDiff, Nat.reduceSub, Nat.reduceMul, Nat.reduceLeDiff, Nat.reduceLT, Nat.reduceBEq, PV.scal, PV.scalL, SV.scal, SV.scalL, Ob.scal, PV.isCell, pure', resO]
      refine loop_at (fun s : M => mkEnv [(0, si i), (2, .p .nilsl), (3, si ((9 ^ i : Nat) : Int)), (4, si i), (5, .ar 22), (6, .ar 23), (7, si ((9 ^ i : Nat) : Int)), (8, s.a), (9, si ((1 : Nat) : Int)), (10, .ar 51), (11, .ar 52), (12, si s.i), (13, s.b), (16, sb false), (26, sb false), (36, s.c), (41, s.d), (48, sb true), (56, s.e), (66, s.f), (84, s.g)]) (fun s => mkO [(22, some (.arr 1 (ints (tabK nt i (0))))), (23, some (.arr 1 (ints (nz (lfK nt i 0))))), (44, s.o), (45, none), (51, some (.arr 1 (ints (nz (((lfK nt i (0)).take s.i).filter fun key => decide (nt (pad3 (dg key i)) ≤ 1)))))), (52, some (.arr 1 (ints (nz (((lfK nt i (0)).take s.i).filter fun key => !decide (nt (pad3 (dg key i)) ≤ 1)))))), (72, s.q), (73, none), (79, s.r), (80, none)]) (fun s => s.i ≤ (lfK nt i (0)).length) (fun s => (lfK nt i (0)).length - s.i) ⟨0, _, _, _, _, _, _, _, .junk, .junk, .junk, .junk, _, none, _, _, none⟩ (by simp) rfl rfl ?_
      rintro ⟨i2, wda, wdb, wdc, wdd, wde, wdf, wdg, wdh, wdk, wdl, wdm, wdoo, wdop, wdoq, wdor, wdot⟩ hi2 R4 hR4 hN4
      simp only at hi2
      by_cases hlt : i2 < (lfK nt i (0)).length
      · have h4 : (i2 : Int) < (lfK nt i (0)).length := by omega
        have hi3 : i2 < (lfK nt i (0)).length := hlt
        have hwi := wrap_one (i := i2) (by omega)
        obtain ⟨key, hkey⟩ : ∃ key, (lfK nt i (0)).getD i2 0 = key := ⟨_, rfl⟩
        have hmem := lf_mem (nt := nt) (p := i) (k := 0) (key := key) (by rw [← hkey, getD_lt hlt]; exact List.getElem_mem hlt)
        have hgk := nz_get hlt
        rw [hkey] at hgk
        have hk0 : (0 : Int) ≤ (key : Int) := by omega
        have hk1 : (key : Int) ≤ 1000000 := by omega
        have hdl := dg_len key i
        have htold : told (dg key i) = false := by
          cases ht : told (dg key i) with
          | false => rfl
          | true => have := (zero_told hokB hmem.1 hmem.2.1).2 ht; omega
        have hokw := open_okw hp1 hp3 hmem.1 hmem.2.1 htold
        have htabl : (tabK nt i (0)).length = 9 ^ i := tabK_len nt i (0)
        have hwany := wi_any (k := 0) hokB hp3 hmem.1 hmem.2.1 htold
        have hq0 := take_one (lfK nt i (0)) i2 0 hlt
        rw [hkey] at hq0
        by_cases hnt : nt (pad3 (dg key i)) ≤ 1
        ·   skip
            rw [dec_t hnt] at hwany
            have hapx : (((lfK nt i (0)).take i2).filter fun key => decide (nt (pad3 (dg key i)) ≤ 1)) ++ [key] = ((lfK nt i (0)).take (i2 + 1)).filter fun key => decide (nt (pad3 (dg key i)) ≤ 1) := by
              rw [hq0, List.filter_append]; simp only [List.filter_cons, dec_t hnt, List.filter_nil, if_true]
            have hsm : ((lfK nt i (0)).take (i2 + 1)).filter (fun key => !decide (nt (pad3 (dg key i)) ≤ 1)) = ((lfK nt i (0)).take i2).filter fun key => !decide (nt (pad3 (dg key i)) ≤ 1) := by
              rw [hq0, List.filter_append]; simp only [List.filter_cons, dec_t hnt, Bool.not_true, List.filter_nil, Bool.false_eq_true, if_false, List.append_nil]
            have hfl : (((lfK nt i (0)).take i2).filter fun key => decide (nt (pad3 (dg key i)) ≤ 1)).length + 1 ≤ roomA := by
              have := List.length_filter_le (fun key => decide (nt (pad3 (dg key i)) ≤ 1)) ((lfK nt i (0)).take i2)
              rw [List.length_take] at this
              unfold roomA; omega
            simp only [h4, hi3, hgk, hk0, hk1, hpi0, hpi3, nz_len, ints_len, Int.toNat_natCast, isI_ints, ofI_ints, h_l4Counted, c_l4Counted, hwany, hokw, htabl, hdl, h_l4Within, c_l4Within, hwi, hapx, hfl, nz_app, ints_app1, ints_cell, ↓SP, SQ, Gam.add, stepM, callC, argC, lendO, nmBy, nmC, likeL, likeB, plainOb, offs, exL, X, F, trP, trO, stepD, stepW, newA, SV.tr, SV.trL, fz, allP, Ob.tr, loadA, cellsA, SV.cells, binA, binI, eqOut, isSl, isPt, natOf, callee, snap, SV.refsL, SV.refs, thaw, fzAll, loA, hiA, elemOf, partsA, buildA, putCells, ↓reduceIte, reduceCtorEq, okCell, Nat.reduceAdd, Nat.reduceEqDiff, Nat.reduceSub, Nat.reduceMul, Nat.reduceLeDiff, Nat.reduceLT, Nat.reduceBEq, PV.scal, PV.scalL, SV.scal, SV.scalL, Ob.scal, PV.isCell, pure', resO]
            exact hN4 ⟨i2 + 1, _, _, _, _, _, _, _, .junk, .junk, .junk, .junk, _, none, _, _, none⟩ _ _ (by simp only; omega) (by simp only; omega) rfl (by rw [hsm])
        ·   skip
            rw [dec_f hnt] at hwany
            have hapx : (((lfK nt i (0)).take i2).filter fun key => !decide (nt (pad3 (dg key i)) ≤ 1)) ++ [key] = ((lfK nt i (0)).take (i2 + 1)).filter fun key => !decide (nt (pad3 (dg key i)) ≤ 1) := by
              rw [hq0, List.filter_append]; simp only [List.filter_cons, dec_f hnt, Bool.not_false, List.filter_nil, if_true]
            have hsm : ((lfK nt i (0)).take (i2 + 1)).filter (fun key => decide (nt (pad3 (dg key i)) ≤ 1)) = ((lfK nt i (0)).take i2).filter fun key => decide (nt (pad3 (dg key i)) ≤ 1) := by
              rw [hq0, List.filter_append]; simp only [List.filter_cons, dec_f hnt, List.filter_nil, Bool.false_eq_true, if_false, List.append_nil]
            have hfl : (((lfK nt i (0)).take i2).filter fun key => !decide (nt (pad3 (dg key i)) ≤ 1)).length + 1 ≤ roomA := by
              have := List.length_filter_le (fun key => !decide (nt (pad3 (dg key i)) ≤ 1)) ((lfK nt i (0)).take i2)
              rw [List.length_take] at this
              unfold roomA; omega
            simp only [h4, hi3, hgk, hk0, hk1, hpi0, hpi3, nz_len, ints_len, Int.toNat_natCast, isI_ints, ofI_ints, h_l4Counted, c_l4Counted, hwany, hokw, htabl, hdl, h_l4Within, c_l4Within, hwi, hapx, hfl, nz_app, ints_app1, ints_cell, ↓SP, SQ, Gam.add, stepM, callC, argC, lendO, nmBy, nmC, likeL, likeB, plainOb, offs, exL, X, F, trP, trO, stepD, stepW, newA, SV.tr, SV.trL, fz, allP, Ob.tr, loadA, cellsA, SV.cells, binA, binI, eqOut, isSl, isPt, natOf, callee, snap, SV.refsL, SV.refs, thaw, fzAll, loA, hiA, elemOf, partsA, buildA, putCells, ↓reduceIte, reduceCtorEq, okCell, Nat.reduceAdd, Nat.reduceEqDiff, Nat.reduceSub, Nat.reduceMul, Nat.reduceLeDiff, Nat.reduceLT, Nat.reduceBEq, PV.scal, PV.scalL, SV.scal, SV.scalL, Ob.scal, PV.isCell, pure', resO]
            exact hN4 ⟨i2 + 1, _, _, _, _, _, _, _, .junk, .junk, .junk, .junk, _, none, _, _, none⟩ _ _ (by simp only; omega) (by simp only; omega) rfl (by rw [hsm])
      have hi2e : i2 = (lfK nt i (0)).length := by omega
      have h4 : ¬ ((lfK nt i (0)).length : Int) < (lfK nt i (0)).length := by omega
      subst hi2e
      have hmore : ((lfK nt i (0)).take (lfK nt i (0)).length).filter (fun key => !decide (nt (pad3 (dg key i)) ≤ 1)) = lfK nt i (1) := by rw [List.take_length, lf_next]
      obtain ⟨fnd, hfnd⟩ : ∃ fnd, ((lfK nt i (0)).take (lfK nt i (0)).length).filter (fun key => decide (nt (pad3 (dg key i)) ≤ 1)) = fnd := ⟨_, rfl⟩
      have hfl1 : fnd.length ≤ 9 ^ i := by
        rw [← hfnd]
        have := List.length_filter_le (fun key => decide (nt (pad3 (dg key i)) ≤ 1)) ((lfK nt i (0)).take (lfK nt i (0)).length)
        rw [List.take_length] at this
        rw [List.take_length]; omega
      have hfm : ∀ x ∈ fnd, x < 9 ^ i := fun x hx => by
        rw [← hfnd] at hx
        exact (lf_mem (List.mem_of_mem_take (List.mem_filter.1 hx).1)).1
      have hB0 := stB_0 nt i (0)
      simp only [h4, nz_len, ints_len, ↓SP, SQ, Gam.add, stepM, callC, argC, lendO, nmBy, nmC, likeL, likeB, plainOb, offs, exL, X, F, trP, trO, stepD, stepW, newA, SV.tr, SV.trL, fz, allP, Ob.tr, loadA, cellsA, SV.cells, binA, binI, eqOut, isSl, isPt, natOf, callee, snap, SV.refsL, SV.refs, thaw, fzAll, loA, hiA, elemOf, partsA, buildA, putCells, ↓reduceIte, reduceCtorEq, okCell, Nat.reduceAdd, Nat.reduceEqDiff, Nat.reduceSub, Nat.reduceMul, Nat.reduceLeDiff, Nat.reduceLT, Nat.reduceBEq, PV.scal, PV.scalL, SV.scal, SV.scalL, Ob.scal, PV.isCell, pure', resO]
      refine hR4 _ _ _ (by intro h; cases h) ?_
      simp only [hmore, hfnd, ↓SP, SQ, Gam.add, stepM, callC, argC, lendO, nmBy, nmC, likeL, likeB, plainOb, offs, exL, X, F, trP, trO, stepD, stepW, newA, SV.tr, SV.trL, fz, allP, Ob.tr, loadA, cellsA, SV.cells, binA, binI, eqOut, isSl, isPt, natOf, callee, snap, SV.refsL, SV.refs, thaw, fzAll, loA, hiA, elemOf, partsA, buildA, putCells, ↓reduceIte, reduceCtorEq, okCell, Nat.reduceAdd, Nat.reduceEqDiff, Nat.reduceSub, Nat.reduceMul, Nat.reduceLeDiff, Nat.reduceLT, Nat.reduceBEq, PV.scal, PV.scalL, SV.scal, SV.scalL, Ob.scal, PV.isCell, pure', resO]
      refine loop_at (fun s : M => mkEnv [(0, si i), (2, .p .nilsl), (3, si ((9 ^ i : Nat) : Int)), (4, si i), (5, .ar 22), (6, .ar 23), (7, si ((9 ^ i : Nat) : Int)), (8, s.a), (9, si ((1 : Nat) : Int)), (10, .ar 51), (11, .ar 52), (12, si (lfK nt i (0)).length), (13, si s.i), (16, sb false), (26, sb false), (36, s.c), (41, s.d), (48, sb true), (56, sb false), (66, s.f), (84, s.g)]) (fun s => mkO [(22, some (.arr 1 (ints (stB nt i (0) (fnd.take s.i))))), (23, some (.arr 1 (ints (nz (lfK nt i 0))))), (44, s.o), (45, none), (51, some (.arr 1 (ints (nz fnd)))), (52, some (.arr 1 (ints (nz (lfK nt i (1)))))), (72, s.q), (73, none), (79, s.r), (80, none)]) (fun s => s.i ≤ fnd.length) (fun s => fnd.length - s.i) ⟨0, _, .junk, _, _, .junk, _, _, .junk, .junk, .junk, .junk, _, none, _, _, none⟩ (by simp) rfl (by simp only [List.take_zero, hB0]; try rfl) ?_
      rintro ⟨i3, wea, web, wec, wed, wee, wef, weg, weh, wek, wel, wem, weoo, weop, weoq, weor, weot⟩ hi3 R5 hR5 hN5
      simp only at hi3
      by_cases hlt : i3 < fnd.length
      · have h5 : (i3 : Int) < fnd.length := by omega
        have hwi := wrap_one (i := i3) (by omega)
        obtain ⟨key, hkey⟩ : ∃ key, fnd.getD i3 0 = key := ⟨_, rfl⟩
        have hkm := hfm key (by rw [← hkey, getD_lt hlt]; exact List.getElem_mem hlt)
        have hgk := nz_get hlt
        rw [hkey] at hgk
        have hk0 : (0 : Int) ≤ (key : Int) := by omega
        have hbl := stB_len nt i (0) (fnd.take i3)
        have hset := stB_one nt i (0) (fnd.take i3) key
        have ht1 := take_one fnd i3 0 hlt
        rw [hkey] at ht1
        rw [← ht1] at hset
        obtain ⟨e6, he6⟩ : ∃ e, (ints (stB nt i (0) (fnd.take i3)))[key]? = some e := ⟨_, List.getElem?_eq_getElem (by rw [ints_len, hbl]; exact hkm)⟩
        simp only [h5, hlt, hgk, hk0, hkm, hbl, hset, he6, hwi, nz_len, ints_len, ints_set, Int.toNat_natCast, ↓SP, SQ, Gam.add, stepM, callC, argC, lendO, nmBy, nmC, likeL, likeB, plainOb, offs, exL, X, F, trP, trO, stepD, stepW, newA, SV.tr, SV.trL, fz, allP, Ob.tr, loadA, cellsA, SV.cells, binA, binI, eqOut, isSl, isPt, natOf, callee, snap, SV.refsL, SV.refs, thaw, fzAll, loA, hiA, elemOf, partsA, buildA, putCells, ↓reduceIte, reduceCtorEq, okCell, Nat.reduceAdd, Nat.reduceEqDiff, Nat.reduceSub, Nat.reduceMul, Nat.reduceLeDiff, Nat.reduceLT, Nat.reduceBEq, PV.scal, PV.scalL, SV.scal, SV.scalL, Ob.scal, PV.isCell, pure', resO]
        exact hN5 ⟨i3 + 1, _, .junk, _, _, .junk, _, _, .junk, .junk, .junk, .junk, _, none, _, _, none⟩ _ _ (by simp only; omega) (by simp only; omega) rfl rfl
      have hi3e : i3 = fnd.length := by omega
      have h5 : ¬ (fnd.length : Int) < fnd.length := by omega
      subst hi3e
      have hend : stB nt i (0) (fnd.take fnd.length) = tabK nt i (1) := by
        rw [List.take_length, ← hfnd, List.take_length, stB_end]
      simp only [h5, nz_len, ints_len, ↓SP, SQ, Gam.add, stepM, callC, argC, lendO, nmBy, nmC, likeL, likeB, plainOb, offs, exL, X, F, trP, trO, stepD, stepW, newA, SV.tr, SV.trL, fz, allP, Ob.tr, loadA, cellsA, SV.cells, binA, binI, eqOut, isSl, isPt, natOf, callee, snap, SV.refsL, SV.refs, thaw, fzAll, loA, hiA, elemOf, partsA, buildA, putCells, ↓reduceIte, reduceCtorEq, okCell, Nat.reduceAdd, Nat.reduceEqDiff, Nat.reduceSub, Nat.reduceMul, Nat.reduceLeDiff, Nat.reduceLT, Nat.reduceBEq, PV.scal, PV.scalL, SV.scal, SV.scalL, Ob.scal, PV.isCell, pure', resO]
      refine hR5 _ _ _ (by intro h; cases h) ?_
      simp only [hend, hw, ↓SP, SQ, Gam.add, stepM, callC, argC, lendO, nmBy, nmC, likeL, likeB, plainOb, offs, exL, X, F, trP, trO, stepD, stepW, newA, SV.tr, SV.trL, fz, allP, Ob.tr, loadA, cellsA, SV.cells, binA, binI, eqOut, isSl, isPt, natOf, callee, snap, SV.refsL, SV.refs, thaw, fzAll, loA, hiA, elemOf, partsA, buildA, putCells, ↓reduceIte, reduceCtorEq, okCell, Nat.reduceAdd, Nat.reduceEqDiff, Nat.reduceSub, Nat.reduceMul, Nat.reduceLeDiff, Nat.reduceLT, Nat.reduceBEq, PV.scal, PV.scalL, SV.scal, SV.scalL, Ob.scal, PV.isCell, pure', resO]
      exact hN3 ⟨1, _, _, _, _, _, _, _, _, _, _, _, _, _, _, _, none⟩ _ _ (by simp only; omega) (by simp only; omega) rfl rfl
    | succ k =>
      simp only [h3', nz_len, ints_len, ↓SP, SQ, Gam.add, stepM, callC, argC, lendO, nmBy, nmC, likeL, likeB, plainOb, offs, exL, X, F, trP, trO, stepD, stepW, newA, SV.tr, SV.trL, fz, allP, Ob.tr, loadA, cellsA, SV.cells, binA, binI, eqOut, isSl, isPt, natOf, callee, snap, SV.refsL, SV.refs, thaw, fzAll, loA, hiA, elemOf, partsA, buildA, putCells, ↓reduceIte, reduceCtorEq, okCell, Nat.reduceAdd, Nat.reduceEqDiff, Nat.reduceSub, Nat.reduceMul, Nat.reduceLeDiff, Nat.reduceLT, Nat.reduceBEq, PV.scal, PV.scalL, SV.scal, SV.scalL, Ob.scal, PV.isCell, pure', resO]
      refine loop_at (fun s : M => mkEnv [(0, si i), (2, .p .nilsl), (3, si ((9 ^ i : Nat) : Int)), (4, si i), (5, .ar 22), (6, .p (.sl 1 (ints (nz (lfK nt i (k + 1)))))), (7, si ((9 ^ i : Nat) : Int)), (8, s.a), (9, si ((k + 1 + 1 : Nat) : Int)), (10, .ar 51), (11, .ar 52), (12, si s.i), (13, s.b), (16, sb false), (26, sb false), (36, s.c), (41, s.d), (48, sb true), (56, s.e), (66, s.f), (84, s.g)]) (fun s => mkO [(22, some (.arr 1 (ints (tabK nt i (k + 1))))), (23, some (.arr 1 (ints (nz (lfK nt i 0))))), (44, s.o), (45, none), (51, some (.arr 1 (ints (nz (((lfK nt i (k + 1)).take s.i).filter fun key => decide (nt (pad3 (dg key i)) ≤ (k + 1) + 1)))))), (52, some (.arr 1 (ints (nz (((lfK nt i (k + 1)).take s.i).filter fun key => !decide (nt (pad3 (dg key i)) ≤ (k + 1) + 1)))))), (72, s.q), (73, none), (79, s.r), (80, none)]) (fun s => s.i ≤ (lfK nt i (k + 1)).length) (fun s => (lfK nt i (k + 1)).length - s.i) ⟨0, _, _, _, _, _, _, _, .junk, .junk, .junk, .junk, _, none, _, _, none⟩ (by simp) rfl rfl ?_
      rintro ⟨i2, wda, wdb, wdc, wdd, wde, wdf, wdg, wdh, wdk, wdl, wdm, wdoo, wdop, wdoq, wdor, wdot⟩ hi2 R4 hR4 hN4
      simp only at hi2
      by_cases hlt : i2 < (lfK nt i (k + 1)).length
      · have h4 : (i2 : Int) < (lfK nt i (k + 1)).length := by omega
        have hi3 : i2 < (lfK nt i (k + 1)).length := hlt
        have hwi := wrap_one (i := i2) (by omega)
        obtain ⟨key, hkey⟩ : ∃ key, (lfK nt i (k + 1)).getD i2 0 = key := ⟨_, rfl⟩
        have hmem := lf_mem (nt := nt) (p := i) (k := k + 1) (key := key) (by rw [← hkey, getD_lt hlt]; exact List.getElem_mem hlt)
        have hgk := nz_get hlt
        rw [hkey] at hgk
        have hk0 : (0 : Int) ≤ (key : Int) := by omega
        have hk1 : (key : Int) ≤ 1000000 := by omega
        have hdl := dg_len key i
        have htold : told (dg key i) = false := by
          cases ht : told (dg key i) with
          | false => rfl
          | true => have := (zero_told hokB hmem.1 hmem.2.1).2 ht; omega
        have hokw := open_okw hp1 hp3 hmem.1 hmem.2.1 htold
        have htabl : (tabK nt i (k + 1)).length = 9 ^ i := tabK_len nt i (k + 1)
        have hwany := wi_any (k := k + 1) hokB hp3 hmem.1 hmem.2.1 htold
        have hq0 := take_one (lfK nt i (k + 1)) i2 0 hlt
        rw [hkey] at hq0
        by_cases hnt : nt (pad3 (dg key i)) ≤ (k + 1) + 1
        ·   skip
            rw [dec_t hnt] at hwany
            have hapx : (((lfK nt i (k + 1)).take i2).filter fun key => decide (nt (pad3 (dg key i)) ≤ (k + 1) + 1)) ++ [key] = ((lfK nt i (k + 1)).take (i2 + 1)).filter fun key => decide (nt (pad3 (dg key i)) ≤ (k + 1) + 1) := by
              rw [hq0, List.filter_append]; simp only [List.filter_cons, dec_t hnt, List.filter_nil, if_true]
            have hsm : ((lfK nt i (k + 1)).take (i2 + 1)).filter (fun key => !decide (nt (pad3 (dg key i)) ≤ (k + 1) + 1)) = ((lfK nt i (k + 1)).take i2).filter fun key => !decide (nt (pad3 (dg key i)) ≤ (k + 1) + 1) := by
              rw [hq0, List.filter_append]; simp only [List.filter_cons, dec_t hnt, Bool.not_true, List.filter_nil, Bool.false_eq_true, if_false, List.append_nil]
            have hfl : (((lfK nt i (k + 1)).take i2).filter fun key => decide (nt (pad3 (dg key i)) ≤ (k + 1) + 1)).length + 1 ≤ roomA := by
              have := List.length_filter_le (fun key => decide (nt (pad3 (dg key i)) ≤ (k + 1) + 1)) ((lfK nt i (k + 1)).take i2)
              rw [List.length_take] at this
              unfold roomA; omega
            simp only [h4, hi3, hgk, hk0, hk1, hpi0, hpi3, nz_len, ints_len, Int.toNat_natCast, isI_ints, ofI_ints, h_l4Counted, c_l4Counted, hwany, hokw, htabl, hdl, h_l4Within, c_l4Within, hwi, hapx, hfl, nz_app, ints_app1, ints_cell, ↓SP, SQ, Gam.add, stepM, callC, argC, lendO, nmBy, nmC, likeL, likeB, plainOb, offs, exL, X, F, trP, trO, stepD, stepW, newA, SV.tr, SV.trL, fz, allP, Ob.tr, loadA, cellsA, SV.cells, binA, binI, eqOut, isSl, isPt, natOf, callee, snap, SV.refsL, SV.refs, thaw, fzAll, loA, hiA, elemOf, partsA, buildA, putCells, ↓reduceIte, reduceCtorEq, okCell, Nat.reduceAdd, Nat.reduceEqDiff, Nat.reduceSub, Nat.reduceMul, Nat.reduceLeDiff, Nat.reduceLT, Nat.reduceBEq, PV.scal, PV.scalL, SV.scal, SV.scalL, Ob.scal, PV.isCell, pure', resO]
            exact hN4 ⟨i2 + 1, _, _, _, _, _, _, _, .junk, .junk, .junk, .junk, _, none, _, _, none⟩ _ _ (by simp only; omega) (by simp only; omega) rfl (by rw [hsm])
        ·   skip
            rw [dec_f hnt] at hwany
            have hapx : (((lfK nt i (k + 1)).take i2).filter fun key => !decide (nt (pad3 (dg key i)) ≤ (k + 1) + 1)) ++ [key] = ((lfK nt i (k + 1)).take (i2 + 1)).filter fun key => !decide (nt (pad3 (dg key i)) ≤ (k + 1) + 1) := by
              rw [hq0, List.filter_append]; simp only [List.filter_cons, dec_f hnt, Bool.not_false, List.filter_nil, if_true]
            have hsm : ((lfK nt i (k + 1)).take (i2 + 1)).filter (fun key => decide (nt (pad3 (dg key i)) ≤ (k + 1) + 1)) = ((lfK nt i (k + 1)).take i2).filter fun key => decide (nt (pad3 (dg key i)) ≤ (k + 1) + 1) := by
              rw [hq0, List.filter_append]; simp only [List.filter_cons, dec_f hnt, List.filter_nil, Bool.false_eq_true, if_false, List.append_nil]
            have hfl : (((lfK nt i (k + 1)).take i2).filter fun key => !decide (nt (pad3 (dg key i)) ≤ (k + 1) + 1)).length + 1 ≤ roomA := by
              have := List.length_filter_le (fun key => !decide (nt (pad3 (dg key i)) ≤ (k + 1) + 1)) ((lfK nt i (k + 1)).take i2)
              rw [List.length_take] at this
              unfold roomA; omega
            simp only [h4, hi3, hgk, hk0, hk1, hpi0, hpi3, nz_len, ints_len, Int.toNat_natCast, isI_ints, ofI_ints, h_l4Counted, c_l4Counted, hwany, hokw, htabl, hdl, h_l4Within, c_l4Within, hwi, hapx, hfl, nz_app, ints_app1, ints_cell, ↓SP, SQ, Gam.add, stepM, callC, argC, lendO, nmBy, nmC, likeL, likeB, plainOb, offs, exL, X, F, trP, trO, stepD, stepW, newA, SV.tr, SV.trL, fz, allP, Ob.tr, loadA, cellsA, SV.cells, binA, binI, eqOut, isSl, isPt, natOf, callee, snap, SV.refsL, SV.refs, thaw, fzAll, loA, hiA, elemOf, partsA, buildA, putCells, ↓reduceIte, reduceCtorEq, okCell, Nat.reduceAdd, Nat.reduceEqDiff, Nat.reduceSub, Nat.reduceMul, Nat.reduceLeDiff, Nat.reduceLT, Nat.reduceBEq, PV.scal, PV.scalL, SV.scal, SV.scalL, Ob.scal, PV.isCell, pure', resO]
            exact hN4 ⟨i2 + 1, _, _, _, _, _, _, _, .junk, .junk, .junk, .junk, _, none, _, _, none⟩ _ _ (by simp only; omega) (by simp only; omega) rfl (by rw [hsm])
      have hi2e : i2 = (lfK nt i (k + 1)).length := by omega
      have h4 : ¬ ((lfK nt i (k + 1)).length : Int) < (lfK nt i (k + 1)).length := by omega
      subst hi2e
      have hmore : ((lfK nt i (k + 1)).take (lfK nt i (k + 1)).length).filter (fun key => !decide (nt (pad3 (dg key i)) ≤ (k + 1) + 1)) = lfK nt i ((k + 1) + 1) := by rw [List.take_length, lf_next]
      obtain ⟨fnd, hfnd⟩ : ∃ fnd, ((lfK nt i (k + 1)).take (lfK nt i (k + 1)).length).filter (fun key => decide (nt (pad3 (dg key i)) ≤ (k + 1) + 1)) = fnd := ⟨_, rfl⟩
      have hfl1 : fnd.length ≤ 9 ^ i := by
        rw [← hfnd]
        have := List.length_filter_le (fun key => decide (nt (pad3 (dg key i)) ≤ (k + 1) + 1)) ((lfK nt i (k + 1)).take (lfK nt i (k + 1)).length)
        rw [List.take_length] at this
        rw [List.take_length]; omega
      have hfm : ∀ x ∈ fnd, x < 9 ^ i := fun x hx => by
        rw [← hfnd] at hx
        exact (lf_mem (List.mem_of_mem_take (List.mem_filter.1 hx).1)).1
      have hB0 := stB_0 nt i (k + 1)
      simp only [h4, nz_len, ints_len, ↓SP, SQ, Gam.add, stepM, callC, argC, lendO, nmBy, nmC, likeL, likeB, plainOb, offs, exL, X, F, trP, trO, stepD, stepW, newA, SV.tr, SV.trL, fz, allP, Ob.tr, loadA, cellsA, SV.cells, binA, binI, eqOut, isSl, isPt, natOf, callee, snap, SV.refsL, SV.refs, thaw, fzAll, loA, hiA, elemOf, partsA, buildA, putCells, ↓reduceIte, reduceCtorEq, okCell, Nat.reduceAdd, Nat.reduceEqDiff, Nat.reduceSub, Nat.reduceMul, Nat.reduceLeDiff, Nat.reduceLT, Nat.reduceBEq, PV.scal, PV.scalL, SV.scal, SV.scalL, Ob.scal, PV.isCell, pure', resO]
      refine hR4 _ _ _ (by intro h; cases h) ?_
      simp only [hmore, hfnd, ↓SP, SQ, Gam.add, stepM, callC, argC, lendO, nmBy, nmC, likeL, likeB, plainOb, offs, exL, X, F, trP, trO, stepD, stepW, newA, SV.tr, SV.trL, fz, allP, Ob.tr, loadA, cellsA, SV.cells, binA, binI, eqOut, isSl, isPt, natOf, callee, snap, SV.refsL, SV.refs, thaw, fzAll, loA, hiA, elemOf, partsA, buildA, putCells, ↓reduceIte, reduceCtorEq, okCell, Nat.reduceAdd, Nat.reduceEqDiff, Nat.reduceSub, Nat.reduceMul, Nat.reduceLeDiff, Nat.reduceLT, Nat.reduceBEq, PV.scal, PV.scalL, SV.scal, SV.scalL, Ob.scal, PV.isCell, pure', resO]
      refine loop_at (fun s : M => mkEnv [(0, si i), (2, .p .nilsl), (3, si ((9 ^ i : Nat) : Int)), (4, si i), (5, .ar 22), (6, .p (.sl 1 (ints (nz (lfK nt i (k + 1)))))), (7, si ((9 ^ i : Nat) : Int)), (8, s.a), (9, si ((k + 1 + 1 : Nat) : Int)), (10, .ar 51), (11, .ar 52), (12, si (lfK nt i (k + 1)).length), (13, si s.i), (16, sb false), (26, sb false), (36, s.c), (41, s.d), (48, sb true), (56, sb false), (66, s.f), (84, s.g)]) (fun s => mkO [(22, some (.arr 1 (ints (stB nt i (k + 1) (fnd.take s.i))))), (23, some (.arr 1 (ints (nz (lfK nt i 0))))), (44, s.o), (45, none), (51, some (.arr 1 (ints (nz fnd)))), (52, some (.arr 1 (ints (nz (lfK nt i ((k + 1) + 1)))))), (72, s.q), (73, none), (79, s.r), (80, none)]) (fun s => s.i ≤ fnd.length) (fun s => fnd.length - s.i) ⟨0, _, .junk, _, _, .junk, _, _, .junk, .junk, .junk, .junk, _, none, _, _, none⟩ (by simp) rfl (by simp only [List.take_zero, hB0]; try rfl) ?_
      rintro ⟨i3, wea, web, wec, wed, wee, wef, weg, weh, wek, wel, wem, weoo, weop, weoq, weor, weot⟩ hi3 R5 hR5 hN5
      simp only at hi3
      by_cases hlt : i3 < fnd.length
      · have h5 : (i3 : Int) < fnd.length := by omega
        have hwi := wrap_one (i := i3) (by omega)
        obtain ⟨key, hkey⟩ : ∃ key, fnd.getD i3 0 = key := ⟨_, rfl⟩
        have hkm := hfm key (by rw [← hkey, getD_lt hlt]; exact List.getElem_mem hlt)
        have hgk := nz_get hlt
        rw [hkey] at hgk
        have hk0 : (0 : Int) ≤ (key : Int) := by omega
        have hbl := stB_len nt i (k + 1) (fnd.take i3)
        have hset := stB_one nt i (k + 1) (fnd.take i3) key
        have ht1 := take_one fnd i3 0 hlt
        rw [hkey] at ht1
        rw [← ht1] at hset
        obtain ⟨e6, he6⟩ : ∃ e, (ints (stB nt i (k + 1) (fnd.take i3)))[key]? = some e := ⟨_, List.getElem?_eq_getElem (by rw [ints_len, hbl]; exact hkm)⟩
        simp only [h5, hlt, hgk, hk0, hkm, hbl, hset, he6, hwi, nz_len, ints_len, ints_set, Int.toNat_natCast, ↓SP, SQ, Gam.add, stepM, callC, argC, lendO, nmBy, nmC, likeL, likeB, plainOb, offs, exL, X, F, trP, trO, stepD, stepW, newA, SV.tr, SV.trL, fz, allP, Ob.tr, loadA, cellsA, SV.cells, binA, binI, eqOut, isSl, isPt, natOf, callee, snap, SV.refsL, SV.refs, thaw, fzAll, loA, hiA, elemOf, partsA, buildA, putCells, ↓reduceIte, reduceCtorEq, okCell, Nat.reduceAdd, Nat.reduceEqDiff, Nat.reduceSub, Nat.reduceMul, Nat.reduceLeDiff, Nat.reduceLT, Nat.reduceBEq, PV.scal, PV.scalL, SV.scal, SV.scalL, Ob.scal, PV.isCell, pure', resO]
        exact hN5 ⟨i3 + 1, _, .junk, _, _, .junk, _, _, .junk, .junk, .junk, .junk, _, none, _, _, none⟩ _ _ (by simp only; omega) (by simp only; omega) rfl rfl
      have hi3e : i3 = fnd.length := by omega
      have h5 : ¬ (fnd.length : Int) < fnd.length := by omega
      subst hi3e
      have hend : stB nt i (k + 1) (fnd.take fnd.length) = tabK nt i ((k + 1) + 1) := by
        rw [List.take_length, ← hfnd, List.take_length, stB_end]
      simp only [h5, nz_len, ints_len, ↓SP, SQ, Gam.add, stepM, callC, argC, lendO, nmBy, nmC, likeL, likeB, plainOb, offs, exL, X, F, trP, trO, stepD, stepW, newA, SV.tr, SV.trL, fz, allP, Ob.tr, loadA, cellsA, SV.cells, binA, binI, eqOut, isSl, isPt, natOf, callee, snap, SV.refsL, SV.refs, thaw, fzAll, loA, hiA, elemOf, partsA, buildA, putCells, ↓reduceIte, reduceCtorEq, okCell, Nat.reduceAdd, Nat.reduceEqDiff, Nat.reduceSub, Nat.reduceMul, Nat.reduceLeDiff, Nat.reduceLT, Nat.reduceBEq, PV.scal, PV.scalL, SV.scal, SV.scalL, Ob.scal, PV.isCell, pure', resO]
      refine hR5 _ _ _ (by intro h; cases h) ?_
      simp only [hend, hw, ↓SP, SQ, Gam.add, stepM, callC, argC, lendO, nmBy, nmC, likeL, likeB, plainOb, offs, exL, X, F, trP, trO, stepD, stepW, newA, SV.tr, SV.trL, fz, allP, Ob.tr, loadA, cellsA, SV.cells, binA, binI, eqOut, isSl, isPt, natOf, callee, snap, SV.refsL, SV.refs, thaw, fzAll, loA, hiA, elemOf, partsA, buildA, putCells, ↓reduceIte, reduceCtorEq, okCell, Nat.reduceAdd, Nat.reduceEqDiff, Nat.reduceSub, Nat.reduceMul, Nat.reduceLeDiff, Nat.reduceLT, Nat.reduceBEq, PV.scal, PV.scalL, SV.scal, SV.scalL, Ob.scal, PV.isCell, pure', resO]
      exact hN3 ⟨(k + 1) + 1, _, _, _, _, _, _, _, _, _, _, _, _, _, _, _, none⟩ _ _ (by simp only; omega) (by simp only; omega) rfl rfl
  have hnil : lfK nt i k = [] := List.length_eq_zero_iff.1 (by omega)
  have hl0 : (lfK nt i k).length = 0 := by omega
  have h00 : ¬ ((0 : Nat) : Int) > 0 := by omega
  have hdone := tab_done (R := 9) hnil hk
  cases k with
  | zero =>
    simp only [hl0, h00, nz_len, ints_len, ↓SP, SQ, Gam.add, stepM, callC, argC, lendO, nmBy, nmC, likeL, likeB, plainOb, offs, exL, X, F, trP, trO, stepD, stepW, newA, SV.tr, SV.trL, fz, allP, Ob.tr, loadA, cellsA, SV.cells, binA, binI, eqOut, isSl, isPt, natOf, callee, snap, SV.refsL, SV.refs, thaw, fzAll, loA, hiA, elemOf, partsA, buildA, putCells, ↓reduceIte, reduceCtorEq, okCell, Nat.reduceAdd, Nat.reduceEqDiff, Nat.reduceSub, Nat.reduceMul, Nat.reduceLeDiff, Nat.reduceLT, Nat.reduceBEq, PV.scal, PV.scalL, SV.scal, SV.scalL, Ob.scal, PV.isCell, pure', resO]
    refine hR3 _ _ _ (by intro h; cases h) ?_
    simp only [hdone, ↓SP, SQ, Gam.add, stepM, callC, argC, lendO, nmBy, nmC, likeL, likeB, plainOb, offs, exL, X, F, trP, trO, stepD, stepW, newA, SV.tr, SV.trL, fz, allP, Ob.tr, loadA, cellsA, SV.cells, binA, binI, eqOut, isSl, isPt, natOf, callee, snap, SV.refsL, SV.refs, thaw, fzAll, loA, hiA, elemOf, partsA, buildA, putCells, ↓reduceIte, reduceCtorEq, okCell, Nat.reduceAdd, Nat.reduceEqDiff, Nat.reduceSub, Nat.reduceMul, Nat.reduceLeDiff, Nat.reduceLT, Nat.reduceBEq, PV.scal, PV.scalL, SV.scal, SV.scalL, Ob.scal, PV.isCell, pure', resO]
    refine finA_gen [22] trivial (by simp [retA, rvA, mkE_cons, mk_nil, mkO_cons, mkO_nil, loadA, SV.tr, SV.trL, nmF, rn_nil, rn_cons1, rn_cons2, plainOb, SV.refsL, SV.refs, Ob.refs, X, F, List.range_succ, mkO, setO_mk]; rfl) ?_ ?_ ?_ ?_ ?_ ?_ ?_ <;> simp [retA, rvA, mkE_cons, mk_nil, mkO_cons, mkO_nil, loadA, SV.tr, SV.trL, nmF, rn_nil, rn_cons1, rn_cons2, plainOb, SV.refsL, SV.refs, Ob.refs, X, F, List.range_succ, mkO, setO_mk]
  | succ k =>
    simp only [hl0, h00, nz_len, ints_len, ↓SP, SQ, Gam.add, stepM, callC, argC, lendO, nmBy, nmC, likeL, likeB, plainOb, offs, exL, X, F, trP, trO, stepD, stepW, newA, SV.tr, SV.trL, fz, allP, Ob.tr, loadA, cellsA, SV.cells, binA, binI, eqOut, isSl, isPt, natOf, callee, snap, SV.refsL, SV.refs, thaw, fzAll, loA, hiA, elemOf, partsA, buildA, putCells, ↓reduceIte, reduceCtorEq, okCell, Nat.reduceAdd, Nat.reduceEqDiff, Nat.reduceSub, Nat.reduceMul, Nat.reduceLeDiff, Nat.reduceLT, Nat.reduceBEq, PV.scal, PV.scalL, SV.scal, SV.scalL, Ob.scal, PV.isCell, pure', resO]
    refine hR3 _ _ _ (by intro h; cases h) ?_
    simp only [hdone, ↓SP, SQ, Gam.add, stepM, callC, argC, lendO, nmBy, nmC, likeL, likeB, plainOb, offs, exL, X, F, trP, trO, stepD, stepW, newA, SV.tr, SV.trL, fz, allP, Ob.tr, loadA, cellsA, SV.cells, binA, binI, eqOut, isSl, isPt, natOf, callee, snap, SV.refsL, SV.refs, thaw, fzAll, loA, hiA, elemOf, partsA, buildA, putCells, ↓reduceIte, reduceCtorEq, okCell, Nat.reduceAdd, Nat.reduceEqDiff, Nat.reduceSub, Nat.reduceMul, Nat.reduceLeDiff, Nat.reduceLT, Nat.reduceBEq, PV.scal, PV.scalL, SV.scal, SV.scalL, Ob.scal, PV.isCell, pure', resO]
    refine finA_gen [22] trivial (by simp [retA, rvA, mkE_cons, mk_nil, mkO_cons, mkO_nil, loadA, SV.tr, SV.trL, nmF, rn_nil, rn_cons1, rn_cons2, plainOb, SV.refsL, SV.refs, Ob.refs, X, F, List.range_succ, mkO, setO_mk]; rfl) ?_ ?_ ?_ ?_ ?_ ?_ ?_ <;> simp [retA, rvA, mkE_cons, mk_nil, mkO_cons, mkO_nil, loadA, SV.tr, SV.trL, nmF, rn_nil, rn_cons1, rn_cons2, plainOb, SV.refsL, SV.refs, Ob.refs, X, F, List.range_succ, mkO, setO_mk]
def a_bothA (f_answered : FuncId) : AFn := ⟨2, 
  .seq (.reg [⟨some 2, none, .w (.box 2 (.t 0))⟩,
    ⟨some 4, none, .w (.alloc [.nilsl, .int .i64 0, .nilsl, .int .i64 0])⟩])
  (.seq (.dreg [] [([], ⟨some 5, none, .d (.load true 2 (.t 2))⟩),
    ([], ⟨some 6, none, .d (.mv (.t 1))⟩),
    ([], ⟨some 7, none, .d (.build [.int .i64 0, .bool false] [(0, 1, (.t 6)), (1, 1, (.c (.bool false)))])⟩),
    ([], ⟨some 8, none, .d (.call (.f f_answered) [(.t 5), (.t 7)])⟩),
    ([], ⟨some 9, none, .d (.load true 2 (.t 2))⟩),
    ([], ⟨some 10, none, .d (.mv (.t 1))⟩),
    ([], ⟨some 11, none, .d (.build [.int .i64 0, .bool false] [(0, 1, (.t 10)), (1, 1, (.c (.bool true)))])⟩)] [⟨some 12, none, .d (.call (.f f_answered) [(.t 9), (.t 11)])⟩,
    ⟨some 13, none, .d (.build [.nilsl, .int .i64 0, .nilsl, .int .i64 0] [(0, 2, (.t 8)), (2, 2, (.t 12))])⟩,
    ⟨none, none, .w (.store 4 (.t 4) (.t 13))⟩])
  (.ret)), [.cell 4 4 true]⟩
def n_bothA : Nat → Option Ann := fun _ => none
abbrev k_bothA : List Nat := [0, 1, 2, 4]
abbrev o_bothA : List Nat := [2, 4]
def c_bothA : Con := pure' fun
  | [.p (.agg [.sl 1 x_, .int .i64 m]), .p (.int .i64 q)] => if isI x_ = true ∧ ((ofI x_).length ≤ 1100000 ∧ ((ofI x_).all fun v => decide (v ≤ 1000)) = true) then some (.ag [.p (.sl 1 (ints (afterL (fun i => (bitW q (i : Int) == 1) != false) m (ofI x_)))), .p (.int .i64 m), .p (.sl 1 (ints (afterL (fun i => (bitW q (i : Int) == 1) != true) m (ofI x_)))), .p (.int .i64 m)], []) else none
  | _ => none
theorem s_bothA {P : Program} (hm : P.follows .mixedOrders = true) {Γ : Gam} (hΓ : GS P Γ) {n : FuncId} {f_answered : FuncId} (is : Is P n (a_bothA f_answered)) (h_answered : Γ f_answered = c_answered)  : Says P n c_bothA := by
  refine Says.pure fun args r fs h => ?_
  split at h
  case h_2 => cases h
  rename_i x_ m q
  split at h
  case isFalse => cases h
  rename_i hc
  obtain ⟨hx_, hc⟩ := hc
  obtain ⟨x, rfl⟩ := isI_out hx_
  simp only [ofI_ints, ofBo_bools, ofAs_asks, Option.some.injEq, Prod.mk.injEq] at h hc
  obtain ⟨rfl, rfl⟩ := h
  refine is.go hm hΓ k_bothA o_bothA (by simp [a_bothA]) ?_
  simp only [a_bothA, h_answered, c_answered, hc, List.zipIdx_cons, List.zipIdx_nil, ↓SP, SQ, Gam.add, stepM, callC, argC, lendO, nmBy, nmC, likeL, likeB, plainOb, offs, exL, X, F, trP, trO, stepD, stepW, newA, SV.tr, SV.trL, fz, allP, Ob.tr, loadA, cellsA, SV.cells, binA, binI, eqOut, isSl, isPt, natOf, callee, snap, SV.refsL, SV.refs, thaw, fzAll, loA, hiA, elemOf, partsA, buildA, putCells, ↓reduceIte, reduceCtorEq, okCell, Nat.reduceAdd, Nat.reduceEqDiff, Nat.reduceSub, Nat.reduceMul, Nat.reduceLeDiff, Nat.reduceLT, Nat.reduceBEq, PV.scal, PV.scalL, SV.scal, SV.scalL, Ob.scal, PV.isCell, pure', resO]
  exact finA_val (by simp [retA, rvA, mkE_cons, mk_nil, mkO_cons, mkO_nil, loadA, SV.tr, SV.trL, nmF, rn_nil, rn_cons1, rn_cons2, plainOb, SV.refsL, SV.refs, Ob.refs, X, F, List.range_succ, mkO, setO_mk]) (by simp [SV.tr, SV.trL])
def ntR (both : Bool) : List Int → Nat := if both = true then ntT tabB else ntT tabO
def ndI (both : Bool) (c : List Int) : Int := (ntR both (pad3 c) : Int)
theorem okC_pad {c : List Int} (h : okC c = true) : pad3 c ∈ allT := by
  obtain ⟨⟨h1, h3⟩, h8, hs⟩ := okC_out h
  rw [mem_allT]
  have q := in8_get h8
  match c, h1, h3 with
  | [a], _, _ =>
    have h0 := q 0
    simp at h0 hs
    simp [pad3, inT]; omega
  | [a, b], _, _ =>
    have h0 := q 0
    have h1 := q 1
    simp at h0 h1 hs
    simp [pad3, inT]; omega
  | [a, b, d], _, _ =>
    have h0 := q 0
    have h1 := q 1
    have h2 := q 2
    simp at h0 h1 h2 hs
    simp [pad3, inT]; omega
theorem eL_val {nt : List Int → Nat} : ∀ k, ∀ e ∈ eL nt k, 0 ≤ e.2 ∧ e.2 ≤ (k : Int)
  | 0, e, h => by
    simp only [eL, List.mem_map] at h
    obtain ⟨t, _, rfl⟩ := h
    simp
  | k + 1, e, h => by
    simp only [eL, List.mem_append, List.mem_map] at h
    rcases h with h | ⟨t, _, rfl⟩
    · have := eL_val k e h; omega
    · simp only; omega
theorem okE_nES (both : Bool) : okE (nES both) = true := by
  cases both
  · exact okE_ents (all3_eL _ _) fun e he => by have := eL_val 6 e he; omega
  · exact okE_ents (all3_eL _ _) fun e he => by have := eL_val 9 e he; omega
theorem ofE_nES (both : Bool) {c : List Int} (h : okC c = true) : ofE (nES both) c = ndI both c := by
  have hp := okC_pad h
  have hl := pad3_len (okC_out h).1.2
  cases both
  · simp only [nES, Bool.false_eq_true, if_false, ofE, look_ents hl (all3_eL _ _), lk_eL hp, if_pos (ntO.top _ hp), Option.map_some, ndI, ntR]
  · simp only [nES, if_true, ofE, look_ents hl (all3_eL _ _), lk_eL hp, if_pos (ntB.top _ hp), Option.map_some, ndI, ntR]
theorem tab_nd {c : List Int} (h : okC c = true) : (tabK (ntT tabB) c.length 9).getD (keyN c) 0 = ndI true c ∧ (tabK (ntT tabO) c.length 6).getD (keyN c) 0 = ndI false c := by
  have hp := okC_pad h
  obtain ⟨⟨h1, h3⟩, h8, hs⟩ := okC_out h
  rw [tabK_at rfl h3 h8 hs, tabK_at rfl h3 h8 hs, if_pos (ntB.top _ hp), if_pos (ntO.top _ hp)]
  exact ⟨rfl, rfl⟩
theorem neederOf_both {Γ1 : Gam} {g : FuncId} (h : Γ1 g = c_bothWays) : c_neederOf Γ1 [.p (.fn g [] [])] [] = some (.ag [.p (.fn g [] []), .p (.mapv (nES true))], [], []) := by simp [c_neederOf, pure', h]
def cntP (p : Nat → Bool) (m : Int) (x : List Int) (i : Nat) : List Int := (List.range (m + 1).toNat).map fun j : Nat => (((List.range i).filter fun k => p k && decide (x.getD k 0 = (j : Int))).length : Int)
theorem cntP_len (p : Nat → Bool) (m : Int) (x : List Int) (i : Nat) : (cntP p m x i).length = (m + 1).toNat := by simp [cntP]
theorem cntP_0 (p : Nat → Bool) (m : Int) (x : List Int) : List.replicate (m + 1).toNat (0 : Int) = cntP p m x 0 := by
  apply List.ext_getElem
  · simp [cntP]
  · intro i h1 h2; simp [cntP]
theorem cntP_get {p : Nat → Bool} {m : Int} {x : List Int} {i j : Nat} (h : j < (m + 1).toNat) : (cntP p m x i).getD j 0 = (((List.range i).filter fun k => p k && decide (x.getD k 0 = (j : Int))).length : Int) := by
  rw [getD_lt (by rw [cntP_len]; exact h)]; simp [cntP]
theorem cntP_bd {p : Nat → Bool} {m : Int} {x : List Int} {i j : Nat} : 0 ≤ (cntP p m x i).getD j 0 ∧ (cntP p m x i).getD j 0 ≤ i := by
  by_cases h : j < (m + 1).toNat
  · rw [cntP_get h]
    have := List.length_filter_le (fun k => p k && decide (x.getD k 0 = (j : Int))) (List.range i)
    rw [List.length_range] at this
    omega
  · rw [List.getD_eq_getElem?_getD, List.getElem?_eq_none (by rw [cntP_len]; omega)]; simp
theorem cntP_hit {p : Nat → Bool} {m : Int} {x : List Int} {i : Nat} (hp : p i = true) (h0 : 0 ≤ x.getD i 0) (hm : x.getD i 0 ≤ m) : (cntP p m x i).set (x.getD i 0).toNat ((cntP p m x i).getD (x.getD i 0).toNat 0 + 1) = cntP p m x (i + 1) := by
  rw [cntP_get (by omega), cntP, range_set, cntP]
  apply List.map_congr_left
  intro j _
  rw [List.range_succ, List.filter_append]
  by_cases h : j = (x.getD i 0).toNat
  · have e : x.getD i 0 = (j : Int) := by omega
    rw [if_pos h, ← h]
    simp only [List.filter_cons, hp, dec_t e, Bool.and_self, List.filter_nil, if_true, List.length_append, List.length_cons, List.length_nil]
    omega
  · have e : ¬ x.getD i 0 = (j : Int) := by omega
    rw [if_neg h]
    simp only [List.filter_cons, dec_f e, Bool.and_false, List.filter_nil, Bool.false_eq_true, if_false, List.append_nil]
theorem cntP_miss {p : Nat → Bool} {m : Int} {x : List Int} {i : Nat} (h : p i = false ∨ ¬ 0 ≤ x.getD i 0) : cntP p m x (i + 1) = cntP p m x i := by
  rw [cntP, cntP]
  apply List.map_congr_left
  intro j _
  rw [List.range_succ, List.filter_append]
  have : (p i && decide (x.getD i 0 = (j : Int))) = false := by
    rcases h with h | h
    · rw [h]; rfl
    · rw [dec_f (show ¬ x.getD i 0 = (j : Int) by omega), Bool.and_false]
  simp only [List.filter_cons, this, List.filter_nil, Bool.false_eq_true, if_false, List.append_nil]
theorem sum_set {l : List Int} {q : Nat} (h : q < l.length) : (l.set q (l.getD q 0 + 1)).sum = l.sum + 1 := by
  induction l generalizing q with
  | nil => simp at h
  | cons a r ih =>
    cases q with
    | zero => simp; omega
    | succ q =>
      have := ih (q := q) (by simpa using h)
      simp only [List.set_cons_succ, List.getD_cons_succ, List.sum_cons] at this ⊢
      omega
theorem cnt_sum {m : Int} {x : List Int} (hx : ∀ k, k < x.length → x.getD k 0 ≤ m) (hm : 0 ≤ m) : ∀ i, i ≤ x.length → (cntP (fun _ => true) m x i).sum = ((opensI x i).length : Int)
  | 0, _ => by rw [← cntP_0]; simp [opensI]
  | i + 1, h => by
    have ih := cnt_sum hx hm i (by omega)
    by_cases h0 : 0 ≤ x.getD i 0
    · have hxi := hx i (by omega)
      rw [← cntP_hit (p := fun _ => true) rfl h0 hxi, sum_set (by rw [cntP_len]; omega), ih, ← opensI_yes x i h0]
      simp
    · rw [cntP_miss (.inr h0), ih, opensI_no x i h0]
def cntL (m : Int) (x : List Int) : List Int := cntP (fun _ => true) m x x.length
theorem st_out {x : List Int} {m : Int} (h : isSt x m = true) : (1 ≤ x.length ∧ x.length ≤ 12) ∧ (0 ≤ m ∧ m ≤ 2) ∧ ∀ k, k < x.length → -1 ≤ x.getD k 0 ∧ x.getD k 0 ≤ m := by
  simp only [isSt, Bool.and_eq_true, decide_eq_true_eq, List.all_eq_true] at h
  refine ⟨by omega, h.1.2, fun k hk => h.2 _ (by rw [getD_lt hk]; exact List.getElem_mem hk)⟩
theorem mem_le_sum {l : List Int} (h : ∀ v ∈ l, 0 ≤ v) : 0 ≤ l.sum ∧ ∀ v ∈ l, v ≤ l.sum := by
  induction l with
  | nil => simp
  | cons a r ih =>
    obtain ⟨h1, h2⟩ := ih fun v hv => h v (by simp [hv])
    have ha := h a (by simp)
    simp only [List.sum_cons]
    refine ⟨by omega, fun v hv => ?_⟩
    rcases List.mem_cons.1 hv with e | hv
    · omega
    · have := h2 v hv; omega
theorem cnt_okC {x : List Int} {m : Int} (h : isSt x m = true) (ho : (opens x).length ≤ 8) : okC (cntL m x) = true ∧ (cntL m x).sum = ((opens x).length : Int) ∧ (cntL m x).length = (m + 1).toNat := by
  obtain ⟨hl, hm, hx⟩ := st_out h
  have hs : (cntL m x).sum = ((opens x).length : Int) := cnt_sum (fun k hk => (hx k hk).2) hm.1 x.length (Nat.le_refl _)
  have hlen : (cntL m x).length = (m + 1).toNat := cntP_len ..
  refine ⟨?_, hs, hlen⟩
  have hnn : ∀ v ∈ cntL m x, 0 ≤ v := fun v hv => by
    simp only [cntL, cntP, List.mem_map] at hv
    obtain ⟨j, _, rfl⟩ := hv
    omega
  have hb := (mem_le_sum hnn).2
  simp only [okC, hlen, hs, Bool.and_eq_true, decide_eq_true_eq, in8, List.all_eq_true]
  refine ⟨⟨⟨by omega, by omega⟩, fun v hv => ?_⟩, by omega⟩
  have := hb v hv
  have := hnn v hv
  omega
theorem afterL_st {f : Nat → Bool} {m : Int} {x : List Int} (h : isSt x m = true) : isSt (afterL f m x) m = true ∧ (opens (afterL f m x)).length ≤ (opens x).length := by
  obtain ⟨hl, hm, hx⟩ := st_out h
  have hlen := afterL_len f m x
  have hget : ∀ k, k < x.length → (afterL f m x).getD k 0 = afterF f m x k := fun k hk => by
    rw [getD_lt (by rw [hlen]; exact hk)]; simp [afterL]
  refine ⟨?_, ?_⟩
  · simp only [isSt, hlen, Bool.and_eq_true, decide_eq_true_eq, List.all_eq_true]
    refine ⟨⟨by omega, hm⟩, fun v hv => ?_⟩
    simp only [afterL, List.mem_map, List.mem_range] at hv
    obtain ⟨k, hk, rfl⟩ := hv
    have := hx k hk
    simp only [afterF]
    split
    · split <;> omega
    · omega
  · simp only [opens, opensI, List.length_map, hlen]
    have : ((List.range x.length).filter fun j => decide (0 ≤ (afterL f m x).getD j 0)) = ((List.range x.length).filter fun j => decide (0 ≤ x.getD j 0)).filter fun j => decide (0 ≤ (afterL f m x).getD j 0) := by
      rw [List.filter_filter]
      apply List.filter_congr
      intro k hk
      have hk := List.mem_range.1 hk
      rw [Bool.eq_iff_iff]
      simp only [Bool.and_eq_true, decide_eq_true_eq]
      refine ⟨fun g => ⟨g, ?_⟩, fun g => g.1⟩
      rw [hget k hk] at g
      simp only [afterF] at g
      split at g
      · rename_i hc; exact hc.1
      · exact g
    rw [this]
    exact List.length_filter_le _ _
def a_countsS : AFn := ⟨1, 
  .seq (.reg [⟨some 1, none, .w (.box 2 (.t 0))⟩,
    ⟨some 2, none, .d (.mv (.c (.nilsl)))⟩])
  (.seq (.reg [⟨some 6, none, .d (.fa 1 (.t 1))⟩,
    ⟨some 7, none, .d (.load false 1 (.t 6))⟩,
    ⟨some 8, none, .d (.bin .arith .add (.t 7) (.c (.int .i64 1)))⟩,
    ⟨some 9, none, .w (.mkslice 1 (.int .i64 0) (.t 8))⟩,
    ⟨some 3, none, .d (.mv (.t 9))⟩])
  (.seq (.seq (.reg [⟨some 10, none, .d (.fa 0 (.t 1))⟩,
    ⟨some 11, none, .d (.load false 1 (.t 10))⟩,
    ⟨some 12, none, .d (.len (.t 11))⟩,
    ⟨some 13, none, .d (.mv (.c (.int .i64 0)))⟩])
  (.block 0 (.loop (.seq (.reg [⟨some 14, none, .d (.bin .arith .lss (.t 13) (.t 12))⟩])
    (.seq (.cond (.t 14) (.skip) (.exit 0))
    (.seq (.block 1 (.seq (.reg [⟨some 15, none, .d (.ia 1 (.t 11) (.t 13))⟩,
       ⟨some 16, none, .d (.load false 1 (.t 15))⟩,
       ⟨some 5, none, .d (.mv (.t 16))⟩])
     (.seq (.reg [⟨some 17, none, .d (.mv (.t 5))⟩,
       ⟨some 18, none, .d (.bin .arith .geq (.t 17) (.c (.int .i64 0)))⟩])
     (.cond (.t 18) (.reg [⟨some 19, none, .d (.mv (.t 3))⟩,
        ⟨some 20, none, .d (.mv (.t 5))⟩,
        ⟨some 21, none, .d (.ia 1 (.t 19) (.t 20))⟩,
        ⟨some 22, none, .d (.load false 1 (.t 21))⟩,
        ⟨some 23, none, .d (.bin .arith .add (.t 22) (.c (.int .i64 1)))⟩,
        ⟨some 24, none, .d (.ia 1 (.t 19) (.t 20))⟩,
        ⟨none, none, .w (.store 1 (.t 24) (.t 23))⟩]) (.skip)))))
    (.reg [⟨some 25, none, .d (.bin .arith .add (.t 13) (.c (.int .i64 1)))⟩,
      ⟨some 13, none, .d (.mv (.t 25))⟩])))))))
  (.seq (.reg [⟨some 26, none, .d (.mv (.t 3))⟩,
    ⟨some 2, none, .d (.mv (.t 26))⟩])
  (.ret)))), [.tmp 2]⟩
def n_countsS : Nat → Option Ann := fun _ => none
abbrev k_countsS : List Nat := [0, 1, 2, 3, 5, 11, 12, 13, 14, 18]
abbrev o_countsS : List Nat := [1, 9]
def a_l2Counts : AFn := ⟨1, 
  .seq (.reg [⟨some 1, none, .w (.box 2 (.t 0))⟩,
    ⟨some 2, none, .d (.mv (.c (.nilsl)))⟩])
  (.seq (.reg [⟨some 5, none, .d (.fa 1 (.t 1))⟩,
    ⟨some 6, none, .d (.load false 1 (.t 5))⟩,
    ⟨some 7, none, .d (.bin .arith .add (.t 6) (.c (.int .i64 1)))⟩,
    ⟨some 8, none, .w (.mkslice 1 (.int .i64 0) (.t 7))⟩,
    ⟨some 3, none, .d (.mv (.t 8))⟩])
  (.seq (.seq (.reg [⟨some 4, none, .d (.mv (.c (.int .i64 0)))⟩])
  (.block 0 (.loop (.seq (.seq (.reg [⟨some 9, none, .d (.mv (.t 4))⟩,
      ⟨some 10, none, .d (.fa 0 (.t 1))⟩,
      ⟨some 11, none, .d (.load false 1 (.t 10))⟩,
      ⟨some 12, none, .d (.len (.t 11))⟩,
      ⟨some 13, none, .d (.bin .arith .lss (.t 9) (.t 12))⟩])
    (.cond (.t 13) (.skip) (.exit 0)))
    (.seq (.block 1 (.seq (.reg [⟨some 16, none, .d (.fa 0 (.t 1))⟩,
       ⟨some 17, none, .d (.load false 1 (.t 16))⟩,
       ⟨some 18, none, .d (.mv (.t 4))⟩,
       ⟨some 19, none, .d (.ia 1 (.t 17) (.t 18))⟩,
       ⟨some 20, none, .d (.load false 1 (.t 19))⟩,
       ⟨some 21, none, .d (.bin .arith .geq (.t 20) (.c (.int .i64 0)))⟩])
     (.cond (.t 21) (.reg [⟨some 22, none, .d (.mv (.t 3))⟩,
        ⟨some 23, none, .d (.fa 0 (.t 1))⟩,
        ⟨some 24, none, .d (.load false 1 (.t 23))⟩,
        ⟨some 25, none, .d (.mv (.t 4))⟩,
        ⟨some 26, none, .d (.ia 1 (.t 24) (.t 25))⟩,
        ⟨some 27, none, .d (.load false 1 (.t 26))⟩,
        ⟨some 28, none, .d (.ia 1 (.t 22) (.t 27))⟩,
        ⟨some 29, none, .d (.load false 1 (.t 28))⟩,
        ⟨some 30, none, .d (.bin .arith .add (.t 29) (.c (.int .i64 1)))⟩,
        ⟨some 31, none, .d (.ia 1 (.t 22) (.t 27))⟩,
        ⟨none, none, .w (.store 1 (.t 31) (.t 30))⟩]) (.skip))))
    (.reg [⟨some 14, none, .d (.mv (.t 4))⟩,
      ⟨some 15, none, .d (.bin .arith .add (.t 14) (.c (.int .i64 1)))⟩,
      ⟨some 4, none, .d (.mv (.t 15))⟩]))))))
  (.seq (.reg [⟨some 32, none, .d (.mv (.t 3))⟩,
    ⟨some 2, none, .d (.mv (.t 32))⟩])
  (.ret)))), [.tmp 2]⟩
def n_l2Counts : Nat → Option Ann := fun _ => none
abbrev k_l2Counts : List Nat := [0, 1, 2, 3, 4, 13, 21]
abbrev o_l2Counts : List Nat := [1, 8]
def c_countsS : Con := pure' fun
  | [.p (.agg [.sl 1 x_, .int .i64 m])] => if isI x_ = true ∧ (isSt (ofI x_) m = true) then some (.ar 2000000, [.arr 1 (ints (cntL m (ofI x_)))]) else none
  | _ => none
theorem s_countsS {P : Program} (hm : P.follows .mixedOrders = true) {Γ : Gam} (hΓ : GS P Γ) {n : FuncId} (is : Is P n a_countsS)  : Says P n c_countsS := by
  refine Says.pure fun args r fs h => ?_
  split at h
  case h_2 => cases h
  rename_i x_ m
  split at h
  case isFalse => cases h
  rename_i hc
  obtain ⟨hx_, hc⟩ := hc
  obtain ⟨x, rfl⟩ := isI_out hx_
  simp only [ofI_ints, ofBo_bools, ofAs_asks, Option.some.injEq, Prod.mk.injEq] at h hc
  obtain ⟨rfl, rfl⟩ := h
  obtain ⟨⟨hl1, hl2⟩, ⟨hm0, hm2⟩, hx⟩ := st_out hc
  have hwm : IntKind.i64.wrap (m + 1) = m + 1 := wrap64 (by omega) (by omega)
  have hm1 : (0 : Int) ≤ m + 1 := by omega
  have hroom : (m + 1).toNat ≤ roomA := by unfold roomA; omega
  have hz := cntP_0 (fun _ => true) m x
  refine is.go hm hΓ k_countsS o_countsS (by simp [a_countsS]) ?_
  simp only [a_countsS, hwm, hm1, hroom, ints_rep, hz, List.zipIdx_cons, List.zipIdx_nil, ↓SP, SQ, Gam.add, stepM, callC, argC, lendO, nmBy, nmC, likeL, likeB, plainOb, offs, exL, X, F, trP, trO, stepD, stepW, newA, SV.tr, SV.trL, fz, allP, Ob.tr, loadA, cellsA, SV.cells, binA, binI, eqOut, isSl, isPt, natOf, callee, snap, SV.refsL, SV.refs, thaw, fzAll, loA, hiA, elemOf, partsA, buildA, putCells, ↓reduceIte, reduceCtorEq, okCell, Nat.reduceAdd, Nat.reduceEqDiff, Nat.reduceSub, Nat.reduceMul, Nat.reduceLeDiff, Nat.reduceLT, Nat.reduceBEq, PV.scal, PV.scalL, SV.scal, SV.scalL, Ob.scal, PV.isCell, pure', resO]
  refine loop_at (fun s : Nat × SV × SV × SV => mkEnv [(0, .p (.agg [.sl 1 (ints x), .int .i64 m])), (1, .bx 1 0), (2, .p .nilsl), (3, .ar 9), (5, s.2.1), (11, .p (.sl 1 (ints x))), (12, si x.length), (13, si s.1), (14, s.2.2.1), (18, s.2.2.2)]) (fun s => mkO [(1, some (.box [.p (.sl 1 (ints x)), si m])), (9, some (.arr 1 (ints (cntP (fun _ => true) m x s.1))))]) (fun s => s.1 ≤ x.length) (fun s => x.length - s.1) (0, .junk, .junk, .junk) (by simp) rfl rfl ?_
  rintro ⟨i, c1, c2, c3⟩ hi R hR hN
  simp only at hi
  by_cases h : i < x.length
  · have h1 : (i : Int) < x.length := by omega
    have hw := wrap_one (i := i) (by omega)
    have hg := ints_get h
    have hxi := hx i h
    by_cases h0 : 0 ≤ x.getD i 0
    · have h0' : x.getD i 0 ≥ 0 := h0
      have hcl := cntP_len (fun _ => true) m x i
      have hlt : (x.getD i 0).toNat < (m + 1).toNat := by omega
      have hge := ints_get (l := cntP (fun _ => true) m x i) (i := (x.getD i 0).toNat) (by rw [hcl]; exact hlt)
      have hb := cntP_bd (p := fun _ => true) (m := m) (x := x) (i := i) (j := (x.getD i 0).toNat)
      have hw1 : IntKind.i64.wrap ((cntP (fun _ => true) m x i).getD (x.getD i 0).toNat 0 + 1) = (cntP (fun _ => true) m x i).getD (x.getD i 0).toNat 0 + 1 := wrap64 (by omega) (by omega)
      have hset := cntP_hit (p := fun _ => true) (i := i) rfl h0 hxi.2
      simp only [h1, hw, hg, h0, h0', hcl, hlt, hge, hw1, hset, ints_len, ints_set, ↓SP, SQ, Gam.add, stepM, callC, argC, lendO, nmBy, nmC, likeL, likeB, plainOb, offs, exL, X, F, trP, trO, stepD, stepW, newA, SV.tr, SV.trL, fz, allP, Ob.tr, loadA, cellsA, SV.cells, binA, binI, eqOut, isSl, isPt, natOf, callee, snap, SV.refsL, SV.refs, thaw, fzAll, loA, hiA, elemOf, partsA, buildA, putCells, ↓reduceIte, reduceCtorEq, okCell, Nat.reduceAdd, Nat.reduceEqDiff, Nat.reduceSub, Nat.reduceMul, Nat.reduceLeDiff, Nat.reduceLT, Nat.reduceBEq, PV.scal, PV.scalL, SV.scal, SV.scalL, Ob.scal, PV.isCell, pure', resO]
      exact hN (i + 1, _, _, _) _ _ (by simp only; omega) (by simp only; omega) rfl rfl
    · have h0' : ¬ x.getD i 0 ≥ 0 := h0
      have hmi := cntP_miss (p := fun _ => true) (m := m) (i := i) (.inr h0)
      simp only [h1, hw, hg, h0', ↓SP, SQ, Gam.add, stepM, callC, argC, lendO, nmBy, nmC, likeL, likeB, plainOb, offs, exL, X, F, trP, trO, stepD, stepW, newA, SV.tr, SV.trL, fz, allP, Ob.tr, loadA, cellsA, SV.cells, binA, binI, eqOut, isSl, isPt, natOf, callee, snap, SV.refsL, SV.refs, thaw, fzAll, loA, hiA, elemOf, partsA, buildA, putCells, ↓reduceIte, reduceCtorEq, okCell, Nat.reduceAdd, Nat.reduceEqDiff, Nat.reduceSub, Nat.reduceMul, Nat.reduceLeDiff, Nat.reduceLT, Nat.reduceBEq, PV.scal, PV.scalL, SV.scal, SV.scalL, Ob.scal, PV.isCell, pure', resO]
      exact hN (i + 1, _, _, _) _ _ (by simp only; omega) (by simp only; omega) rfl (by rw [hmi])
  · have he : i = x.length := by omega
    have h1 : ¬ (i : Int) < x.length := by omega
    simp only [h1, ↓SP, SQ, Gam.add, stepM, callC, argC, lendO, nmBy, nmC, likeL, likeB, plainOb, offs, exL, X, F, trP, trO, stepD, stepW, newA, SV.tr, SV.trL, fz, allP, Ob.tr, loadA, cellsA, SV.cells, binA, binI, eqOut, isSl, isPt, natOf, callee, snap, SV.refsL, SV.refs, thaw, fzAll, loA, hiA, elemOf, partsA, buildA, putCells, ↓reduceIte, reduceCtorEq, okCell, Nat.reduceAdd, Nat.reduceEqDiff, Nat.reduceSub, Nat.reduceMul, Nat.reduceLeDiff, Nat.reduceLT, Nat.reduceBEq, PV.scal, PV.scalL, SV.scal, SV.scalL, Ob.scal, PV.isCell, pure', resO]
    refine hR _ _ _ (by intro h; cases h) ?_
    simp only [↓SP, SQ, Gam.add, stepM, callC, argC, lendO, nmBy, nmC, likeL, likeB, plainOb, offs, exL, X, F, trP, trO, stepD, stepW, newA, SV.tr, SV.trL, fz, allP, Ob.tr, loadA, cellsA, SV.cells, binA, binI, eqOut, isSl, isPt, natOf, callee, snap, SV.refsL, SV.refs, thaw, fzAll, loA, hiA, elemOf, partsA, buildA, putCells, ↓reduceIte, reduceCtorEq, okCell, Nat.reduceAdd, Nat.reduceEqDiff, Nat.reduceSub, Nat.reduceMul, Nat.reduceLeDiff, Nat.reduceLT, Nat.reduceBEq, PV.scal, PV.scalL, SV.scal, SV.scalL, Ob.scal, PV.isCell, pure', resO]
    subst he
    refine finA_gen [9] trivial (by simp [retA, rvA, mkE_cons, mk_nil, mkO_cons, mkO_nil, loadA, SV.tr, SV.trL, nmF, rn_nil, rn_cons1, rn_cons2, plainOb, SV.refsL, SV.refs, Ob.refs, X, F, List.range_succ, mkO, setO_mk]; rfl) ?_ ?_ ?_ ?_ ?_ ?_ ?_ <;> simp [cntL, retA, rvA, mkE_cons, mk_nil, mkO_cons, mkO_nil, loadA, SV.tr, SV.trL, nmF, rn_nil, rn_cons1, rn_cons2, plainOb, SV.refsL, SV.refs, Ob.refs, X, F, List.range_succ, mkO, setO_mk]
theorem s_l2Counts {P : Program} (hm : P.follows .mixedOrders = true) {Γ : Gam} (hΓ : GS P Γ) {n : FuncId} (is : Is P n a_l2Counts)  : Says P n c_countsS := by
  refine Says.pure fun args r fs h => ?_
  split at h
  case h_2 => cases h
  rename_i x_ m
  split at h
  case isFalse => cases h
  rename_i hc
  obtain ⟨hx_, hc⟩ := hc
  obtain ⟨x, rfl⟩ := isI_out hx_
  simp only [ofI_ints, ofBo_bools, ofAs_asks, Option.some.injEq, Prod.mk.injEq] at h hc
  obtain ⟨rfl, rfl⟩ := h
  obtain ⟨⟨hl1, hl2⟩, ⟨hm0, hm2⟩, hx⟩ := st_out hc
  have hwm : IntKind.i64.wrap (m + 1) = m + 1 := wrap64 (by omega) (by omega)
  have hm1 : (0 : Int) ≤ m + 1 := by omega
  have hroom : (m + 1).toNat ≤ roomA := by unfold roomA; omega
  have hz := cntP_0 (fun _ => true) m x
  refine is.go hm hΓ k_l2Counts o_l2Counts (by simp [a_l2Counts]) ?_
  simp only [a_l2Counts, hwm, hm1, hroom, ints_rep, hz, List.zipIdx_cons, List.zipIdx_nil, ↓SP, SQ, Gam.add, stepM, callC, argC, lendO, nmBy, nmC, likeL, likeB, plainOb, offs, exL, X, F, trP, trO, stepD, stepW, newA, SV.tr, SV.trL, fz, allP, Ob.tr, loadA, cellsA, SV.cells, binA, binI, eqOut, isSl, isPt, natOf, callee, snap, SV.refsL, SV.refs, thaw, fzAll, loA, hiA, elemOf, partsA, buildA, putCells, ↓reduceIte, reduceCtorEq, okCell, Nat.reduceAdd, Nat.reduceEqDiff, Nat.reduceSub, Nat.reduceMul, Nat.reduceLeDiff, Nat.reduceLT, Nat.reduceBEq, PV.scal, PV.scalL, SV.scal, SV.scalL, Ob.scal, PV.isCell, pure', resO]
  refine loop_at (fun s : Nat × SV × SV => mkEnv [(0, .p (.agg [.sl 1 (ints x), .int .i64 m])), (1, .bx 1 0), (2, .p .nilsl), (3, .ar 8), (4, si s.1), (13, s.2.1), (21, s.2.2)]) (fun s => mkO [(1, some (.box [.p (.sl 1 (ints x)), si m])), (8, some (.arr 1 (ints (cntP (fun _ => true) m x s.1))))]) (fun s => s.1 ≤ x.length) (fun s => x.length - s.1) (0, .junk, .junk) (by simp) rfl rfl ?_
  rintro ⟨i, c1, c2⟩ hi R hR hN
  simp only at hi
  by_cases h : i < x.length
  · have h1 : (i : Int) < x.length := by omega
    have hw := wrap_one (i := i) (by omega)
    have hg := ints_get h
    have hxi := hx i h
    by_cases h0 : 0 ≤ x.getD i 0
    · have h0' : x.getD i 0 ≥ 0 := h0
      have hcl := cntP_len (fun _ => true) m x i
      have hlt : (x.getD i 0).toNat < (m + 1).toNat := by omega
      have hge := ints_get (l := cntP (fun _ => true) m x i) (i := (x.getD i 0).toNat) (by rw [hcl]; exact hlt)
      have hb := cntP_bd (p := fun _ => true) (m := m) (x := x) (i := i) (j := (x.getD i 0).toNat)
      have hw1 : IntKind.i64.wrap ((cntP (fun _ => true) m x i).getD (x.getD i 0).toNat 0 + 1) = (cntP (fun _ => true) m x i).getD (x.getD i 0).toNat 0 + 1 := wrap64 (by omega) (by omega)
      have hset := cntP_hit (p := fun _ => true) (i := i) rfl h0 hxi.2
      simp only [h1, hw, hg, h0, h0', hcl, hlt, hge, hw1, hset, ints_len, ints_set, ↓SP, SQ, Gam.add, stepM, callC, argC, lendO, nmBy, nmC, likeL, likeB, plainOb, offs, exL, X, F, trP, trO, stepD, stepW, newA, SV.tr, SV.trL, fz, allP, Ob.tr, loadA, cellsA, SV.cells, binA, binI, eqOut, isSl, isPt, natOf, callee, snap, SV.refsL, SV.refs, thaw, fzAll, loA, hiA, elemOf, partsA, buildA, putCells, ↓reduceIte, reduceCtorEq, okCell, Nat.reduceAdd, Nat.reduceEqDiff, Nat.reduceSub, Nat.reduceMul, Nat.reduceLeDiff, Nat.reduceLT, Nat.reduceBEq, PV.scal, PV.scalL, SV.scal, SV.scalL, Ob.scal, PV.isCell, pure', resO]
      exact hN (i + 1, _, _) _ _ (by simp only; omega) (by simp only; omega) rfl rfl
    · have h0' : ¬ x.getD i 0 ≥ 0 := h0
      have hmi := cntP_miss (p := fun _ => true) (m := m) (i := i) (.inr h0)
      simp only [h1, hw, hg, h0', ints_len, ↓SP, SQ, Gam.add, stepM, callC, argC, lendO, nmBy, nmC, likeL, likeB, plainOb, offs, exL, X, F, trP, trO, stepD, stepW, newA, SV.tr, SV.trL, fz, allP, Ob.tr, loadA, cellsA, SV.cells, binA, binI, eqOut, isSl, isPt, natOf, callee, snap, SV.refsL, SV.refs, thaw, fzAll, loA, hiA, elemOf, partsA, buildA, putCells, ↓reduceIte, reduceCtorEq, okCell, Nat.reduceAdd, Nat.reduceEqDiff, Nat.reduceSub, Nat.reduceMul, Nat.reduceLeDiff, Nat.reduceLT, Nat.reduceBEq, PV.scal, PV.scalL, SV.scal, SV.scalL, Ob.scal, PV.isCell, pure', resO]
      exact hN (i + 1, _, _) _ _ (by simp only; omega) (by simp only; omega) rfl (by rw [hmi])
  · have he : i = x.length := by omega
    have h1 : ¬ (i : Int) < x.length := by omega
    simp only [h1, ints_len, ↓SP, SQ, Gam.add, stepM, callC, argC, lendO, nmBy, nmC, likeL, likeB, plainOb, offs, exL, X, F, trP, trO, stepD, stepW, newA, SV.tr, SV.trL, fz, allP, Ob.tr, loadA, cellsA, SV.cells, binA, binI, eqOut, isSl, isPt, natOf, callee, snap, SV.refsL, SV.refs, thaw, fzAll, loA, hiA, elemOf, partsA, buildA, putCells, ↓reduceIte, reduceCtorEq, okCell, Nat.reduceAdd, Nat.reduceEqDiff, Nat.reduceSub, Nat.reduceMul, Nat.reduceLeDiff, Nat.reduceLT, Nat.reduceBEq, PV.scal, PV.scalL, SV.scal, SV.scalL, Ob.scal, PV.isCell, pure', resO]
    refine hR _ _ _ (by intro h; cases h) ?_
    simp only [↓SP, SQ, Gam.add, stepM, callC, argC, lendO, nmBy, nmC, likeL, likeB, plainOb, offs, exL, X, F, trP, trO, stepD, stepW, newA, SV.tr, SV.trL, fz, allP, Ob.tr, loadA, cellsA, SV.cells, binA, binI, eqOut, isSl, isPt, natOf, callee, snap, SV.refsL, SV.refs, thaw, fzAll, loA, hiA, elemOf, partsA, buildA, putCells, ↓reduceIte, reduceCtorEq, okCell, Nat.reduceAdd, Nat.reduceEqDiff, Nat.reduceSub, Nat.reduceMul, Nat.reduceLeDiff, Nat.reduceLT, Nat.reduceBEq, PV.scal, PV.scalL, SV.scal, SV.scalL, Ob.scal, PV.isCell, pure', resO]
    subst he
    refine finA_gen [8] trivial (by simp [retA, rvA, mkE_cons, mk_nil, mkO_cons, mkO_nil, loadA, SV.tr, SV.trL, nmF, rn_nil, rn_cons1, rn_cons2, plainOb, SV.refsL, SV.refs, Ob.refs, X, F, List.range_succ, mkO, setO_mk]; rfl) ?_ ?_ ?_ ?_ ?_ ?_ ?_ <;> simp [cntL, retA, rvA, mkE_cons, mk_nil, mkO_cons, mkO_nil, loadA, SV.tr, SV.trL, nmF, rn_nil, rn_cons1, rn_cons2, plainOb, SV.refsL, SV.refs, Ob.refs, X, F, List.range_succ, mkO, setO_mk]
/-- Whether yes keeps more open than no. -/
def aftS (m q : Int) (y : Bool) (x : List Int) : List Int := afterL (fun i => (bitW q (i : Int) == 1) != y) m x
def hldV (m q : Int) (x : List Int) : Bool := decide (ndI true (cntL m (aftS m q true x)) > ndI true (cntL m (aftS m q false x)))
theorem afts_ok {x : List Int} {m q : Int} {y : Bool} (h : isSt x m = true) (h8 : (opens x).length ≤ 8) : isSt (aftS m q y x) m = true ∧ okC (cntL m (aftS m q y x)) = true ∧ (cntL m (aftS m q y x)).length = (m + 1).toNat := by
  obtain ⟨g1, g2⟩ := afterL_st (f := fun i => (bitW q (i : Int) == 1) != y) h
  obtain ⟨g3, _, g5⟩ := cnt_okC g1 (by omega)
  exact ⟨g1, g3, g5⟩
def a_hold (f_bothA : FuncId) (f_countsS : FuncId) (f_nOf : FuncId) : AFn := ⟨3, 
  .seq (.reg [⟨some 3, none, .w (.box 2 (.t 0))⟩,
    ⟨some 4, none, .w (.box 2 (.t 1))⟩,
    ⟨some 6, none, .d (.mv (.c (.bool false)))⟩])
  (.seq (.reg [⟨some 8, none, .d (.load true 2 (.t 3))⟩,
    ⟨some 9, none, .d (.mv (.t 2))⟩,
    ⟨some 10, none, .d (.call (.f f_bothA) [(.t 8), (.t 9)])⟩,
    ⟨some 7, none, .w (.alloc [.nilsl, .int .i64 0, .nilsl, .int .i64 0])⟩,
    ⟨none, none, .w (.store 4 (.t 7) (.t 10))⟩])
  (.seq (.dreg [] [([], ⟨some 11, none, .d (.load true 2 (.t 4))⟩),
    ([], ⟨some 12, none, .d (.iaA 2 2 (.t 7) (.c (.int .i64 1)))⟩),
    ([], ⟨some 13, none, .d (.load true 2 (.t 12))⟩),
    ([], ⟨some 14, none, .d (.call (.f f_countsS) [(.t 13)])⟩),
    ([], ⟨some 15, none, .d (.call (.f f_nOf) [(.t 11), (.t 14)])⟩),
    ([], ⟨some 16, none, .d (.load true 2 (.t 4))⟩),
    ([], ⟨some 17, none, .d (.iaA 2 2 (.t 7) (.c (.int .i64 0)))⟩),
    ([], ⟨some 18, none, .d (.load true 2 (.t 17))⟩),
    ([], ⟨some 19, none, .d (.call (.f f_countsS) [(.t 18)])⟩)] [⟨some 20, none, .d (.call (.f f_nOf) [(.t 16), (.t 19)])⟩,
    ⟨some 21, none, .d (.bin .arith .gtr (.t 15) (.t 20))⟩,
    ⟨some 6, none, .d (.mv (.t 21))⟩])
  (.ret))), [.tmp 6]⟩
def n_hold : Nat → Option Ann := fun _ => none
abbrev k_hold : List Nat := [0, 1, 2, 3, 4, 6, 7]
abbrev o_hold : List Nat := [3, 4, 7]
open Classical in
noncomputable def c_hold : Con := pure' fun
  | [.p (.agg [.sl 1 x_, .int .i64 m]), .p (.agg [.fn g [] [], .mapv es]), .p (.int .i64 q)] => if isI x_ = true ∧ es = nES true ∧ isSt (ofI x_) m = true ∧ (opens (ofI x_)).length ≤ 8 then some (.p (.bool (hldV m q (ofI x_))), []) else none
  | _ => none
theorem s_hold {P : Program} (hm : P.follows .mixedOrders = true) {Γ : Gam} (hΓ : GS P Γ) {n : FuncId} {f_bothA : FuncId} {f_countsS : FuncId} {f_nOf : FuncId} (is : Is P n (a_hold f_bothA f_countsS f_nOf)) (h_bothA : Γ f_bothA = c_bothA) (h_countsS : Γ f_countsS = c_countsS) (h_nOf : Γ f_nOf = c_nOf)  : Says P n c_hold := by
  refine Says.pure fun args r fs h => ?_
  split at h
  case h_2 => cases h
  rename_i x_ m g es q
  split at h
  case isFalse => cases h
  rename_i hc
  obtain ⟨hx_, rfl, hs, h8⟩ := hc
  obtain ⟨x, rfl⟩ := isI_out hx_
  simp only [ofI_ints, Option.some.injEq, Prod.mk.injEq] at h hs h8
  obtain ⟨rfl, rfl⟩ := h
  obtain ⟨t1, t2, t3⟩ := afts_ok (q := q) (y := true) hs h8
  obtain ⟨f1, f2, f3⟩ := afts_ok (q := q) (y := false) hs h8
  have hmm := (st_out hs).2.1
  have hE := okE_nES true
  have eT := ofE_nES true t2
  have eF := ofE_nES true f2
  have hlen : x.length ≤ 1100000 := by have := (st_out hs).1; omega
  have h1000 := isSt_small hs
  have aT : afterL (fun i => (bitW q (i : Int) == 1) != true) m x = aftS m q true x := rfl
  have aF : afterL (fun i => (bitW q (i : Int) == 1) != false) m x = aftS m q false x := rfl
  have cT : 1 ≤ (cntL m (aftS m q true x)).length ∧ (cntL m (aftS m q true x)).length ≤ 3 := by omega
  have cF : 1 ≤ (cntL m (aftS m q false x)).length ∧ (cntL m (aftS m q false x)).length ≤ 3 := by omega
  refine is.go hm hΓ k_hold o_hold (by simp [a_hold]) ?_
  simp only [a_hold, h_bothA, c_bothA, h_countsS, c_countsS, h_nOf, c_nOf, hs, hlen, h1000, aT, aF, t1, f1, hE, eT, eF, cT, cF, Int.le_refl, Int.toNat_zero, Int.toNat_one, Int.reduceLE, Int.reduceToNat, Nat.zero_mul, Nat.one_mul, ints_len, isI_ints, ofI_ints, List.zipIdx_cons, List.zipIdx_nil, ↓SP, SQ, Gam.add, stepM, callC, argC, lendO, nmBy, nmC, likeL, likeB, plainOb, offs, exL, X, F, trP, trO, stepD, stepW, newA, SV.tr, SV.trL, fz, allP, Ob.tr, loadA, cellsA, SV.cells, binA, binI, eqOut, isSl, isPt, natOf, callee, snap, SV.refsL, SV.refs, thaw, fzAll, loA, hiA, elemOf, partsA, buildA, putCells, ↓reduceIte, reduceCtorEq, okCell, Nat.reduceAdd, Nat.reduceEqDiff, Nat.reduceSub, Nat.reduceMul, Nat.reduceLeDiff, Nat.reduceLT, Nat.reduceBEq, PV.scal, PV.scalL, SV.scal, SV.scalL, Ob.scal, PV.isCell, pure', resO]
  exact finA_val (by simp [hldV, retA, rvA, mkE_cons, mk_nil, mkO_cons, mkO_nil, loadA, SV.tr, SV.trL, nmF, rn_nil, rn_cons1, rn_cons2, plainOb, SV.refsL, SV.refs, Ob.refs, X, F, List.range_succ, mkO, setO_mk]) (by simp [SV.tr, SV.trL])
def a_l8Hold (f_l2After : FuncId) (f_l2Counts : FuncId) (f_l4Key : FuncId) : AFn := ⟨3, 
  .seq (.reg [⟨some 3, none, .w (.box 2 (.t 0))⟩,
    ⟨some 6, none, .d (.mv (.c (.bool false)))⟩])
  (.seq (.dreg [] [([], ⟨some 9, none, .d (.load true 2 (.t 3))⟩),
    ([], ⟨some 10, none, .d (.mv (.t 1))⟩),
    ([], ⟨some 11, none, .d (.call (.f f_l2After) [(.t 9), (.t 10), (.c (.bool true))])⟩),
    ([], ⟨some 12, none, .d (.call (.f f_l2Counts) [(.t 11)])⟩),
    ([], ⟨some 13, none, .d (.load true 2 (.t 3))⟩),
    ([], ⟨some 14, none, .d (.mv (.t 1))⟩)] [⟨some 15, none, .d (.call (.f f_l2After) [(.t 13), (.t 14), (.c (.bool false))])⟩,
    ⟨some 16, none, .d (.call (.f f_l2Counts) [(.t 15)])⟩,
    ⟨some 7, none, .d (.mv (.t 12))⟩,
    ⟨some 8, none, .d (.mv (.t 16))⟩])
  (.seq (.dreg [] [([], ⟨some 17, none, .d (.mv (.t 2))⟩),
    ([], ⟨some 18, none, .d (.mv (.t 7))⟩),
    ([], ⟨some 19, none, .d (.call (.f f_l4Key) [(.t 18)])⟩),
    ([], ⟨some 20, none, .d (.ia 1 (.t 17) (.t 19))⟩),
    ([], ⟨some 21, none, .d (.load false 1 (.t 20))⟩),
    ([], ⟨some 22, none, .d (.mv (.t 2))⟩),
    ([], ⟨some 23, none, .d (.mv (.t 8))⟩),
    ([], ⟨some 24, none, .d (.call (.f f_l4Key) [(.t 23)])⟩),
    ([], ⟨some 25, none, .d (.ia 1 (.t 22) (.t 24))⟩),
    ([], ⟨some 26, none, .d (.load false 1 (.t 25))⟩)] [⟨some 27, none, .d (.bin .arith .gtr (.t 21) (.t 26))⟩,
    ⟨some 6, none, .d (.mv (.t 27))⟩])
  (.ret))), [.tmp 6]⟩
def n_l8Hold : Nat → Option Ann := fun _ => none
abbrev k_l8Hold : List Nat := [0, 1, 2, 3, 6, 7, 8]
abbrev o_l8Hold : List Nat := [3]
def c_l8Hold : Con := pure' fun
  | [.p (.agg [.sl 1 x_, .int .i64 m]), .p (.int .i64 q), .p (.sl 1 l_)] => if isI x_ = true ∧ isI l_ = true ∧ (isSt (ofI x_) m = true ∧ (opens (ofI x_)).length ≤ 8 ∧ (ofI l_) = tabK (ntT tabB) (m + 1).toNat 9) then some (.p (.bool (hldV m q (ofI x_))), []) else none
  | _ => none
theorem s_l8Hold {P : Program} (hm : P.follows .mixedOrders = true) {Γ : Gam} (hΓ : GS P Γ) {n : FuncId} {f_l2After : FuncId} {f_l2Counts : FuncId} {f_l4Key : FuncId} (is : Is P n (a_l8Hold f_l2After f_l2Counts f_l4Key)) (h_l2After : Γ f_l2After = c_l2After) (h_l2Counts : Γ f_l2Counts = c_countsS) (h_l4Key : Γ f_l4Key = c_l4Key)  : Says P n c_l8Hold := by
  refine Says.pure fun args r fs h => ?_
  split at h
  case h_2 => cases h
  rename_i x_ m q l_
  split at h
  case isFalse => cases h
  rename_i hc
  obtain ⟨hx_, hc⟩ := hc
  obtain ⟨x, rfl⟩ := isI_out hx_
  obtain ⟨hl_, hc⟩ := hc
  obtain ⟨l, rfl⟩ := isI_out hl_
  simp only [ofI_ints, ofBo_bools, ofAs_asks, Option.some.injEq, Prod.mk.injEq] at h hc
  obtain ⟨rfl, rfl⟩ := h
  obtain ⟨hs, h8, rfl⟩ := hc
  obtain ⟨t1, t2, t3⟩ := afts_ok (q := q) (y := true) hs h8
  obtain ⟨f1, f2, f3⟩ := afts_ok (q := q) (y := false) hs h8
  have hmm := (st_out hs).2.1
  have hlen : x.length ≤ 1100000 := by have := (st_out hs).1; omega
  have h1000 := isSt_small hs
  have aT : afterL (fun i => (bitW q (i : Int) == 1) != true) m x = aftS m q true x := rfl
  have aF : afterL (fun i => (bitW q (i : Int) == 1) != false) m x = aftS m q false x := rfl
  obtain ⟨⟨_, a3⟩, a8, _⟩ := okC_out t2
  obtain ⟨⟨_, b3⟩, b8, _⟩ := okC_out f2
  obtain ⟨k0, k1⟩ := keyN_bd (p := (m + 1).toNat) t3 a8
  obtain ⟨n0, n1⟩ := keyN_bd (p := (m + 1).toNat) f3 b8
  have hkT : (keyL (cntL m (aftS m q true x))).toNat = keyN (cntL m (aftS m q true x)) := rfl
  have hkF : (keyL (cntL m (aftS m q false x))).toNat = keyN (cntL m (aftS m q false x)) := rfl
  have hgT := ints_get (l := tabK (ntT tabB) (m + 1).toNat 9) (i := keyN (cntL m (aftS m q true x))) (by rw [tabK_len]; exact k1)
  have hgF := ints_get (l := tabK (ntT tabB) (m + 1).toNat 9) (i := keyN (cntL m (aftS m q false x))) (by rw [tabK_len]; exact n1)
  have tT := (tab_nd t2).1
  have tF := (tab_nd f2).1
  rw [t3] at tT
  rw [f3] at tF
  rw [tT] at hgT
  rw [tF] at hgF
  refine is.go hm hΓ k_l8Hold o_l8Hold (by simp [a_l8Hold]) ?_
  simp only [a_l8Hold, h_l2After, c_l2After, h_l2Counts, c_countsS, h_l4Key, c_l4Key, hs, hlen, h1000, aT, aF, t1, f1, a3, a8, b3, b8, k0, n0, hkT, hkF, hgT, hgF, ints_len, isI_ints, ofI_ints, List.zipIdx_cons, List.zipIdx_nil, ↓SP, SQ, Gam.add, stepM, callC, argC, lendO, nmBy, nmC, likeL, likeB, plainOb, offs, exL, X, F, trP, trO, stepD, stepW, newA, SV.tr, SV.trL, fz, allP, Ob.tr, loadA, cellsA, SV.cells, binA, binI, eqOut, isSl, isPt, natOf, callee, snap, SV.refsL, SV.refs, thaw, fzAll, loA, hiA, elemOf, partsA, buildA, putCells, ↓reduceIte, reduceCtorEq, okCell, Nat.reduceAdd, Nat.reduceEqDiff, Nat.reduceSub, Nat.reduceMul, Nat.reduceLeDiff, Nat.reduceLT, Nat.reduceBEq, PV.scal, PV.scalL, SV.scal, SV.scalL, Ob.scal, PV.isCell, pure', resO]
  exact finA_val (by simp [hldV, retA, rvA, mkE_cons, mk_nil, mkO_cons, mkO_nil, loadA, SV.tr, SV.trL, nmF, rn_nil, rn_cons1, rn_cons2, plainOb, SV.refsL, SV.refs, Ob.refs, X, F, List.range_succ, mkO, setO_mk]) (by simp [SV.tr, SV.trL])
def v1 : List SV := [.p (.sl 1 (ints [0])), .p (.sl 1 (ints [0]))]
end Go.Proofs.Ytihpfhdkjlphhaa.Pam
