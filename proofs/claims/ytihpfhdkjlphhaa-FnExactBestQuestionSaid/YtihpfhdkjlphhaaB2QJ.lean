/- A part of the proof that stands in this folder: a small machine whose steps are shown to be the steps of the model, or walks of functions by it. No condition of its own. -/
import Derived.Test.YtihpfhdkjlphhaaB2OH
set_option linter.unusedVariables false
set_option linter.unusedSimpArgs false
namespace Go.Proofs.Ytihpfhdkjlphhaa.Pam
open Go
def whs (A : Nat → Prop) (L : List (List Int)) : List PV := L.map fun l => .wh A (ints l)
theorem whs_len {A : Nat → Prop} (L : List (List Int)) : (whs A L).length = L.length := by simp [whs]
theorem whs_get {A : Nat → Prop} {L : List (List Int)} {i : Nat} (h : i < L.length) : (whs A L)[i]? = some (.wh A (ints (L.getD i []))) := by simp [whs, h]
theorem whs_app1 {A : Nat → Prop} (L : List (List Int)) (l : List Int) : whs A L ++ [.wh A (ints l)] = whs A (L ++ [l]) := by simp [whs]
theorem whs_cell {A : Nat → Prop} (L : List (List Int)) : ((whs A L).all fun y => y.cells.all PV.isCell) = true := by simp [whs, PV.cells, PV.isCell]
theorem cells_wh {A : Nat → Prop} (xs : List PV) : (PV.wh A xs).cells = [.wh A xs] := rfl
theorem cells_li {A : Nat → Prop} (xs : List PV) : (PV.li A xs).cells = [.li A xs] := rfl
theorem ints_allInt (l : List Int) : (ints l).all PV.isInt = true := by simp [ints, PV.isInt]
theorem whs_set {A : Nat → Prop} (L : List (List Int)) (i : Nat) (l : List Int) : (whs A L).set i (.wh A (ints l)) = whs A (L.set i l) := by simp [whs, List.map_set]
theorem putPV_whs {A : Nat → Prop} (L : List (List Int)) (i n : Nat) (h : i + n ≤ L.length) : putPV (whs A L) i (List.replicate n .nilsl) = whs A (L.take i) ++ List.replicate n .nilsl ++ whs A (L.drop (i + n)) := by
  rw [putPV_eq _ _ _ (by simp [whs_len]; omega)]
  simp [whs, List.map_take, List.map_drop]
theorem whs_app_take {A : Nat → Prop} (L : List (List Int)) (r : List PV) : (whs A L ++ r).take L.length = whs A L := by
  have := List.take_left (l₁ := whs A L) (l₂ := r)
  rwa [whs_len] at this
/-- What stands in a list of whole lists. -/
def lsW (xs : List PV) : List (List Int) := xs.map fun
  | .wh _ ys => ofI ys
  | _ => []
theorem lsW_whs {A : Nat → Prop} (L : List (List Int)) : lsW (whs A L) = L := by
  simp only [lsW, whs, List.map_map]
  have : ((fun x : PV => match x with | .wh _ ys => ofI ys | _ => []) ∘ fun l : List Int => PV.wh A (ints l)) = id := by funext l; simp [ofI_ints]
  rw [this, List.map_id]
def a_splitsW (f_Clone : FuncId) : AFn := ⟨1, 
  .seq (.reg [⟨some 2, none, .d (.mv (.c (.nilsl)))⟩])
  (.seq (.reg [⟨some 10, none, .w (.bslice 1 [] [])⟩,
    ⟨some 11, none, .w (.bsliceW 49000 10 1 [.nilsl] [(0, (.t 10))])⟩,
    ⟨some 3, none, .d (.mv (.t 11))⟩])
  (.seq (.seq (.reg [⟨some 12, none, .d (.mv (.t 0))⟩,
    ⟨some 13, none, .d (.len (.t 12))⟩,
    ⟨some 14, none, .d (.mv (.c (.int .i64 0)))⟩])
  (.block 0 (.loop (.seq (.reg [⟨some 15, none, .d (.bin .arith .lss (.t 14) (.t 13))⟩])
    (.seq (.cond (.t 15) (.skip) (.exit 0))
    (.seq (.block 1 (.seq (.reg [⟨some 16, none, .d (.ia 1 (.t 12) (.t 14))⟩,
       ⟨some 17, none, .d (.load false 1 (.t 16))⟩,
       ⟨some 5, none, .d (.mv (.t 17))⟩])
     (.seq (.reg [⟨some 18, none, .w (.bslice 1 [] [])⟩,
       ⟨some 6, none, .d (.mv (.t 18))⟩])
     (.seq (.seq (.reg [⟨some 19, none, .d (.mv (.t 3))⟩,
       ⟨some 20, none, .d (.len (.t 19))⟩,
       ⟨some 21, none, .d (.mv (.c (.int .i64 0)))⟩])
     (.block 2 (.loop (.seq (.reg [⟨some 22, none, .d (.bin .arith .lss (.t 21) (.t 20))⟩])
       (.seq (.cond (.t 22) (.skip) (.exit 2))
       (.seq (.block 3 (.seq (.reg [⟨some 23, none, .d (.ia 1 (.t 19) (.t 21))⟩,
          ⟨some 24, none, .d (.load false 1 (.t 23))⟩,
          ⟨some 8, none, .d (.mv (.t 24))⟩])
        (.seq (.reg [⟨some 25, none, .d (.mv (.t 5))⟩,
          ⟨some 26, none, .d (.bin .arith .add (.t 25) (.c (.int .i64 1)))⟩,
          ⟨some 27, none, .d (.mv (.c (.int .i64 0)))⟩])
        (.block 4 (.loop (.seq (.reg [⟨some 28, none, .d (.bin .arith .lss (.t 27) (.t 26))⟩])
          (.seq (.cond (.t 28) (.skip) (.exit 4))
          (.seq (.block 5 (.seq (.reg [⟨some 29, none, .d (.mv (.t 27))⟩,
             ⟨some 9, none, .d (.mv (.t 29))⟩])
           (.reg [⟨some 30, none, .d (.mv (.t 6))⟩,
             ⟨some 31, none, .d (.mv (.t 8))⟩,
             ⟨some 32, none, .w (.callL (.f f_Clone) [(.t 31)] [] 1 false)⟩,
             ⟨some 33, none, .d (.mv (.t 9))⟩,
             ⟨some 34, none, .w (.bslice 1 [.int .i64 0] [(0, (.t 33))])⟩,
             ⟨some 35, none, .w (.append 1 (.t 32) (.t 34))⟩,
             ⟨some 36, none, .w (.bsliceW 49000 35 1 [.nilsl] [(0, (.t 35))])⟩,
             ⟨some 37, none, .w (.append 1 (.t 30) (.t 36))⟩,
             ⟨some 6, none, .d (.mv (.t 37))⟩])))
          (.reg [⟨some 38, none, .d (.bin .arith .add (.t 27) (.c (.int .i64 1)))⟩,
            ⟨some 27, none, .d (.mv (.t 38))⟩])))))))))
       (.reg [⟨some 39, none, .d (.bin .arith .add (.t 21) (.c (.int .i64 1)))⟩,
         ⟨some 21, none, .d (.mv (.t 39))⟩])))))))
     (.reg [⟨some 40, none, .d (.mv (.t 6))⟩,
       ⟨some 3, none, .d (.mv (.t 40))⟩])))))
    (.reg [⟨some 41, none, .d (.bin .arith .add (.t 14) (.c (.int .i64 1)))⟩,
      ⟨some 14, none, .d (.mv (.t 41))⟩])))))))
  (.seq (.reg [⟨some 42, none, .d (.mv (.t 3))⟩,
    ⟨some 2, none, .d (.mv (.t 42))⟩])
  (.ret)))), [.tmp 2]⟩
def n_splitsW : Nat → Option Ann := fun d => if d = 32 then some ⟨[], 1, false⟩ else if d = 11 then some ⟨[49000, 10], 77, false⟩ else if d = 36 then some ⟨[49000, 35], 77, false⟩ else none
abbrev k_splitsW : List Nat := [0, 2, 3, 5, 6, 8, 9, 12, 13, 14, 15, 19, 20, 21, 22, 26, 27, 28, 49000]
abbrev o_splitsW : List Nat := [10, 11, 18, 32, 34, 35, 36, 37]
def c_splitsW : Con := pure' fun
  | [.p (.li A c_)] => if isI c_ = true ∧ (ofI c_).length ≤ 3 ∧ in8 (ofI c_) = true then some (.ar 2000000, [.arr 1 (whs A (splL (ofI c_)))]) else none
  | _ => none
theorem s_splitsW {P : Program} (hm : P.follows .mixedOrders = true) {Γ : Gam} (hΓ : GS P Γ) {n : FuncId} {f_Clone : FuncId} (is : Is P n (a_splitsW f_Clone)) (h_CloneU : Γ f_Clone = unC c_Clone) : Says P n c_splitsW := by
  refine Says.pure fun args r fs h => ?_
  split at h
  case h_2 => cases h
  rename_i A c_
  split at h
  case isFalse => cases h
  rename_i hc
  obtain ⟨hc_, hl3, h8⟩ := hc
  obtain ⟨c, rfl⟩ := isI_out hc_
  simp only [ofI_ints, Option.some.injEq, Prod.mk.injEq] at h hl3 h8
  obtain ⟨rfl, rfl⟩ := h
  have hw0 : PV.wh A [] = PV.wh A (ints []) := rfl
  refine is.goW1 hm hΓ k_splitsW o_splitsW (by simp [a_splitsW]) ?_
  simp only [a_splitsW, cells_wh, List.all_nil, cells_wh, cells_li, ↓SP, SQ, Gam.add, stepM, callC, argC, lendO, nmBy, nmC, likeL, likeB, plainOb, offs, exL, X, F, trP, trO, stepD, stepW, newA, SV.tr, SV.trL, fz, allP, Ob.tr, loadA, cellsA, SV.cells, binA, binI, eqOut, isSl, isPt, natOf, callee, snap, SV.refsL, SV.refs, thaw, fzAll, loA, hiA, elemOf, partsA, buildA, putCells, ↓reduceIte, reduceCtorEq, okCell, Nat.reduceAdd, Nat.reduceEqDiff, Nat.reduceSub, Nat.reduceMul, Nat.reduceLeDiff, Nat.reduceLT, Nat.reduceBEq, PV.scal, PV.scalL, SV.scal, SV.scalL, Ob.scal, PV.isCell, pure', resO]
  refine loop_at (fun s : J => mkEnv [(0, .p (.sl 1 (ints c))), (2, .p .nilsl), (3, match s.i with | 0 => .ar 11 | _ + 1 => .ar 18), (5, s.a), (6, s.b), (8, s.c), (9, s.d), (12, .p (.sl 1 (ints c))), (13, si c.length), (14, si s.i), (15, s.e), (19, s.f), (20, s.g), (21, s.h), (22, s.k), (26, s.l), (27, s.m), (28, s.n), (49000, .p (.tok A))]) (fun s => mkO [(10, none), (11, some (.arr 1 (whs A [[]]))), (18, match s.i with | 0 => none | k + 1 => some (.arr 1 (whs A (spI c (k + 1))))), (32, s.o), (34, s.p), (35, none), (36, s.q), (37, none)]) (fun s => s.i ≤ c.length) (fun s => c.length - s.i) ⟨0, .junk, .junk, .junk, .junk, .junk, .junk, .junk, .junk, .junk, .junk, .junk, .junk, none, none, none⟩ (by simp) rfl rfl ?_
  rintro ⟨i, a1, a2, a3, a4, a5, a6, a7, a8, a9, a10, a11, a12, b1, b2, b3⟩ hi R hR hN
  simp only at hi
  by_cases h : i < c.length
  · cases i with
    | zero =>
      have hS3 := spI_len3 h8 (i := 0) (by omega)
      have h1 : ((0 : Nat) : Int) < c.length := by omega
      have hw := wrap_one (i := 0) (by omega)
      have hg := ints_get h
      obtain ⟨n, hx⟩ : ∃ n : Nat, c.getD 0 0 = (n : Int) := ⟨(c.getD 0 0).toNat, by have := in8_get h8 (0); omega⟩
      have hn8 : n ≤ 8 := by have := in8_get h8 (0); omega
      have hxn : (c.getD 0 0).toNat = n := by omega
      simp only [h1, hg, hx, whs_len, List.length_nil, List.length_cons, cells_wh, cells_li, ↓SP, SQ, Gam.add, stepM, callC, argC, lendO, nmBy, nmC, likeL, likeB, plainOb, offs, exL, X, F, trP, trO, stepD, stepW, newA, SV.tr, SV.trL, fz, allP, Ob.tr, loadA, cellsA, SV.cells, binA, binI, eqOut, isSl, isPt, natOf, callee, snap, SV.refsL, SV.refs, thaw, fzAll, loA, hiA, elemOf, partsA, buildA, putCells, ↓reduceIte, reduceCtorEq, okCell, Nat.reduceAdd, Nat.reduceEqDiff, Nat.reduceSub, Nat.reduceMul, Nat.reduceLeDiff, Nat.reduceLT, Nat.reduceBEq, PV.scal, PV.scalL, SV.scal, SV.scalL, Ob.scal, PV.isCell, pure', resO]
      refine loop_at (fun s : J => mkEnv [(0, .p (.sl 1 (ints c))), (2, .p .nilsl), (3, .ar 11), (5, si n), (6, .ar 18), (8, s.a), (9, s.b), (12, .p (.sl 1 (ints c))), (13, si c.length), (14, si (0 : Nat)), (15, sb true), (19, .ar 11), (20, si (spI c (0)).length), (21, si s.i), (22, s.c), (26, s.d), (27, s.e), (28, s.f), (49000, .p (.tok A))]) (fun s => mkO [(10, none), (11, some (.arr 1 (whs A [[]]))), (18, some (.arr 1 (whs A (nxI c (0) s.i 0)))), (32, s.o), (34, s.p), (35, none), (36, s.q), (37, none)]) (fun s => s.i ≤ (spI c (0)).length) (fun s => (spI c (0)).length - s.i) ⟨0, _, _, _, _, _, _, .junk, .junk, .junk, .junk, .junk, .junk, _, _, _⟩ (by simp) rfl (by simp only [nxI_0]; rfl) ?_
      rintro ⟨j, c1, c2, c3, c4, c5, c6, c7, c8, c9, c10, c11, c12, o1, o2, o3⟩ hj R2 hR2 hN2
      simp only at hj
      by_cases hlt : j < (spI c (0)).length
      · have h2 : (j : Int) < (spI c (0)).length := by omega
        have hw2 := wrap_one (i := j) (by omega)
        have hg2 := whs_get (A := A) hlt
        have hbl := spI_getD_len hlt
        have hwn := wrap_one (i := n) (by omega)
        have hj0 : j = 0 := by simp [spI] at hlt; exact hlt
        have hg3 : (whs A [[]])[j]? = some (.wh A (ints ((spI c 0).getD j []))) := hg2
        have hlt1 : j < 1 := by omega
        simp only [h2, hlt, hg2, hwn, whs_len, hg3, hlt1, List.length_cons, List.length_nil, cells_wh, cells_li, ↓SP, SQ, Gam.add, stepM, callC, argC, lendO, nmBy, nmC, likeL, likeB, plainOb, offs, exL, X, F, trP, trO, stepD, stepW, newA, SV.tr, SV.trL, fz, allP, Ob.tr, loadA, cellsA, SV.cells, binA, binI, eqOut, isSl, isPt, natOf, callee, snap, SV.refsL, SV.refs, thaw, fzAll, loA, hiA, elemOf, partsA, buildA, putCells, ↓reduceIte, reduceCtorEq, okCell, Nat.reduceAdd, Nat.reduceEqDiff, Nat.reduceSub, Nat.reduceMul, Nat.reduceLeDiff, Nat.reduceLT, Nat.reduceBEq, PV.scal, PV.scalL, SV.scal, SV.scalL, Ob.scal, PV.isCell, pure', resO]
        refine loop_at (fun s : J => mkEnv [(0, .p (.sl 1 (ints c))), (2, .p .nilsl), (3, .ar 11), (5, si n), (6, .ar 18), (8, .p (.wh A (ints ((spI c (0)).getD j [])))), (9, s.a), (12, .p (.sl 1 (ints c))), (13, si c.length), (14, si (0 : Nat)), (15, sb true), (19, .ar 11), (20, si (spI c (0)).length), (21, si j), (22, sb true), (26, si ((n + 1 : Nat) : Int)), (27, si s.i), (28, s.b), (49000, .p (.tok A))]) (fun s => mkO [(10, none), (11, some (.arr 1 (whs A [[]]))), (18, some (.arr 1 (whs A (nxI c (0) j s.i)))), (32, s.o), (34, s.p), (35, none), (36, s.q), (37, none)]) (fun s => s.i ≤ n + 1) (fun s => n + 1 - s.i) ⟨0, _, _, .junk, .junk, .junk, .junk, .junk, .junk, .junk, .junk, .junk, .junk, _, _, _⟩ (by simp) rfl rfl ?_
        rintro ⟨k, d1, d2, d3, d4, d5, d6, d7, d8, d9, d10, d11, d12, p1, p2, p3⟩ hk R3 hR3 hN3
        simp only at hk
        by_cases hkt : k < n + 1
        · have h3 : (k : Int) < ((n + 1 : Nat) : Int) := Int.ofNat_lt.2 hkt
          have hw3 := wrap_one (i := k) (by omega)
          have hcl : ((spI c (0)).getD j []).length ≤ 1100000 := by omega
          have hr1 : ((spI c (0)).getD j []).length + 1 ≤ roomA := by unfold roomA; omega
          have hnl := nxI_len h8 (i := 0) (j := j) (k := k) (by omega) (by omega)
          have hr2 : (nxI c (0) j k).length + 1 ≤ roomA := by unfold roomA; omega
          have hst := nxI_k c (0) j k
          simp only [h3, hw3, hcl, hr1, hr2, ints_len, whs_len, ints_app1, whs_app1, ints_cell, ints_allInt, cells_wh, unC, SV.un', PV.un, List.map_cons, List.map_nil, whs_cell, hst, isI_ints, ofI_ints, h_CloneU, c_Clone, cells_wh, cells_li, ↓SP, SQ, Gam.add, stepM, callC, argC, lendO, nmBy, nmC, likeL, likeB, plainOb, offs, exL, X, F, trP, trO, stepD, stepW, newA, SV.tr, SV.trL, fz, allP, Ob.tr, loadA, cellsA, SV.cells, binA, binI, eqOut, isSl, isPt, natOf, callee, snap, SV.refsL, SV.refs, thaw, fzAll, loA, hiA, elemOf, partsA, buildA, putCells, ↓reduceIte, reduceCtorEq, okCell, Nat.reduceAdd, Nat.reduceEqDiff, Nat.reduceSub, Nat.reduceMul, Nat.reduceLeDiff, Nat.reduceLT, Nat.reduceBEq, PV.scal, PV.scalL, SV.scal, SV.scalL, Ob.scal, PV.isCell, pure', resO]
          exact hN3 ⟨k + 1, _, _, .junk, .junk, .junk, .junk, .junk, .junk, .junk, .junk, .junk, .junk, _, _, _⟩ _ _ (by simp only; omega) (by simp only; omega) rfl rfl
        · have hke : k = n + 1 := by omega
          have h3 : ¬ (k : Int) < ((n + 1 : Nat) : Int) := by omega
          subst hke
          have hjj : nxI c (0) j (n + 1) = nxI c (0) (j + 1) 0 := by rw [← hxn]; exact nxI_j hlt
          simp only [h3, cells_wh, cells_li, ↓SP, SQ, Gam.add, stepM, callC, argC, lendO, nmBy, nmC, likeL, likeB, plainOb, offs, exL, X, F, trP, trO, stepD, stepW, newA, SV.tr, SV.trL, fz, allP, Ob.tr, loadA, cellsA, SV.cells, binA, binI, eqOut, isSl, isPt, natOf, callee, snap, SV.refsL, SV.refs, thaw, fzAll, loA, hiA, elemOf, partsA, buildA, putCells, ↓reduceIte, reduceCtorEq, okCell, Nat.reduceAdd, Nat.reduceEqDiff, Nat.reduceSub, Nat.reduceMul, Nat.reduceLeDiff, Nat.reduceLT, Nat.reduceBEq, PV.scal, PV.scalL, SV.scal, SV.scalL, Ob.scal, PV.isCell, pure', resO]
          refine hR3 _ _ _ (by intro h; cases h) ?_
          simp only [hw2, hjj, cells_wh, cells_li, ↓SP, SQ, Gam.add, stepM, callC, argC, lendO, nmBy, nmC, likeL, likeB, plainOb, offs, exL, X, F, trP, trO, stepD, stepW, newA, SV.tr, SV.trL, fz, allP, Ob.tr, loadA, cellsA, SV.cells, binA, binI, eqOut, isSl, isPt, natOf, callee, snap, SV.refsL, SV.refs, thaw, fzAll, loA, hiA, elemOf, partsA, buildA, putCells, ↓reduceIte, reduceCtorEq, okCell, Nat.reduceAdd, Nat.reduceEqDiff, Nat.reduceSub, Nat.reduceMul, Nat.reduceLeDiff, Nat.reduceLT, Nat.reduceBEq, PV.scal, PV.scalL, SV.scal, SV.scalL, Ob.scal, PV.isCell, pure', resO]
          exact hN2 ⟨j + 1, _, _, _, _, _, _, .junk, .junk, .junk, .junk, .junk, .junk, _, _, _⟩ _ _ (by simp only; omega) (by simp only; omega) rfl rfl
      · have hje : j = (spI c (0)).length := by omega
        have h2 : ¬ (j : Int) < (spI c (0)).length := by omega
        subst hje
        have hend := nxI_end c (0)
        simp only [h2, cells_wh, cells_li, ↓SP, SQ, Gam.add, stepM, callC, argC, lendO, nmBy, nmC, likeL, likeB, plainOb, offs, exL, X, F, trP, trO, stepD, stepW, newA, SV.tr, SV.trL, fz, allP, Ob.tr, loadA, cellsA, SV.cells, binA, binI, eqOut, isSl, isPt, natOf, callee, snap, SV.refsL, SV.refs, thaw, fzAll, loA, hiA, elemOf, partsA, buildA, putCells, ↓reduceIte, reduceCtorEq, okCell, Nat.reduceAdd, Nat.reduceEqDiff, Nat.reduceSub, Nat.reduceMul, Nat.reduceLeDiff, Nat.reduceLT, Nat.reduceBEq, PV.scal, PV.scalL, SV.scal, SV.scalL, Ob.scal, PV.isCell, pure', resO]
        refine hR2 _ _ _ (by intro h; cases h) ?_
        simp only [hw, hend, cells_wh, cells_li, ↓SP, SQ, Gam.add, stepM, callC, argC, lendO, nmBy, nmC, likeL, likeB, plainOb, offs, exL, X, F, trP, trO, stepD, stepW, newA, SV.tr, SV.trL, fz, allP, Ob.tr, loadA, cellsA, SV.cells, binA, binI, eqOut, isSl, isPt, natOf, callee, snap, SV.refsL, SV.refs, thaw, fzAll, loA, hiA, elemOf, partsA, buildA, putCells, ↓reduceIte, reduceCtorEq, okCell, Nat.reduceAdd, Nat.reduceEqDiff, Nat.reduceSub, Nat.reduceMul, Nat.reduceLeDiff, Nat.reduceLT, Nat.reduceBEq, PV.scal, PV.scalL, SV.scal, SV.scalL, Ob.scal, PV.isCell, pure', resO]
        exact hN ⟨(0) + 1, _, _, _, _, _, _, _, _, _, _, _, _, _, _, _⟩ _ _ (by simp only; omega) (by simp only; omega) rfl rfl
    | succ i =>
      have hS3 := spI_len3 h8 (i := i + 1) (by omega)
      have h1 : ((i + 1 : Nat) : Int) < c.length := by omega
      have hw := wrap_one (i := i + 1) (by omega)
      have hg := ints_get h
      obtain ⟨n, hx⟩ : ∃ n : Nat, c.getD (i + 1) 0 = (n : Int) := ⟨(c.getD (i + 1) 0).toNat, by have := in8_get h8 (i + 1); omega⟩
      have hn8 : n ≤ 8 := by have := in8_get h8 (i + 1); omega
      have hxn : (c.getD (i + 1) 0).toNat = n := by omega
      simp only [h1, hg, hx, whs_len, List.length_nil, List.length_cons, cells_wh, cells_li, ↓SP, SQ, Gam.add, stepM, callC, argC, lendO, nmBy, nmC, likeL, likeB, plainOb, offs, exL, X, F, trP, trO, stepD, stepW, newA, SV.tr, SV.trL, fz, allP, Ob.tr, loadA, cellsA, SV.cells, binA, binI, eqOut, isSl, isPt, natOf, callee, snap, SV.refsL, SV.refs, thaw, fzAll, loA, hiA, elemOf, partsA, buildA, putCells, ↓reduceIte, reduceCtorEq, okCell, Nat.reduceAdd, Nat.reduceEqDiff, Nat.reduceSub, Nat.reduceMul, Nat.reduceLeDiff, Nat.reduceLT, Nat.reduceBEq, PV.scal, PV.scalL, SV.scal, SV.scalL, Ob.scal, PV.isCell, pure', resO]
      refine loop_at (fun s : J => mkEnv [(0, .p (.sl 1 (ints c))), (2, .p .nilsl), (3, .p (.sl 1 (whs A (spI c (i + 1))))), (5, si n), (6, .ar 18), (8, s.a), (9, s.b), (12, .p (.sl 1 (ints c))), (13, si c.length), (14, si (i + 1 : Nat)), (15, sb true), (19, .p (.sl 1 (whs A (spI c (i + 1))))), (20, si (spI c (i + 1)).length), (21, si s.i), (22, s.c), (26, s.d), (27, s.e), (28, s.f), (49000, .p (.tok A))]) (fun s => mkO [(10, none), (11, some (.arr 1 (whs A [[]]))), (18, some (.arr 1 (whs A (nxI c (i + 1) s.i 0)))), (32, s.o), (34, s.p), (35, none), (36, s.q), (37, none)]) (fun s => s.i ≤ (spI c (i + 1)).length) (fun s => (spI c (i + 1)).length - s.i) ⟨0, _, _, _, _, _, _, .junk, .junk, .junk, .junk, .junk, .junk, _, _, _⟩ (by simp) rfl (by simp only [nxI_0]; rfl) ?_
      rintro ⟨j, c1, c2, c3, c4, c5, c6, c7, c8, c9, c10, c11, c12, o1, o2, o3⟩ hj R2 hR2 hN2
      simp only at hj
      by_cases hlt : j < (spI c (i + 1)).length
      · have h2 : (j : Int) < (spI c (i + 1)).length := by omega
        have hw2 := wrap_one (i := j) (by omega)
        have hg2 := whs_get (A := A) hlt
        have hbl := spI_getD_len hlt
        have hwn := wrap_one (i := n) (by omega)
        simp only [h2, hlt, hg2, hwn, whs_len,  cells_wh, cells_li, ↓SP, SQ, Gam.add, stepM, callC, argC, lendO, nmBy, nmC, likeL, likeB, plainOb, offs, exL, X, F, trP, trO, stepD, stepW, newA, SV.tr, SV.trL, fz, allP, Ob.tr, loadA, cellsA, SV.cells, binA, binI, eqOut, isSl, isPt, natOf, callee, snap, SV.refsL, SV.refs, thaw, fzAll, loA, hiA, elemOf, partsA, buildA, putCells, ↓reduceIte, reduceCtorEq, okCell, Nat.reduceAdd, Nat.reduceEqDiff, Nat.reduceSub, Nat.reduceMul, Nat.reduceLeDiff, Nat.reduceLT, Nat.reduceBEq, PV.scal, PV.scalL, SV.scal, SV.scalL, Ob.scal, PV.isCell, pure', resO]
        refine loop_at (fun s : J => mkEnv [(0, .p (.sl 1 (ints c))), (2, .p .nilsl), (3, .p (.sl 1 (whs A (spI c (i + 1))))), (5, si n), (6, .ar 18), (8, .p (.wh A (ints ((spI c (i + 1)).getD j [])))), (9, s.a), (12, .p (.sl 1 (ints c))), (13, si c.length), (14, si (i + 1 : Nat)), (15, sb true), (19, .p (.sl 1 (whs A (spI c (i + 1))))), (20, si (spI c (i + 1)).length), (21, si j), (22, sb true), (26, si ((n + 1 : Nat) : Int)), (27, si s.i), (28, s.b), (49000, .p (.tok A))]) (fun s => mkO [(10, none), (11, some (.arr 1 (whs A [[]]))), (18, some (.arr 1 (whs A (nxI c (i + 1) j s.i)))), (32, s.o), (34, s.p), (35, none), (36, s.q), (37, none)]) (fun s => s.i ≤ n + 1) (fun s => n + 1 - s.i) ⟨0, _, _, .junk, .junk, .junk, .junk, .junk, .junk, .junk, .junk, .junk, .junk, _, _, _⟩ (by simp) rfl rfl ?_
        rintro ⟨k, d1, d2, d3, d4, d5, d6, d7, d8, d9, d10, d11, d12, p1, p2, p3⟩ hk R3 hR3 hN3
        simp only at hk
        by_cases hkt : k < n + 1
        · have h3 : (k : Int) < ((n + 1 : Nat) : Int) := Int.ofNat_lt.2 hkt
          have hw3 := wrap_one (i := k) (by omega)
          have hcl : ((spI c (i + 1)).getD j []).length ≤ 1100000 := by omega
          have hr1 : ((spI c (i + 1)).getD j []).length + 1 ≤ roomA := by unfold roomA; omega
          have hnl := nxI_len h8 (i := i + 1) (j := j) (k := k) (by omega) (by omega)
          have hr2 : (nxI c (i + 1) j k).length + 1 ≤ roomA := by unfold roomA; omega
          have hst := nxI_k c (i + 1) j k
          simp only [h3, hw3, hcl, hr1, hr2, ints_len, whs_len, ints_app1, whs_app1, ints_cell, ints_allInt, cells_wh, unC, SV.un', PV.un, List.map_cons, List.map_nil, whs_cell, hst, isI_ints, ofI_ints, h_CloneU, c_Clone, cells_wh, cells_li, ↓SP, SQ, Gam.add, stepM, callC, argC, lendO, nmBy, nmC, likeL, likeB, plainOb, offs, exL, X, F, trP, trO, stepD, stepW, newA, SV.tr, SV.trL, fz, allP, Ob.tr, loadA, cellsA, SV.cells, binA, binI, eqOut, isSl, isPt, natOf, callee, snap, SV.refsL, SV.refs, thaw, fzAll, loA, hiA, elemOf, partsA, buildA, putCells, ↓reduceIte, reduceCtorEq, okCell, Nat.reduceAdd, Nat.reduceEqDiff, Nat.reduceSub, Nat.reduceMul, Nat.reduceLeDiff, Nat.reduceLT, Nat.reduceBEq, PV.scal, PV.scalL, SV.scal, SV.scalL, Ob.scal, PV.isCell, pure', resO]
          exact hN3 ⟨k + 1, _, _, .junk, .junk, .junk, .junk, .junk, .junk, .junk, .junk, .junk, .junk, _, _, _⟩ _ _ (by simp only; omega) (by simp only; omega) rfl rfl
        · have hke : k = n + 1 := by omega
          have h3 : ¬ (k : Int) < ((n + 1 : Nat) : Int) := by omega
          subst hke
          have hjj : nxI c (i + 1) j (n + 1) = nxI c (i + 1) (j + 1) 0 := by rw [← hxn]; exact nxI_j hlt
          simp only [h3, cells_wh, cells_li, ↓SP, SQ, Gam.add, stepM, callC, argC, lendO, nmBy, nmC, likeL, likeB, plainOb, offs, exL, X, F, trP, trO, stepD, stepW, newA, SV.tr, SV.trL, fz, allP, Ob.tr, loadA, cellsA, SV.cells, binA, binI, eqOut, isSl, isPt, natOf, callee, snap, SV.refsL, SV.refs, thaw, fzAll, loA, hiA, elemOf, partsA, buildA, putCells, ↓reduceIte, reduceCtorEq, okCell, Nat.reduceAdd, Nat.reduceEqDiff, Nat.reduceSub, Nat.reduceMul, Nat.reduceLeDiff, Nat.reduceLT, Nat.reduceBEq, PV.scal, PV.scalL, SV.scal, SV.scalL, Ob.scal, PV.isCell, pure', resO]
          refine hR3 _ _ _ (by intro h; cases h) ?_
          simp only [hw2, hjj, cells_wh, cells_li, ↓SP, SQ, Gam.add, stepM, callC, argC, lendO, nmBy, nmC, likeL, likeB, plainOb, offs, exL, X, F, trP, trO, stepD, stepW, newA, SV.tr, SV.trL, fz, allP, Ob.tr, loadA, cellsA, SV.cells, binA, binI, eqOut, isSl, isPt, natOf, callee, snap, SV.refsL, SV.refs, thaw, fzAll, loA, hiA, elemOf, partsA, buildA, putCells, ↓reduceIte, reduceCtorEq, okCell, Nat.reduceAdd, Nat.reduceEqDiff, Nat.reduceSub, Nat.reduceMul, Nat.reduceLeDiff, Nat.reduceLT, Nat.reduceBEq, PV.scal, PV.scalL, SV.scal, SV.scalL, Ob.scal, PV.isCell, pure', resO]
          exact hN2 ⟨j + 1, _, _, _, _, _, _, .junk, .junk, .junk, .junk, .junk, .junk, _, _, _⟩ _ _ (by simp only; omega) (by simp only; omega) rfl rfl
      · have hje : j = (spI c (i + 1)).length := by omega
        have h2 : ¬ (j : Int) < (spI c (i + 1)).length := by omega
        subst hje
        have hend := nxI_end c (i + 1)
        simp only [h2, cells_wh, cells_li, ↓SP, SQ, Gam.add, stepM, callC, argC, lendO, nmBy, nmC, likeL, likeB, plainOb, offs, exL, X, F, trP, trO, stepD, stepW, newA, SV.tr, SV.trL, fz, allP, Ob.tr, loadA, cellsA, SV.cells, binA, binI, eqOut, isSl, isPt, natOf, callee, snap, SV.refsL, SV.refs, thaw, fzAll, loA, hiA, elemOf, partsA, buildA, putCells, ↓reduceIte, reduceCtorEq, okCell, Nat.reduceAdd, Nat.reduceEqDiff, Nat.reduceSub, Nat.reduceMul, Nat.reduceLeDiff, Nat.reduceLT, Nat.reduceBEq, PV.scal, PV.scalL, SV.scal, SV.scalL, Ob.scal, PV.isCell, pure', resO]
        refine hR2 _ _ _ (by intro h; cases h) ?_
        simp only [hw, hend, cells_wh, cells_li, ↓SP, SQ, Gam.add, stepM, callC, argC, lendO, nmBy, nmC, likeL, likeB, plainOb, offs, exL, X, F, trP, trO, stepD, stepW, newA, SV.tr, SV.trL, fz, allP, Ob.tr, loadA, cellsA, SV.cells, binA, binI, eqOut, isSl, isPt, natOf, callee, snap, SV.refsL, SV.refs, thaw, fzAll, loA, hiA, elemOf, partsA, buildA, putCells, ↓reduceIte, reduceCtorEq, okCell, Nat.reduceAdd, Nat.reduceEqDiff, Nat.reduceSub, Nat.reduceMul, Nat.reduceLeDiff, Nat.reduceLT, Nat.reduceBEq, PV.scal, PV.scalL, SV.scal, SV.scalL, Ob.scal, PV.isCell, pure', resO]
        exact hN ⟨(i + 1) + 1, _, _, _, _, _, _, _, _, _, _, _, _, _, _, _⟩ _ _ (by simp only; omega) (by simp only; omega) rfl rfl
  · have he : i = c.length := by omega
    have h1 : ¬ (i : Int) < c.length := by omega
    cases i with
    | zero =>
      simp only [h1, cells_wh, cells_li, ↓SP, SQ, Gam.add, stepM, callC, argC, lendO, nmBy, nmC, likeL, likeB, plainOb, offs, exL, X, F, trP, trO, stepD, stepW, newA, SV.tr, SV.trL, fz, allP, Ob.tr, loadA, cellsA, SV.cells, binA, binI, eqOut, isSl, isPt, natOf, callee, snap, SV.refsL, SV.refs, thaw, fzAll, loA, hiA, elemOf, partsA, buildA, putCells, ↓reduceIte, reduceCtorEq, okCell, Nat.reduceAdd, Nat.reduceEqDiff, Nat.reduceSub, Nat.reduceMul, Nat.reduceLeDiff, Nat.reduceLT, Nat.reduceBEq, PV.scal, PV.scalL, SV.scal, SV.scalL, Ob.scal, PV.isCell, pure', resO]
      refine hR _ _ _ (by intro h; cases h) ?_
      simp only [cells_wh, cells_li, ↓SP, SQ, Gam.add, stepM, callC, argC, lendO, nmBy, nmC, likeL, likeB, plainOb, offs, exL, X, F, trP, trO, stepD, stepW, newA, SV.tr, SV.trL, fz, allP, Ob.tr, loadA, cellsA, SV.cells, binA, binI, eqOut, isSl, isPt, natOf, callee, snap, SV.refsL, SV.refs, thaw, fzAll, loA, hiA, elemOf, partsA, buildA, putCells, ↓reduceIte, reduceCtorEq, okCell, Nat.reduceAdd, Nat.reduceEqDiff, Nat.reduceSub, Nat.reduceMul, Nat.reduceLeDiff, Nat.reduceLT, Nat.reduceBEq, PV.scal, PV.scalL, SV.scal, SV.scalL, Ob.scal, PV.isCell, pure', resO]
      have hs : splL c = [[]] := by rw [splL, ← he]; rfl
      refine finA_gen [11] trivial (by simp [retA, rvA, mkE_cons, mk_nil, mkO_cons, mkO_nil, loadA, SV.tr, SV.trL, nmF, rn_nil, rn_cons1, rn_cons2, plainOb, SV.refsL, SV.refs, Ob.refs, X, F, List.range_succ, mkO, setO_mk]; rfl) ?_ ?_ ?_ ?_ ?_ ?_ ?_ <;> simp [hs, retA, rvA, mkE_cons, mk_nil, mkO_cons, mkO_nil, loadA, SV.tr, SV.trL, nmF, rn_nil, rn_cons1, rn_cons2, plainOb, SV.refsL, SV.refs, Ob.refs, X, F, List.range_succ, mkO, setO_mk]
    | succ i =>
      simp only [h1, cells_wh, cells_li, ↓SP, SQ, Gam.add, stepM, callC, argC, lendO, nmBy, nmC, likeL, likeB, plainOb, offs, exL, X, F, trP, trO, stepD, stepW, newA, SV.tr, SV.trL, fz, allP, Ob.tr, loadA, cellsA, SV.cells, binA, binI, eqOut, isSl, isPt, natOf, callee, snap, SV.refsL, SV.refs, thaw, fzAll, loA, hiA, elemOf, partsA, buildA, putCells, ↓reduceIte, reduceCtorEq, okCell, Nat.reduceAdd, Nat.reduceEqDiff, Nat.reduceSub, Nat.reduceMul, Nat.reduceLeDiff, Nat.reduceLT, Nat.reduceBEq, PV.scal, PV.scalL, SV.scal, SV.scalL, Ob.scal, PV.isCell, pure', resO]
      refine hR _ _ _ (by intro h; cases h) ?_
      simp only [cells_wh, cells_li, ↓SP, SQ, Gam.add, stepM, callC, argC, lendO, nmBy, nmC, likeL, likeB, plainOb, offs, exL, X, F, trP, trO, stepD, stepW, newA, SV.tr, SV.trL, fz, allP, Ob.tr, loadA, cellsA, SV.cells, binA, binI, eqOut, isSl, isPt, natOf, callee, snap, SV.refsL, SV.refs, thaw, fzAll, loA, hiA, elemOf, partsA, buildA, putCells, ↓reduceIte, reduceCtorEq, okCell, Nat.reduceAdd, Nat.reduceEqDiff, Nat.reduceSub, Nat.reduceMul, Nat.reduceLeDiff, Nat.reduceLT, Nat.reduceBEq, PV.scal, PV.scalL, SV.scal, SV.scalL, Ob.scal, PV.isCell, pure', resO]
      have hs : splL c = spI c (i + 1) := by rw [splL, ← he]
      refine finA_gen [18] trivial (by simp [retA, rvA, mkE_cons, mk_nil, mkO_cons, mkO_nil, loadA, SV.tr, SV.trL, nmF, rn_nil, rn_cons1, rn_cons2, plainOb, SV.refsL, SV.refs, Ob.refs, X, F, List.range_succ, mkO, setO_mk]; rfl) ?_ ?_ ?_ ?_ ?_ ?_ ?_ <;> simp [hs, retA, rvA, mkE_cons, mk_nil, mkO_cons, mkO_nil, loadA, SV.tr, SV.trL, nmF, rn_nil, rn_cons1, rn_cons2, plainOb, SV.refsL, SV.refs, Ob.refs, X, F, List.range_succ, mkO, setO_mk]
/-- Apart from what. -/
def whA : List PV → Nat → Prop
  | .wh A _ :: _ => A
  | _ => fun _ => False
theorem whA_whs {A : Nat → Prop} (L : List (List Int)) : whs A L = whs (whA (whs A L)) (lsW (whs A L)) := by
  rw [lsW_whs]
  cases L with
  | nil => rfl
  | cons l r => rfl
def isW (xs : List PV) : Prop := xs = whs (whA xs) (lsW xs)
theorem isW_whs {A : Nat → Prop} (L : List (List Int)) : isW (whs A L) := whA_whs L
theorem isW_out {xs : List PV} (h : isW xs) : ∃ A L, xs = whs A L := ⟨_, _, h⟩
theorem whA_app {A : Nat → Prop} {L : List (List Int)} (h : L ≠ []) : whA (whs A L) = A := by
  cases L with
  | nil => exact absurd rfl h
  | cons l r => rfl
def a_IndexFuncW : AFn := ⟨2, 
  .seq (.reg [⟨some 4, none, .d (.mv (.c (.int .i64 0)))⟩])
  (.seq (.seq (.reg [⟨some 6, none, .d (.mv (.t 0))⟩,
    ⟨some 7, none, .d (.len (.t 6))⟩,
    ⟨some 8, none, .d (.mv (.c (.int .i64 0)))⟩])
  (.block 0 (.loop (.seq (.reg [⟨some 9, none, .d (.bin .arith .lss (.t 8) (.t 7))⟩])
    (.seq (.cond (.t 9) (.skip) (.exit 0))
    (.seq (.block 1 (.seq (.reg [⟨some 10, none, .d (.mv (.t 8))⟩,
       ⟨some 5, none, .d (.mv (.t 10))⟩])
     (.seq (.reg [⟨some 11, none, .d (.mv (.t 1))⟩,
       ⟨some 12, none, .d (.mv (.t 0))⟩,
       ⟨some 13, none, .d (.mv (.t 5))⟩,
       ⟨some 14, none, .d (.ia 1 (.t 12) (.t 13))⟩,
       ⟨some 15, none, .d (.load false 1 (.t 14))⟩,
       ⟨some 16, none, .d (.call (.t 11) [(.t 15)])⟩])
     (.cond (.t 16) (.seq (.reg [⟨some 17, none, .d (.mv (.t 5))⟩,
        ⟨some 4, none, .d (.mv (.t 17))⟩])
      (.ret)) (.skip)))))
    (.reg [⟨some 18, none, .d (.bin .arith .add (.t 8) (.c (.int .i64 1)))⟩,
      ⟨some 8, none, .d (.mv (.t 18))⟩])))))))
  (.seq (.reg [⟨some 4, none, .d (.mv (.c (.int .i64 (-1))))⟩])
  (.ret))), [.tmp 4]⟩
def n_IndexFuncW : Nat → Option Ann := fun _ => none
abbrev k_IndexFuncW : List Nat := [0, 1, 4, 5, 7, 8, 9, 16]
abbrev o_IndexFuncW : List Nat := []
open Classical in
noncomputable def c_IndexFuncW (Γ0 : Gam) : Con := pure' fun
  | [.p (.sl 1 xs), .p (.fn g a b)] => if isW xs ∧ xs.length ≤ 1100000 then (match askF Γ0 g a b xs with | some bs => some (.p (.int .i64 (firstT bs)), []) | none => none) else none
  | _ => none
theorem s_IndexFuncW {P : Program} (hm : P.follows .mixedOrders = true) {Γ : Gam} (hΓ : GS P Γ) {n : FuncId} (is : Is P n a_IndexFuncW)  : Says P n (c_IndexFuncW Γ) := by
  refine Says.pure fun args r fs h => ?_
  split at h
  case h_2 => cases h
  rename_i xs g a b
  split at h
  case isFalse => cases h
  rename_i hc
  obtain ⟨hx, hc⟩ := hc
  obtain ⟨A, l, rfl⟩ := isW_out hx
  rw [whs_len] at hc
  split at h
  case h_2 => cases h
  rename_i bs hbs
  simp only [Option.some.injEq, Prod.mk.injEq] at h
  obtain ⟨rfl, rfl⟩ := h
  have hbl := askF_len hbs
  rw [whs_len] at hbl
  refine is.go hm hΓ k_IndexFuncW o_IndexFuncW (by simp [a_IndexFuncW]) ?_
  simp only [a_IndexFuncW, whs_len, List.zipIdx_cons, List.zipIdx_nil, ↓SP, SQ, Gam.add, stepM, callC, argC, lendO, nmBy, nmC, likeL, likeB, plainOb, offs, exL, X, F, trP, trO, stepD, stepW, newA, SV.tr, SV.trL, fz, allP, Ob.tr, loadA, cellsA, SV.cells, binA, binI, eqOut, isSl, isPt, natOf, callee, snap, SV.refsL, SV.refs, thaw, fzAll, loA, hiA, elemOf, partsA, buildA, putCells, ↓reduceIte, reduceCtorEq, okCell, Nat.reduceAdd, Nat.reduceEqDiff, Nat.reduceSub, Nat.reduceMul, Nat.reduceLeDiff, Nat.reduceLT, Nat.reduceBEq, PV.scal, PV.scalL, SV.scal, SV.scalL, Ob.scal, PV.isCell, pure', resO]
  refine loop_at (fun s : Nat × SV × SV × SV => mkEnv [(0, .p (.sl 1 (whs A l))), (1, .p (.fn g a b)), (4, si 0), (5, s.2.1), (7, si l.length), (8, si s.1), (9, s.2.2.1), (16, s.2.2.2)]) (fun s => mkO []) (fun s => s.1 ≤ l.length ∧ ∀ j, j < s.1 → bs.getD j false = false) (fun s => l.length - s.1) (0, .junk, .junk, .junk) (by simp) rfl rfl ?_
  rintro ⟨i, c1, c2, c3⟩ ⟨hi, hp⟩ R hR hN
  simp only at hi hp
  by_cases h : i < l.length
  · have h1 : (i : Int) < l.length := by omega
    have hw := wrap_one (i := i) (by omega)
    have hg := whs_get (A := A) h
    have hq := askF_get hbs hg
    cases hb : bs.getD i false with
    | false =>
      rw [hb] at hq
      simp only [h1, hw, hg, call_ps, refs_ps, hq, cells_wh, cells_li, ↓SP, SQ, Gam.add, stepM, callC, argC, lendO, nmBy, nmC, likeL, likeB, plainOb, offs, exL, X, F, trP, trO, stepD, stepW, newA, SV.tr, SV.trL, fz, allP, Ob.tr, loadA, cellsA, SV.cells, binA, binI, eqOut, isSl, isPt, natOf, callee, snap, SV.refsL, SV.refs, thaw, fzAll, loA, hiA, elemOf, partsA, buildA, putCells, ↓reduceIte, reduceCtorEq, okCell, Nat.reduceAdd, Nat.reduceEqDiff, Nat.reduceSub, Nat.reduceMul, Nat.reduceLeDiff, Nat.reduceLT, Nat.reduceBEq, PV.scal, PV.scalL, SV.scal, SV.scalL, Ob.scal, PV.isCell, pure', resO]
      refine hN (i + 1, _, _, _) _ _ ⟨by simp only; omega, fun j hj => ?_⟩ (by simp only; omega) rfl rfl
      simp only at hj
      by_cases hji : j = i
      · rw [hji]; exact hb
      · exact hp j (by omega)
    | true =>
      rw [hb] at hq
      have hf := firstT_some (by omega) hp hb
      simp only [h1, hw, hg, call_ps, refs_ps, hq, hf, cells_wh, cells_li, ↓SP, SQ, Gam.add, stepM, callC, argC, lendO, nmBy, nmC, likeL, likeB, plainOb, offs, exL, X, F, trP, trO, stepD, stepW, newA, SV.tr, SV.trL, fz, allP, Ob.tr, loadA, cellsA, SV.cells, binA, binI, eqOut, isSl, isPt, natOf, callee, snap, SV.refsL, SV.refs, thaw, fzAll, loA, hiA, elemOf, partsA, buildA, putCells, ↓reduceIte, reduceCtorEq, okCell, Nat.reduceAdd, Nat.reduceEqDiff, Nat.reduceSub, Nat.reduceMul, Nat.reduceLeDiff, Nat.reduceLT, Nat.reduceBEq, PV.scal, PV.scalL, SV.scal, SV.scalL, Ob.scal, PV.isCell, pure', resO]
      refine hR _ _ _ (by intro h; cases h) ?_
      simp only [cells_wh, cells_li, ↓SP, SQ, Gam.add, stepM, callC, argC, lendO, nmBy, nmC, likeL, likeB, plainOb, offs, exL, X, F, trP, trO, stepD, stepW, newA, SV.tr, SV.trL, fz, allP, Ob.tr, loadA, cellsA, SV.cells, binA, binI, eqOut, isSl, isPt, natOf, callee, snap, SV.refsL, SV.refs, thaw, fzAll, loA, hiA, elemOf, partsA, buildA, putCells, ↓reduceIte, reduceCtorEq, okCell, Nat.reduceAdd, Nat.reduceEqDiff, Nat.reduceSub, Nat.reduceMul, Nat.reduceLeDiff, Nat.reduceLT, Nat.reduceBEq, PV.scal, PV.scalL, SV.scal, SV.scalL, Ob.scal, PV.isCell, pure', resO]
      exact finA_val (by simp [hf, retA, rvA, mkE_cons, mk_nil, mkO_cons, mkO_nil, loadA, SV.tr, SV.trL, nmF, rn_nil, rn_cons1, rn_cons2, plainOb, SV.refsL, SV.refs, Ob.refs, X, F, List.range_succ, mkO, setO_mk]) (by simp [SV.tr, SV.trL])
  · have he : i = l.length := by omega
    have h1 : ¬ (i : Int) < l.length := by omega
    have hf : firstT bs = -1 := firstT_none fun j hj => hp j (by omega)
    simp only [h1, hf, cells_wh, cells_li, ↓SP, SQ, Gam.add, stepM, callC, argC, lendO, nmBy, nmC, likeL, likeB, plainOb, offs, exL, X, F, trP, trO, stepD, stepW, newA, SV.tr, SV.trL, fz, allP, Ob.tr, loadA, cellsA, SV.cells, binA, binI, eqOut, isSl, isPt, natOf, callee, snap, SV.refsL, SV.refs, thaw, fzAll, loA, hiA, elemOf, partsA, buildA, putCells, ↓reduceIte, reduceCtorEq, okCell, Nat.reduceAdd, Nat.reduceEqDiff, Nat.reduceSub, Nat.reduceMul, Nat.reduceLeDiff, Nat.reduceLT, Nat.reduceBEq, PV.scal, PV.scalL, SV.scal, SV.scalL, Ob.scal, PV.isCell, pure', resO]
    refine hR _ _ _ (by intro h; cases h) ?_
    simp only [cells_wh, cells_li, ↓SP, SQ, Gam.add, stepM, callC, argC, lendO, nmBy, nmC, likeL, likeB, plainOb, offs, exL, X, F, trP, trO, stepD, stepW, newA, SV.tr, SV.trL, fz, allP, Ob.tr, loadA, cellsA, SV.cells, binA, binI, eqOut, isSl, isPt, natOf, callee, snap, SV.refsL, SV.refs, thaw, fzAll, loA, hiA, elemOf, partsA, buildA, putCells, ↓reduceIte, reduceCtorEq, okCell, Nat.reduceAdd, Nat.reduceEqDiff, Nat.reduceSub, Nat.reduceMul, Nat.reduceLeDiff, Nat.reduceLT, Nat.reduceBEq, PV.scal, PV.scalL, SV.scal, SV.scalL, Ob.scal, PV.isCell, pure', resO]
    exact finA_val (by simp [hf, retA, rvA, mkE_cons, mk_nil, mkO_cons, mkO_nil, loadA, SV.tr, SV.trL, nmF, rn_nil, rn_cons1, rn_cons2, plainOb, SV.refsL, SV.refs, Ob.refs, X, F, List.range_succ, mkO, setO_mk]) (by simp [SV.tr, SV.trL])
def a_DelW (f_IndexFuncW : FuncId) : AFn := ⟨2, 
  .seq (.reg [⟨some 4, none, .d (.mv (.c (.nilsl)))⟩])
  (.seq (.reg [⟨some 8, none, .d (.mv (.t 0))⟩,
    ⟨some 9, none, .d (.mv (.t 1))⟩,
    ⟨some 10, none, .d (.call (.f f_IndexFuncW) [(.t 8), (.t 9)])⟩,
    ⟨some 5, none, .d (.mv (.t 10))⟩])
  (.seq (.seq (.reg [⟨some 11, none, .d (.mv (.t 5))⟩,
    ⟨some 12, none, .d (.bin .arith .eql (.t 11) (.c (.int .i64 (-1))))⟩])
  (.cond (.t 12) (.seq (.reg [⟨some 13, none, .d (.mv (.t 0))⟩,
     ⟨some 4, none, .d (.mv (.t 13))⟩])
   (.ret)) (.skip)))
  (.seq (.seq (.reg [⟨some 14, none, .d (.mv (.t 5))⟩,
    ⟨some 15, none, .d (.bin .arith .add (.t 14) (.c (.int .i64 1)))⟩,
    ⟨some 6, none, .d (.mv (.t 15))⟩])
  (.block 0 (.loop (.seq (.seq (.reg [⟨some 16, none, .d (.mv (.t 6))⟩,
      ⟨some 17, none, .d (.mv (.t 0))⟩,
      ⟨some 18, none, .d (.len (.t 17))⟩,
      ⟨some 19, none, .d (.bin .arith .lss (.t 16) (.t 18))⟩])
    (.cond (.t 19) (.skip) (.exit 0)))
    (.seq (.block 1 (.seq (.reg [⟨some 22, none, .d (.mv (.t 0))⟩,
       ⟨some 23, none, .d (.mv (.t 6))⟩,
       ⟨some 24, none, .d (.ia 1 (.t 22) (.t 23))⟩,
       ⟨some 25, none, .d (.load false 1 (.t 24))⟩,
       ⟨some 7, none, .d (.mv (.t 25))⟩])
     (.seq (.reg [⟨some 26, none, .d (.mv (.t 1))⟩,
       ⟨some 27, none, .d (.mv (.t 7))⟩,
       ⟨some 28, none, .d (.call (.t 26) [(.t 27)])⟩,
       ⟨some 29, none, .d (.not (.t 28))⟩])
     (.cond (.t 29) (.seq (.reg [⟨some 30, none, .d (.mv (.t 0))⟩,
        ⟨some 31, none, .d (.mv (.t 5))⟩,
        ⟨some 32, none, .d (.mv (.t 7))⟩,
        ⟨some 33, none, .d (.ia 1 (.t 30) (.t 31))⟩,
        ⟨none, none, .w (.store 1 (.t 33) (.t 32))⟩])
      (.reg [⟨some 34, none, .d (.mv (.t 5))⟩,
        ⟨some 35, none, .d (.bin .arith .add (.t 34) (.c (.int .i64 1)))⟩,
        ⟨some 5, none, .d (.mv (.t 35))⟩])) (.skip)))))
    (.reg [⟨some 20, none, .d (.mv (.t 6))⟩,
      ⟨some 21, none, .d (.bin .arith .add (.t 20) (.c (.int .i64 1)))⟩,
      ⟨some 6, none, .d (.mv (.t 21))⟩]))))))
  (.seq (.reg [⟨some 36, none, .d (.mv (.t 0))⟩,
    ⟨some 37, none, .d (.mv (.t 5))⟩,
    ⟨some 38, none, .d (.slc 1 (.t 36) (some (.t 37)) none)⟩,
    ⟨none, none, .w (.clear 1 (.nilsl) (.t 38))⟩])
  (.seq (.reg [⟨some 39, none, .d (.mv (.t 0))⟩,
    ⟨some 40, none, .d (.mv (.t 5))⟩,
    ⟨some 41, none, .d (.slc 1 (.t 39) none (some (.t 40)))⟩,
    ⟨some 4, none, .d (.mv (.t 41))⟩])
  (.ret)))))), [.tmp 4]⟩
def n_DelW : Nat → Option Ann := fun _ => none
abbrev k_DelW : List Nat := [0, 1, 4, 5, 6, 7, 12, 19, 29]
abbrev o_DelW : List Nat := []
open Classical in
noncomputable def c_DelW (Γ0 Γ1 : Gam) : Con
  | [.ar 1000000, .p (.fn g a b)], [.arr 1 xs] => if isW xs ∧ xs.length ≤ 1100000 then (match askF Γ0 g a b xs, askF Γ1 g a b xs with
      | some bs, some bs' => if bs = bs' ∧ bs.any id = true then some (.sub 1000000 0 (kpI [] (lsW xs) bs xs.length).length, [.arr 1 (whs (whA xs) (kpI [] (lsW xs) bs xs.length) ++ List.replicate (xs.length - (kpI [] (lsW xs) bs xs.length).length) .nilsl)], []) else none
      | _, _ => none) else none
  | _, _ => none
theorem s_DelW {P : Program} (hm : P.follows .mixedOrders = true) {Γ : Gam} (hΓ : GS P Γ) {n : FuncId} {f_IndexFuncW : FuncId} (is : Is P n (a_DelW f_IndexFuncW)) {Γ0 : Gam} (h_IndexFuncW : Γ f_IndexFuncW = c_IndexFuncW Γ0) : Says P n (c_DelW Γ0 Γ) := by
  intro args ext r ext' fs h
  unfold c_DelW at h
  split at h
  case h_2 => cases h
  rename_i g a b xs
  split at h
  case isFalse => cases h
  rename_i hc
  obtain ⟨hx, hn⟩ := hc
  unfold isW at hx
  generalize hA : whA xs = A at h hx
  generalize hL : lsW xs = L at h hx
  subst hx
  rw [whs_len] at hn
  split at h
  case h_2 => cases h
  rename_i bs bs' hbs hbs'
  split at h
  case isFalse => cases h
  rename_i hc2
  obtain ⟨rfl, hany⟩ := hc2
  simp only [lsW_whs, Option.some.injEq, Prod.mk.injEq, whs_len] at h
  obtain ⟨rfl, rfl, rfl⟩ := h
  have hbl := askF_len hbs
  rw [whs_len] at hbl
  obtain ⟨i0, hi0, hf, hpre, hat⟩ := firstT_out hany
  rw [hbl] at hi0
  have hm1 : ((i0 : Int) == -1) = false := beq_eq_false_iff_ne.2 (by omega)
  have hw0 := wrap_one (i := i0) (by omega)
  have hk0 : kpI [] L bs (i0 + 1) = L.take i0 := by rw [kpI_no hat, kpI_all (by omega) hpre]
  have hk0l : (kpI [] L bs (i0 + 1)).length = i0 := by rw [hk0]; simp; omega
  have hstart : kpI [] L bs (i0 + 1) ++ L.drop (kpI [] L bs (i0 + 1)).length = L := by rw [hk0l, hk0, List.take_append_drop]
  refine is.goX hm hΓ k_DelW (1000000 :: o_DelW) (by simp [a_DelW]) (by simp) ?_
  simp only [a_DelW, h_IndexFuncW, c_IndexFuncW, hbs, hf, hm1, hw0, isW_whs, hn, whs_len, List.zipIdx_cons, List.zipIdx_nil, cells_wh, cells_li, ↓SP, SQ, Gam.add, stepM, callC, argC, lendO, nmBy, nmC, likeL, likeB, plainOb, offs, exL, X, F, trP, trO, stepD, stepW, newA, SV.tr, SV.trL, fz, allP, Ob.tr, loadA, cellsA, SV.cells, binA, binI, eqOut, isSl, isPt, natOf, callee, snap, SV.refsL, SV.refs, thaw, fzAll, loA, hiA, elemOf, partsA, buildA, putCells, ↓reduceIte, reduceCtorEq, okCell, Nat.reduceAdd, Nat.reduceEqDiff, Nat.reduceSub, Nat.reduceMul, Nat.reduceLeDiff, Nat.reduceLT, Nat.reduceBEq, PV.scal, PV.scalL, SV.scal, SV.scalL, Ob.scal, PV.isCell, pure', resO]
  refine loop_at (fun st : J => mkEnv [(0, .ar 1000000), (1, .p (.fn g a b)), (4, .p .nilsl), (5, si (kpI [] L bs st.i).length), (6, si st.i), (7, st.a), (12, sb false), (19, st.b), (29, st.c)]) (fun st => mkO [(1000000, some (.arr 1 (whs A (kpI [] L bs st.i ++ L.drop (kpI [] L bs st.i).length))))]) (fun st => st.i ≤ L.length) (fun st => L.length - st.i) ⟨i0 + 1, .junk, .junk, .junk, .junk, .junk, .junk, .junk, .junk, .junk, .junk, .junk, .junk, none, none, none⟩ (by simp only; omega) (by simp only [hk0l]; try rfl) (by simp only [hstart]; try rfl) ?_
  rintro ⟨j, c1, c2, c3, c4, c5, c6, c7, c8, c9, c10, c11, c12, o1, o2, o3⟩ hj R hR hN
  simp only at hj
  have hmm := kpI_len [] L bs j
  have hkl := kd_len (d := []) (bs := bs) hj
  by_cases h : j < L.length
  · have h1 : (j : Int) < L.length := by omega
    have hw := wrap_one (i := j) (by omega)
    have hkg := kd_get (d := []) (bs := bs) h
    have hgL := whs_get (A := A) h
    have hg := whs_get (A := A) (L := kpI [] L bs j ++ L.drop (kpI [] L bs j).length) (i := j) (by rw [hkl]; exact h)
    rw [hkg] at hg
    obtain ⟨l, hl⟩ : ∃ l, L.getD j [] = l := ⟨_, rfl⟩
    rw [hl] at hgL hg
    have q3 : (kpI [] L bs j).length < L.length := by omega
    have hq := askF_get hbs' hgL
    have hwm := wrap_one (i := (kpI [] L bs j).length) (by omega)
    cases hb : bs.getD j false with
    | false =>
      rw [hb] at hq
      have hset : (kpI [] L bs j ++ L.drop (kpI [] L bs j).length).set (kpI [] L bs j).length l = kpI [] L bs (j + 1) ++ L.drop (kpI [] L bs (j + 1)).length := by
        rw [← hl]; exact kd_set h hb
      have hlen1 : (kpI [] L bs (j + 1)).length = (kpI [] L bs j).length + 1 := by rw [kpI_yes hb]; simp
      obtain ⟨e1, he1⟩ : ∃ e, (whs A (kpI [] L bs j ++ L.drop (kpI [] L bs j).length))[(kpI [] L bs j).length]? = some e := ⟨_, List.getElem?_eq_getElem (by rw [whs_len, hkl]; exact q3)⟩
      simp only [h, h1, hw, hg, hkl, q3, he1, whs_set, hset, hwm, ← hlen1, call_ps, refs_ps, hq, whs_len, Nat.zero_add, cells_wh, cells_li, ↓SP, SQ, Gam.add, stepM, callC, argC, lendO, nmBy, nmC, likeL, likeB, plainOb, offs, exL, X, F, trP, trO, stepD, stepW, newA, SV.tr, SV.trL, fz, allP, Ob.tr, loadA, cellsA, SV.cells, binA, binI, eqOut, isSl, isPt, natOf, callee, snap, SV.refsL, SV.refs, thaw, fzAll, loA, hiA, elemOf, partsA, buildA, putCells, ↓reduceIte, reduceCtorEq, okCell, Nat.reduceAdd, Nat.reduceEqDiff, Nat.reduceSub, Nat.reduceMul, Nat.reduceLeDiff, Nat.reduceLT, Nat.reduceBEq, PV.scal, PV.scalL, SV.scal, SV.scalL, Ob.scal, PV.isCell, pure', resO]
      exact hN ⟨j + 1, _, _, _, .junk, .junk, .junk, .junk, .junk, .junk, .junk, .junk, .junk, none, none, none⟩ _ _ (by simp only; omega) (by simp only; omega) rfl rfl
    | true =>
      rw [hb] at hq
      have hsame := kpI_no (d := []) (L := L) hb
      simp only [h, h1, hw, hg, hkl, call_ps, refs_ps, hq, whs_len, Nat.zero_add, cells_wh, cells_li, ↓SP, SQ, Gam.add, stepM, callC, argC, lendO, nmBy, nmC, likeL, likeB, plainOb, offs, exL, X, F, trP, trO, stepD, stepW, newA, SV.tr, SV.trL, fz, allP, Ob.tr, loadA, cellsA, SV.cells, binA, binI, eqOut, isSl, isPt, natOf, callee, snap, SV.refsL, SV.refs, thaw, fzAll, loA, hiA, elemOf, partsA, buildA, putCells, ↓reduceIte, reduceCtorEq, okCell, Nat.reduceAdd, Nat.reduceEqDiff, Nat.reduceSub, Nat.reduceMul, Nat.reduceLeDiff, Nat.reduceLT, Nat.reduceBEq, PV.scal, PV.scalL, SV.scal, SV.scalL, Ob.scal, PV.isCell, pure', resO]
      exact hN ⟨j + 1, _, _, _, .junk, .junk, .junk, .junk, .junk, .junk, .junk, .junk, .junk, none, none, none⟩ _ _ (by simp only; omega) (by simp only; omega) (by rw [hsame]) (by rw [hsame])
  · have he : j = L.length := by omega
    have h1 : ¬ (j : Int) < L.length := by omega
    subst he
    have hcl : putPV (whs A (kpI [] L bs L.length ++ L.drop (kpI [] L bs L.length).length)) (kpI [] L bs L.length).length (List.replicate (L.length - (kpI [] L bs L.length).length) .nilsl) = whs A (kpI [] L bs L.length) ++ List.replicate (L.length - (kpI [] L bs L.length).length) .nilsl := by
      rw [putPV_whs _ _ _ (by rw [hkl]; omega)]
      have e1 : (kpI [] L bs L.length).length + (L.length - (kpI [] L bs L.length).length) = L.length := by omega
      rw [e1, List.take_left, List.drop_of_length_le (by rw [hkl]; exact Nat.le_refl _)]
      simp [whs]
    have hdl : (whs A (kpI [] L bs L.length) ++ List.replicate (L.length - (kpI [] L bs L.length).length) PV.nilsl).length = L.length := by simp [whs_len]; omega
    simp only [h1, hkl, whs_len, cells_wh, cells_li, ↓SP, SQ, Gam.add, stepM, callC, argC, lendO, nmBy, nmC, likeL, likeB, plainOb, offs, exL, X, F, trP, trO, stepD, stepW, newA, SV.tr, SV.trL, fz, allP, Ob.tr, loadA, cellsA, SV.cells, binA, binI, eqOut, isSl, isPt, natOf, callee, snap, SV.refsL, SV.refs, thaw, fzAll, loA, hiA, elemOf, partsA, buildA, putCells, ↓reduceIte, reduceCtorEq, okCell, Nat.reduceAdd, Nat.reduceEqDiff, Nat.reduceSub, Nat.reduceMul, Nat.reduceLeDiff, Nat.reduceLT, Nat.reduceBEq, PV.scal, PV.scalL, SV.scal, SV.scalL, Ob.scal, PV.isCell, pure', resO]
    refine hR _ _ _ (by intro h; cases h) ?_
    simp only [hkl, hmm, hcl, hdl, whs_len, Nat.zero_add, Nat.sub_zero, cells_wh, cells_li, ↓SP, SQ, Gam.add, stepM, callC, argC, lendO, nmBy, nmC, likeL, likeB, plainOb, offs, exL, X, F, trP, trO, stepD, stepW, newA, SV.tr, SV.trL, fz, allP, Ob.tr, loadA, cellsA, SV.cells, binA, binI, eqOut, isSl, isPt, natOf, callee, snap, SV.refsL, SV.refs, thaw, fzAll, loA, hiA, elemOf, partsA, buildA, putCells, ↓reduceIte, reduceCtorEq, okCell, Nat.reduceAdd, Nat.reduceEqDiff, Nat.reduceSub, Nat.reduceMul, Nat.reduceLeDiff, Nat.reduceLT, Nat.reduceBEq, PV.scal, PV.scalL, SV.scal, SV.scalL, Ob.scal, PV.isCell, pure', resO]
    refine finA_gen [] trivial (by simp [retA, rvA, mkE_cons, mk_nil, mkO_cons, mkO_nil, loadA, SV.tr, SV.trL, nmF, rn_nil, rn_cons1, rn_cons2, plainOb, SV.refsL, SV.refs, Ob.refs, X, F, List.range_succ, mkO, setO_mk]; rfl) ?_ ?_ ?_ ?_ ?_ ?_ ?_ <;> simp [retA, rvA, mkE_cons, mk_nil, mkO_cons, mkO_nil, loadA, SV.tr, SV.trL, nmF, rn_nil, rn_cons1, rn_cons2, plainOb, SV.refsL, SV.refs, Ob.refs, X, F, List.range_succ, mkO, setO_mk]
def a_nBestW (f_nOf : FuncId) (f_splitsW : FuncId) (f_best1 : FuncId) (f_DelW : FuncId) : AFn := ⟨2, 
  .seq (.reg [⟨some 2, none, .w (.box 2 (.t 0))⟩,
    ⟨some 3, none, .w (.box 1 (.t 1))⟩,
    ⟨some 4, none, .d (.mv (.c (.nilsl)))⟩])
  (.seq (.reg [⟨some 6, none, .d (.load true 2 (.t 2))⟩,
    ⟨some 7, none, .d (.load false 1 (.t 3))⟩,
    ⟨some 8, none, .d (.call (.f f_nOf) [(.t 6), (.t 7)])⟩,
    ⟨some 5, none, .w (.alloc [.int .i64 0])⟩,
    ⟨none, none, .w (.store 1 (.t 5) (.t 8))⟩])
  (.seq (.reg [⟨some 9, none, .d (.load false 1 (.t 3))⟩,
    ⟨some 10, none, .w (.callL (.f f_splitsW) [(.t 9)] [] 1 false)⟩,
    ⟨some 11, none, .d (.mkfn f_best1 [] [(.t 2), (.t 3), (.t 5)])⟩,
    ⟨some 12, none, .w (.callL (.f f_DelW) [(.t 10), (.t 11)] [10] 0 true)⟩,
    ⟨some 4, none, .d (.mv (.t 12))⟩])
  (.ret))), [.tmp 4]⟩
def n_nBestW : Nat → Option Ann := fun d => if d = 10 then some ⟨[], 1, false⟩ else if d = 12 then some ⟨[10], 0, true⟩ else none
abbrev k_nBestW : List Nat := [0, 1, 2, 3, 4, 5]
abbrev o_nBestW : List Nat := [2, 3, 5, 10]
open Classical in
noncomputable def c_nBestW (Γ2 : Gam) : Con := pure' fun
  | [.p (.agg [.fn g [] [], .mapv es]), .p (.li A c_)] =>
    if (Γ2 g = c_bothWays ∨ Γ2 g = c_oneWay) ∧ okE es = true ∧ isI c_ = true ∧ okC (ofI c_) = true ∧ ((splL (ofI c_)).any fun s => !beQ Γ2 g es (ofI c_) s) = true then
      some (.sub 2000000 0 (beL Γ2 g es (ofI c_)).length, [.arr 1 (whs A (beL Γ2 g es (ofI c_)) ++ List.replicate ((splL (ofI c_)).length - (beL Γ2 g es (ofI c_)).length) .nilsl)])
    else none
  | _ => none
theorem ask_best1W {Γ0 Γ2 : Gam} {f_best1 g : FuncId} {es : List (PV × PV)} {c : List Int} {A : Nat → Prop} (h : Γ0 f_best1 = unC (c_best1 Γ2)) (hg : Γ2 g = c_bothWays ∨ Γ2 g = c_oneWay) (hE : okE es = true) (hc : okC c = true) :
    askF Γ0 f_best1 [] [.cp [.fn g [] [], .mapv es], .cp [.li A (ints c)], .cp [.int .i64 (ofE es c)]] (whs A (splL c)) = some ((splL c).map fun s => !beQ Γ2 g es c s) := by
  obtain ⟨⟨l1, l3⟩, h8, _⟩ := okC_out hc
  refine askF_eq fun s hs => ?_
  have hsl := spl_len hs
  have hs8 := spl_in8 h8 hs
  have hb1 : bd 1000 c = true := bd_in8 h8 (by omega)
  have hb2 : bd 1000 s = true := bd_in8 hs8 (by omega)
  have hq : (1 + mxI (ofE es (ruleY Γ2 g c s)) (ofE es (noL c s)) != ofE es c) = !beQ Γ2 g es c s := by
    simp only [beQ, bne]
    congr 1
  rw [h]
  simp only [unC, SV.un', PV.un, PV.un1, List.nil_append, List.cons_append, List.map_cons, List.map_nil, c_best1, pure', c_nSplit, hg, hE, isI_ints, ofI_ints, ints_len, l1, l3, hsl, hb1, hb2, and_self, if_true, Option.map_some, hq]
theorem s_nBestW {P : Program} (hm : P.follows .mixedOrders = true) {Γ : Gam} (hΓ : GS P Γ) {n : FuncId} {f_nOf : FuncId} {f_splitsW : FuncId} {f_best1 : FuncId} {f_DelW : FuncId} (is : Is P n (a_nBestW f_nOf f_splitsW f_best1 f_DelW)) (h_splitsW : Γ f_splitsW = c_splitsW) {Γ0 Γ1 Γ2 : Gam} (h_nOfU : Γ f_nOf = unC c_nOf) (h_DelW : Γ f_DelW = c_DelW Γ0 Γ1) (h_best1a : Γ0 f_best1 = unC (c_best1 Γ2)) (h_best1b : Γ1 f_best1 = unC (c_best1 Γ2)) : Says P n (c_nBestW Γ2) := by
  refine Says.pure fun args r fs h => ?_
  split at h
  case h_2 => cases h
  rename_i g es A c_
  split at h
  case isFalse => cases h
  rename_i hc
  obtain ⟨hg, hE, hc_, hok, hany⟩ := hc
  obtain ⟨c, rfl⟩ := isI_out hc_
  rw [ofI_ints] at hok hany
  simp only [ofI_ints, Option.some.injEq, Prod.mk.injEq] at h
  obtain ⟨rfl, rfl⟩ := h
  obtain ⟨⟨l1, l3⟩, h8, _⟩ := okC_out hok
  have hsl := spI_len3 h8 l3
  have hsl2 : (splL c).length ≤ 1100000 := Nat.le_trans hsl (by omega)
  have a0 := ask_best1W (A := A) h_best1a hg hE hok
  have a1 := ask_best1W (A := A) h_best1b hg hE hok
  have hany2 : (((splL c).map fun s => !beQ Γ2 g es c s).any id) = true := by rw [List.any_map]; exact hany
  have hkp : kpI [] (splL c) ((splL c).map fun s => !beQ Γ2 g es c s) (splL c).length = beL Γ2 g es c := by
    rw [kpI_filter _ _ (Nat.le_refl _), List.take_length, beL]
    congr 1; funext s; simp
  have hne : splL c ≠ [] := fun e => by rw [e] at hany; cases hany
  have hwa := whA_app (A := A) hne
  have hdel : c_DelW Γ0 Γ1 [.ar 1000000, .p (.fn f_best1 [] [.cp [.fn g [] [], .mapv es], .cp [.li A (ints c)], .cp [.int .i64 (ofE es c)]])] [.arr 1 (whs A (splL c))] = some (.sub 1000000 0 (beL Γ2 g es c).length, [.arr 1 (whs A (beL Γ2 g es c) ++ List.replicate ((splL c).length - (beL Γ2 g es c).length) .nilsl)], []) := by
    simp only [c_DelW, isW_whs, whs_len, hsl2, a0, a1, hany2, lsW_whs, hkp, hwa, and_self, if_true]
  have hle : (beL Γ2 g es c).length ≤ (splL c).length := List.length_filter_le _ _
  have hlen : (whs A (beL Γ2 g es c) ++ List.replicate ((splL c).length - (beL Γ2 g es c).length) PV.nilsl).length = (splL c).length := by simp [whs_len]; omega
  have hbe : ((splL c).length == (splL c).length) = true := beq_self_eq_true _
  refine is.go hm hΓ k_nBestW o_nBestW (by simp [a_nBestW]) ?_
  simp only [a_nBestW, h_splitsW, c_splitsW, hE, l1, l3, h8, h_nOfU, c_nOf, h_DelW, hdel, unC, SV.un', PV.un, PV.un1, List.map_cons, List.map_nil, cells_li, hlen, hbe, whs_len, isI_ints, ofI_ints, ints_len, List.zipIdx_cons, List.zipIdx_nil, ↓SP, SQ, Gam.add, stepM, callC, argC, lendO, nmBy, nmC, likeL, likeB, plainOb, offs, exL, X, F, trP, trO, stepD, stepW, newA, SV.tr, SV.trL, fz, allP, Ob.tr, loadA, cellsA, SV.cells, binA, binI, eqOut, isSl, isPt, natOf, callee, snap, SV.refsL, SV.refs, thaw, fzAll, loA, hiA, elemOf, partsA, buildA, putCells, ↓reduceIte, reduceCtorEq, okCell, Nat.reduceAdd, Nat.reduceEqDiff, Nat.reduceSub, Nat.reduceMul, Nat.reduceLeDiff, Nat.reduceLT, Nat.reduceBEq, PV.scal, PV.scalL, SV.scal, SV.scalL, Ob.scal, PV.isCell, pure', resO]
  refine finA_gen [10] trivial (by simp [retA, rvA, mkE_cons, mk_nil, mkO_cons, mkO_nil, loadA, SV.tr, SV.trL, nmF, rn_nil, rn_cons1, rn_cons2, plainOb, SV.refsL, SV.refs, Ob.refs, X, F, List.range_succ, mkO, setO_mk]; rfl) ?_ ?_ ?_ ?_ ?_ ?_ ?_ <;> simp [retA, rvA, mkE_cons, mk_nil, mkO_cons, mkO_nil, loadA, SV.tr, SV.trL, nmF, rn_nil, rn_cons1, rn_cons2, plainOb, SV.refsL, SV.refs, Ob.refs, X, F, List.range_succ, mkO, setO_mk]
theorem says_of {P : Program} {Γ : Gam} (h : GS P Γ) {f : FuncId} {c : Con} (e : Γ f = c) : Says P f c := by
  subst e; exact fun args ext r ext' fs he => h f args ext r ext' fs he
/-- What is left of a split behind the first k numbers, and the question so far. -/
def bqN (l sp : List Int) : Nat → List Int × Int
  | 0 => (sp, 0)
  | k + 1 => if 0 ≤ l.getD k 0 ∧ 0 < (bqN l sp k).1.getD (l.getD k 0).toNat 0 then ((bqN l sp k).1.set (l.getD k 0).toNat ((bqN l sp k).1.getD (l.getD k 0).toNat 0 - 1), orW .i64 (bqN l sp k).2 ((2 ^ k : Nat) : Int)) else bqN l sp k
theorem bqN_len (l sp : List Int) : ∀ k, (bqN l sp k).1.length = sp.length
  | 0 => rfl
  | k + 1 => by
    simp only [bqN]
    split
    · simp only [List.length_set]; exact bqN_len l sp k
    · exact bqN_len l sp k
theorem bqN_bd (l sp : List Int) (h8 : ∀ j, 0 ≤ sp.getD j 0 ∧ sp.getD j 0 ≤ 8) : ∀ k j, 0 ≤ (bqN l sp k).1.getD j 0 ∧ (bqN l sp k).1.getD j 0 ≤ 8
  | 0, j => h8 j
  | k + 1, j => by
    have ih := bqN_bd l sp h8 k
    simp only [bqN]
    split
    · rename_i h
      have h2 := ih (l.getD k 0).toNat
      have h3 := ih j
      simp only [List.getD_eq_getElem?_getD, List.getElem?_set] at h2 h3 h ⊢
      split
      · split
        · simp only [Option.getD_some]; omega
        · simp only [Option.getD_none]; omega
      · exact h3
    · exact ih j
theorem bqN_yes {l sp : List Int} {k : Nat} (h : 0 ≤ l.getD k 0) (h' : 0 < (bqN l sp k).1.getD (l.getD k 0).toNat 0) : bqN l sp (k + 1) = ((bqN l sp k).1.set (l.getD k 0).toNat ((bqN l sp k).1.getD (l.getD k 0).toNat 0 - 1), orW .i64 (bqN l sp k).2 ((2 ^ k : Nat) : Int)) := by
  rw [bqN, if_pos ⟨h, h'⟩]
theorem bqN_no {l sp : List Int} {k : Nat} (h : ¬ (0 ≤ l.getD k 0 ∧ 0 < (bqN l sp k).1.getD (l.getD k 0).toNat 0)) : bqN l sp (k + 1) = bqN l sp k := by
  rw [bqN, if_neg h]
def bqOk (l : List Int) (m : Int) : Bool := isSt l m && (decide ((2 : Int) ≤ (opens l).length) && decide (((opens l).length : Int) ≤ 8))
/-- The question. -/
def bqQ (l : List Int) (m : Int) : Int := (bqN l (hdB (cntL m l)) l.length).2
structure BQ (l : List Int) (m : Int) : Prop where
  st : isSt l m = true
  ok : okC (cntL m l) = true
  un : told (cntL m l) = false
  len : (cntL m l).length = (m + 1).toNat
  hl : (hdB (cntL m l)).length = (m + 1).toNat
  bd : ∀ j, 0 ≤ (hdB (cntL m l)).getD j 0 ∧ (hdB (cntL m l)).getD j 0 ≤ 8
theorem BQ.of {l : List Int} {m : Int} (h : bqOk l m = true) : BQ l m := by
  simp only [bqOk, Bool.and_eq_true, decide_eq_true_eq] at h
  obtain ⟨h1, h2, h3⟩ := h
  obtain ⟨c1, c2, c3⟩ := cnt_okC h1 (by omega)
  have hu : told (cntL m l) = false := by simp only [told]; exact dec_f (by omega)
  have hB := HB.of c1 hu
  obtain ⟨_, h8, _⟩ := okC_out c1
  exact ⟨h1, c1, hu, c3, (spl_len hB.mem).trans c3, fun j => in8_get (spl_in8 h8 hB.mem) j⟩
def a_BestQuestion (f_IsState : FuncId) (f_opened : FuncId) (f_in : FuncId) (f_neederOf : FuncId) (f_bothWays : FuncId) (f_countsS : FuncId) (f_nBestW : FuncId) : AFn := ⟨1, 
  .seq (.reg [⟨some 1, none, .w (.box 2 (.t 0))⟩,
    ⟨some 2, none, .d (.mv (.c (.int .i64 0)))⟩,
    ⟨some 3, none, .d (.mv (.c (.bool false)))⟩])
  (.seq (.seq (.reg [⟨some 8, none, .d (.load true 2 (.t 1))⟩,
    ⟨some 9, none, .d (.call (.f f_IsState) [(.t 8)])⟩,
    ⟨some 10, none, .d (.not (.t 9))⟩,
    ⟨some 11, none, .d (.mv (.t 10))⟩,
    ⟨some 12, some (11, false), .d (.load true 2 (.t 1))⟩,
    ⟨some 13, some (11, false), .w (.callL (.f f_opened) [(.t 12)] [] 1 false)⟩,
    ⟨some 14, some (11, false), .d (.len (.t 13))⟩,
    ⟨some 15, some (11, false), .d (.call (.f f_in) [(.t 14), (.c (.int .i64 2)), (.c (.int .i64 8))])⟩,
    ⟨some 16, some (11, false), .d (.not (.t 15))⟩,
    ⟨some 17, none, .d (.pick (.t 11) (.c (.bool true)) (.t 16))⟩])
  (.cond (.t 17) (.seq (.reg [⟨some 2, none, .d (.mv (.c (.int .i64 0)))⟩,
     ⟨some 3, none, .d (.mv (.c (.bool false)))⟩])
   (.ret)) (.skip)))
  (.seq (.dreg [] [([], ⟨some 18, none, .d (.call (.f f_neederOf) [(.f f_bothWays)])⟩),
    ([], ⟨some 19, none, .d (.load true 2 (.t 1))⟩)] [⟨some 20, none, .w (.callL (.f f_countsS) [(.t 19)] [] 1 false)⟩,
    ⟨some 21, none, .w (.callL (.f f_nBestW) [(.t 18), (.t 20)] [] 1 true)⟩,
    ⟨some 22, none, .d (.ia 1 (.t 21) (.c (.int .i64 0)))⟩,
    ⟨some 23, none, .d (.load false 1 (.t 22))⟩,
    ⟨some 4, none, .d (.mv (.t 23))⟩])
  (.seq (.reg [⟨some 5, none, .d (.mv (.c (.int .i64 0)))⟩])
  (.seq (.seq (.reg [⟨some 24, none, .d (.fa 0 (.t 1))⟩,
    ⟨some 25, none, .d (.load false 1 (.t 24))⟩,
    ⟨some 26, none, .d (.len (.t 25))⟩,
    ⟨some 27, none, .d (.mv (.c (.int .i64 0)))⟩])
  (.block 0 (.loop (.seq (.reg [⟨some 28, none, .d (.bin .arith .lss (.t 27) (.t 26))⟩])
    (.seq (.cond (.t 28) (.skip) (.exit 0))
    (.seq (.block 1 (.seq (.reg [⟨some 29, none, .d (.mv (.t 27))⟩,
       ⟨some 30, none, .d (.ia 1 (.t 25) (.t 27))⟩,
       ⟨some 31, none, .d (.load false 1 (.t 30))⟩,
       ⟨some 6, none, .d (.mv (.t 29))⟩,
       ⟨some 7, none, .d (.mv (.t 31))⟩])
     (.seq (.reg [⟨some 32, none, .d (.mv (.t 7))⟩,
       ⟨some 33, none, .d (.bin .arith .geq (.t 32) (.c (.int .i64 0)))⟩,
       ⟨some 34, none, .d (.mv (.t 33))⟩,
       ⟨some 35, some (34, true), .d (.mv (.t 4))⟩,
       ⟨some 36, some (34, true), .d (.mv (.t 7))⟩,
       ⟨some 37, some (34, true), .d (.ia 1 (.t 35) (.t 36))⟩,
       ⟨some 38, some (34, true), .d (.load false 1 (.t 37))⟩,
       ⟨some 39, some (34, true), .d (.bin .arith .gtr (.t 38) (.c (.int .i64 0)))⟩,
       ⟨some 40, none, .d (.pick (.t 34) (.t 39) (.c (.bool false)))⟩])
     (.cond (.t 40) (.seq (.reg [⟨some 41, none, .d (.mv (.t 4))⟩,
        ⟨some 42, none, .d (.mv (.t 7))⟩,
        ⟨some 43, none, .d (.ia 1 (.t 41) (.t 42))⟩,
        ⟨some 44, none, .d (.load false 1 (.t 43))⟩,
        ⟨some 45, none, .d (.bin .arith .sub (.t 44) (.c (.int .i64 1)))⟩,
        ⟨some 46, none, .d (.ia 1 (.t 41) (.t 42))⟩,
        ⟨none, none, .w (.store 1 (.t 46) (.t 45))⟩])
      (.reg [⟨some 47, none, .d (.mv (.t 5))⟩,
        ⟨some 48, none, .d (.mv (.t 6))⟩,
        ⟨some 49, none, .d (.bin .arith .shl (.c (.int .i64 1)) (.t 48))⟩,
        ⟨some 50, none, .d (.bin .arith .or (.t 47) (.t 49))⟩,
        ⟨some 5, none, .d (.mv (.t 50))⟩])) (.skip)))))
    (.reg [⟨some 51, none, .d (.bin .arith .add (.t 27) (.c (.int .i64 1)))⟩,
      ⟨some 27, none, .d (.mv (.t 51))⟩])))))))
  (.seq (.reg [⟨some 52, none, .d (.mv (.t 5))⟩,
    ⟨some 2, none, .d (.mv (.t 52))⟩,
    ⟨some 3, none, .d (.mv (.c (.bool true)))⟩])
  (.ret)))))), [.tmp 2, .tmp 3]⟩
def n_BestQuestion : Nat → Option Ann := fun d => if d = 13 then some ⟨[], 1, false⟩ else if d = 20 then some ⟨[], 1, false⟩ else if d = 21 then some ⟨[], 1, true⟩ else none
abbrev k_BestQuestion : List Nat := [0, 1, 2, 3, 4, 5, 6, 7, 17, 25, 26, 27, 28, 40]
def a_s_BestQuestion (f_l2State : FuncId) (f_l2Open : FuncId) (f_l1In : FuncId) (f_l2Counts : FuncId) (f_l4Best : FuncId) (f_l1Own : FuncId) : AFn := ⟨1, 
  .seq (.reg [⟨some 1, none, .w (.box 2 (.t 0))⟩,
    ⟨some 2, none, .d (.mv (.c (.int .i64 0)))⟩,
    ⟨some 3, none, .d (.mv (.c (.bool false)))⟩])
  (.seq (.seq (.reg [⟨some 8, none, .d (.load true 2 (.t 1))⟩,
    ⟨some 9, none, .d (.call (.f f_l2State) [(.t 8)])⟩,
    ⟨some 10, none, .d (.not (.t 9))⟩,
    ⟨some 11, none, .d (.mv (.t 10))⟩,
    ⟨some 12, some (11, false), .d (.load true 2 (.t 1))⟩,
    ⟨some 13, some (11, false), .d (.call (.f f_l2Open) [(.t 12)])⟩,
    ⟨some 14, some (11, false), .d (.len (.t 13))⟩,
    ⟨some 15, some (11, false), .d (.call (.f f_l1In) [(.t 14), (.c (.int .i64 2)), (.c (.int .i64 8))])⟩,
    ⟨some 16, some (11, false), .d (.not (.t 15))⟩,
    ⟨some 17, none, .d (.pick (.t 11) (.c (.bool true)) (.t 16))⟩])
  (.cond (.t 17) (.seq (.reg [⟨some 2, none, .d (.mv (.c (.int .i64 0)))⟩,
     ⟨some 3, none, .d (.mv (.c (.bool false)))⟩])
   (.ret)) (.skip)))
  (.seq (.reg [⟨some 18, none, .d (.load true 2 (.t 1))⟩,
    ⟨some 19, none, .d (.call (.f f_l2Counts) [(.t 18)])⟩,
    ⟨some 20, none, .d (.call (.f f_l4Best) [(.t 19)])⟩,
    ⟨some 21, none, .d (.ia 1 (.t 20) (.c (.int .i64 0)))⟩,
    ⟨some 22, none, .d (.load false 1 (.t 21))⟩,
    ⟨some 4, none, .d (.mv (.t 22))⟩,
    ⟨some 5, none, .d (.mv (.c (.int .i64 0)))⟩])
  (.seq (.reg [⟨some 23, none, .d (.mv (.t 4))⟩,
    ⟨some 24, none, .w (.callL (.f f_l1Own) [(.t 23)] [] 1 false)⟩,
    ⟨some 6, none, .d (.mv (.t 24))⟩])
  (.seq (.seq (.reg [⟨some 7, none, .d (.mv (.c (.int .i64 0)))⟩])
  (.block 0 (.loop (.seq (.seq (.reg [⟨some 25, none, .d (.mv (.t 7))⟩,
      ⟨some 26, none, .d (.fa 0 (.t 1))⟩,
      ⟨some 27, none, .d (.load false 1 (.t 26))⟩,
      ⟨some 28, none, .d (.len (.t 27))⟩,
      ⟨some 29, none, .d (.bin .arith .lss (.t 25) (.t 28))⟩])
    (.cond (.t 29) (.skip) (.exit 0)))
    (.seq (.block 1 (.seq (.reg [⟨some 32, none, .d (.fa 0 (.t 1))⟩,
       ⟨some 33, none, .d (.load false 1 (.t 32))⟩,
       ⟨some 34, none, .d (.mv (.t 7))⟩,
       ⟨some 35, none, .d (.ia 1 (.t 33) (.t 34))⟩,
       ⟨some 36, none, .d (.load false 1 (.t 35))⟩,
       ⟨some 37, none, .d (.bin .arith .geq (.t 36) (.c (.int .i64 0)))⟩,
       ⟨some 38, none, .d (.mv (.t 37))⟩,
       ⟨some 39, some (38, true), .d (.mv (.t 6))⟩,
       ⟨some 40, some (38, true), .d (.fa 0 (.t 1))⟩,
       ⟨some 41, some (38, true), .d (.load false 1 (.t 40))⟩,
       ⟨some 42, some (38, true), .d (.mv (.t 7))⟩,
       ⟨some 43, some (38, true), .d (.ia 1 (.t 41) (.t 42))⟩,
       ⟨some 44, some (38, true), .d (.load false 1 (.t 43))⟩,
       ⟨some 45, some (38, true), .d (.ia 1 (.t 39) (.t 44))⟩,
       ⟨some 46, some (38, true), .d (.load false 1 (.t 45))⟩,
       ⟨some 47, some (38, true), .d (.bin .arith .gtr (.t 46) (.c (.int .i64 0)))⟩,
       ⟨some 48, none, .d (.pick (.t 38) (.t 47) (.c (.bool false)))⟩])
     (.cond (.t 48) (.seq (.reg [⟨some 49, none, .d (.mv (.t 6))⟩,
        ⟨some 50, none, .d (.fa 0 (.t 1))⟩,
        ⟨some 51, none, .d (.load false 1 (.t 50))⟩,
        ⟨some 52, none, .d (.mv (.t 7))⟩,
        ⟨some 53, none, .d (.ia 1 (.t 51) (.t 52))⟩,
        ⟨some 54, none, .d (.load false 1 (.t 53))⟩,
        ⟨some 55, none, .d (.ia 1 (.t 49) (.t 54))⟩,
        ⟨some 56, none, .d (.load false 1 (.t 55))⟩,
        ⟨some 57, none, .d (.bin .arith .sub (.t 56) (.c (.int .i64 1)))⟩,
        ⟨some 58, none, .d (.ia 1 (.t 49) (.t 54))⟩,
        ⟨none, none, .w (.store 1 (.t 58) (.t 57))⟩])
      (.reg [⟨some 59, none, .d (.mv (.t 5))⟩,
        ⟨some 60, none, .d (.mv (.t 7))⟩,
        ⟨some 61, none, .d (.bin .arith .shl (.c (.int .i64 1)) (.t 60))⟩,
        ⟨some 62, none, .d (.bin .arith .or (.t 59) (.t 61))⟩,
        ⟨some 5, none, .d (.mv (.t 62))⟩])) (.skip))))
    (.reg [⟨some 30, none, .d (.mv (.t 7))⟩,
      ⟨some 31, none, .d (.bin .arith .add (.t 30) (.c (.int .i64 1)))⟩,
      ⟨some 7, none, .d (.mv (.t 31))⟩]))))))
  (.seq (.reg [⟨some 63, none, .d (.mv (.t 5))⟩,
    ⟨some 2, none, .d (.mv (.t 63))⟩,
    ⟨some 3, none, .d (.mv (.c (.bool true)))⟩])
  (.ret)))))), [.tmp 2, .tmp 3]⟩
def n_s_BestQuestion : Nat → Option Ann := fun d => if d = 24 then some ⟨[], 1, false⟩ else none
abbrev k_s_BestQuestion : List Nat := [0, 1, 2, 3, 4, 5, 6, 7, 17, 29, 48]
abbrev o_s_BestQuestion : List Nat := [1, 24]
def c_BestQuestion : Con
  | [.ag [.ar 1000000, .p (.int .i64 m)]], [.arr 1 x_] => if isI x_ = true ∧ (ofI x_).length ≤ 1100000 then some (.tp [.p (.int .i64 (if bqOk (ofI x_) m = true then bqQ (ofI x_) m else 0)), .p (.bool (bqOk (ofI x_) m))], [.arr 1 x_], []) else none
  | _, _ => none
def c_s_BestQuestion : Con := pure' fun
  | [.p (.agg [.sl 1 x_, .int .i64 m])] => if isI x_ = true ∧ ((ofI x_).length ≤ 1100000) then some (.tp [.p (.int .i64 (if bqOk (ofI x_) m = true then bqQ (ofI x_) m else 0)), .p (.bool (bqOk (ofI x_) m))], []) else none
  | _ => none
theorem s_BestQuestion {P : Program} (hm : P.follows .mixedOrders = true) {Γ : Gam} (hΓ : GS P Γ) {n : FuncId} {f_IsState : FuncId} {f_opened : FuncId} {f_in : FuncId} {f_neederOf : FuncId} {f_bothWays : FuncId} {f_countsS : FuncId} {f_nBestW : FuncId} (is : Is P n (a_BestQuestion f_IsState f_opened f_in f_neederOf f_bothWays f_countsS f_nBestW)) (h_IsState : Γ f_IsState = c_IsState) (h_opened : Γ f_opened = c_l2Open) (h_in : Γ f_in = c_in) (h_countsS : Γ f_countsS = c_countsS) {Γ1 Γ2 : Gam} (h_neederOf : Γ f_neederOf = c_neederOf Γ1) (h_bothWays : Γ1 f_bothWays = c_bothWays) (h_nBestE : Γ f_nBestW = emC (c_nBestW Γ2)) (h_bothWays2 : Γ2 f_bothWays = c_bothWays) : Says P n c_BestQuestion := by
  intro args ext r ext' fs h
  unfold c_BestQuestion at h
  split at h
  case h_2 => cases h
  rename_i m x_
  split at h
  case isFalse => cases h
  rename_i hc
  obtain ⟨hx_, hc⟩ := hc
  obtain ⟨l, rfl⟩ := isI_out hx_
  simp only [ofI_ints, Option.some.injEq, Prod.mk.injEq] at h hc
  obtain ⟨rfl, rfl, rfl⟩ := h
  refine is.goK hm hΓ k_BestQuestion [1, 4, 1000000] 3 4 (by simp [a_BestQuestion]) (by simp) (by simp [Ob.scal, ints, PV.scal]) (fun o ho => by simp only [List.mem_singleton] at ho; exact ⟨_, _, ho⟩) (fun w S β v x hv hs => by
    simp only [List.mem_singleton] at hv
    subst hv
    exact hs.lent rfl) ?_
  cases h1 : bqOk l m with
  | false =>
    cases h2 : isSt l m with
    | false =>
      simp only [a_BestQuestion, awK3, h_in, c_in, h_IsState, c_IsState, hc, h2, isI_ints, ofI_ints, ints_len, List.zipIdx_cons, List.zipIdx_nil, Bool.false_eq_true, ↓SP, SQ, Gam.add, stepM, callC, argC, lendO, nmBy, nmC, likeL, likeB, plainOb, offs, exL, X, F, trP, trO, stepD, stepW, newA, SV.tr, SV.trL, fz, allP, Ob.tr, loadA, cellsA, SV.cells, binA, binI, eqOut, isSl, isPt, natOf, callee, snap, SV.refsL, SV.refs, thaw, fzAll, loA, hiA, elemOf, partsA, buildA, putCells, ↓reduceIte, reduceCtorEq, okCell, Nat.reduceAdd, Nat.reduceEqDiff, Nat.reduceSub, Nat.reduceMul, Nat.reduceLeDiff, Nat.reduceLT, Nat.reduceBEq, PV.scal, PV.scalL, SV.scal, SV.scalL, Ob.scal, PV.isCell, pure', resO]
      refine finA_gen [] trivial (by simp [retA, rvA, mkE_cons, mk_nil, mkO_cons, mkO_nil, loadA, SV.tr, SV.trL, nmF, rn_nil, rn_cons1, rn_cons2, plainOb, SV.refsL, SV.refs, Ob.refs, X, F, List.range_succ, mkO, setO_mk]; rfl) ?_ ?_ ?_ ?_ ?_ ?_ ?_ <;> simp [h1, retA, rvA, mkE_cons, mk_nil, mkO_cons, mkO_nil, loadA, SV.tr, SV.trL, nmF, rn_nil, rn_cons1, rn_cons2, plainOb, SV.refsL, SV.refs, Ob.refs, X, F, List.range_succ, mkO, setO_mk]
    | true =>
      have h3 : (decide ((2 : Int) ≤ (opens l).length) && decide (((opens l).length : Int) ≤ 8)) = false := by simpa [bqOk, h2] using h1
      simp only [a_BestQuestion, awK3, h_in, c_in, h_IsState, c_IsState, h_opened, c_l2Open, hc, h2, h3, isI_ints, ofI_ints, ints_len, List.zipIdx_cons, List.zipIdx_nil, Bool.false_eq_true, ↓SP, SQ, Gam.add, stepM, callC, argC, lendO, nmBy, nmC, likeL, likeB, plainOb, offs, exL, X, F, trP, trO, stepD, stepW, newA, SV.tr, SV.trL, fz, allP, Ob.tr, loadA, cellsA, SV.cells, binA, binI, eqOut, isSl, isPt, natOf, callee, snap, SV.refsL, SV.refs, thaw, fzAll, loA, hiA, elemOf, partsA, buildA, putCells, ↓reduceIte, reduceCtorEq, okCell, Nat.reduceAdd, Nat.reduceEqDiff, Nat.reduceSub, Nat.reduceMul, Nat.reduceLeDiff, Nat.reduceLT, Nat.reduceBEq, PV.scal, PV.scalL, SV.scal, SV.scalL, Ob.scal, PV.isCell, pure', resO]
      refine finA_gen [] trivial (by simp [retA, rvA, mkE_cons, mk_nil, mkO_cons, mkO_nil, loadA, SV.tr, SV.trL, nmF, rn_nil, rn_cons1, rn_cons2, plainOb, SV.refsL, SV.refs, Ob.refs, X, F, List.range_succ, mkO, setO_mk]; rfl) ?_ ?_ ?_ ?_ ?_ ?_ ?_ <;> simp [h1, retA, rvA, mkE_cons, mk_nil, mkO_cons, mkO_nil, loadA, SV.tr, SV.trL, nmF, rn_nil, rn_cons1, rn_cons2, plainOb, SV.refsL, SV.refs, Ob.refs, X, F, List.range_succ, mkO, setO_mk]
  | true =>
    have hQ := BQ.of h1
    have h2 := hQ.st
    have h3 : (decide ((2 : Int) ≤ (opens l).length) && decide (((opens l).length : Int) ≤ 8)) = true := by simp only [bqOk, Bool.and_eq_true] at h1 ⊢; exact h1.2
    have hne := neederOf_both h_bothWays
    have hE := okE_nES true
    have hr : isRule Γ2 f_bothWays true := by simpa [isRule] using h_bothWays2
    have hbl := beL_nES hr hQ.ok hQ.un
    have hba := be_any hr hQ.ok hQ.un
    have hok := hQ.ok
    have htk := whs_app_take (A := noA) (beS true (cntL m l)) (List.replicate ((splL (cntL m l)).length - (beS true (cntL m l)).length) .nilsl)
    have hln := (HB.of hQ.ok hQ.un).len
    have hg := whs_get (A := noA) hln
    have hgd : (beS true (cntL m l)).getD 0 [] = hdB (cntL m l) := rfl
    rw [hgd] at hg
    have hle : (beS true (cntL m l)).length ≤ (whs noA (beS true (cntL m l)) ++ List.replicate ((splL (cntL m l)).length - (beS true (cntL m l)).length) PV.nilsl).length := by simp [whs_len]
    have hg0 : (whs noA (beS true (cntL m l)) ++ List.replicate ((splL (cntL m l)).length - (beS true (cntL m l)).length) PV.nilsl)[0]? = some (.wh noA (ints (hdB (cntL m l)))) := by
      rw [List.getElem?_append_left (by rw [whs_len]; exact hln)]; exact hg
    simp only [a_BestQuestion, awK3, h_in, c_in, h_IsState, c_IsState, h_opened, c_l2Open, h_countsS, c_countsS, hc, h2, h3, h_neederOf, hne, h_nBestE, emC, SV.em, c_nBestW, ints_allInt, h_bothWays2, true_or, hE, hok, hbl, hba, htk, hln, hg, hle, hg0, whs_len, cells_wh, cells_li, isI_ints, ofI_ints, ints_len, List.zipIdx_cons, List.zipIdx_nil, List.map_cons, List.map_nil, Nat.sub_zero, Bool.not_false, Bool.not_true, Bool.false_eq_true, Int.le_refl, Int.reduceToNat, ↓SP, SQ, Gam.add, stepM, callC, argC, lendO, nmBy, nmC, likeL, likeB, plainOb, offs, exL, X, F, trP, trO, stepD, stepW, newA, SV.tr, SV.trL, fz, allP, Ob.tr, loadA, cellsA, SV.cells, binA, binI, eqOut, isSl, isPt, natOf, callee, snap, SV.refsL, SV.refs, thaw, fzAll, loA, hiA, elemOf, partsA, buildA, putCells, ↓reduceIte, reduceCtorEq, okCell, Nat.reduceAdd, Nat.reduceEqDiff, Nat.reduceSub, Nat.reduceMul, Nat.reduceLeDiff, Nat.reduceLT, Nat.reduceBEq, PV.scal, PV.scalL, SV.scal, SV.scalL, Ob.scal, PV.isCell, pure', resO]
    refine ⟨mkEnv [(0, .junk), (1, .bx 1 0), (2, .junk), (3, .junk), (4, .ar 4), (5, .junk), (6, .junk), (7, .junk), (17, .junk), (25, .junk), (26, .junk), (27, .junk), (28, .junk), (40, .junk)], mkO [(1, some (.box [.ar 1000000, si m])), (4, some (.arr 1 (ints (hdB (cntL m l))))), (1000000, some (.arr 1 (ints l)))], thaw_mk (xs := ints (hdB (cntL m l))) (by decide) rfl rfl rfl rfl ?_ ?_, ?_⟩
    · exact .cons (.junk _) (.cons (.bx 1 0 (by decide)) (.cons (.junk _) (.cons (.junk _) (.own _ _ (.cons (.junk _) (.cons (.junk _) (.cons (.junk _) (.cons (.junk _) (.cons (.junk _) (.cons (.junk _) (.cons (.junk _) (.cons (.junk _) (.cons (.junk _) .nil)))))))))))))
    · exact .box2 _ _ _ _ (.ar _ (by decide) rfl) (.scal _ rfl) (.own _ _ (.arr 1 (ints l) (by simp [ints, PV.scal]) .nil))
    obtain ⟨⟨hl1, hl2⟩, ⟨hm0, hm2⟩, hx⟩ := st_out hQ.st
    have hhl := hQ.hl
    have hbd := hQ.bd
    generalize hsp : hdB (cntL m l) = sp at hhl hbd
    have hq0 : bqQ l m = (bqN l sp l.length).2 := by simp only [bqQ, hsp]
    rw [hq0]
    simp only [ints_len, ↓SP, SQ, Gam.add, stepM, callC, argC, lendO, nmBy, nmC, likeL, likeB, plainOb, offs, exL, X, F, trP, trO, stepD, stepW, newA, SV.tr, SV.trL, fz, allP, Ob.tr, loadA, cellsA, SV.cells, binA, binI, eqOut, isSl, isPt, natOf, callee, snap, SV.refsL, SV.refs, thaw, fzAll, loA, hiA, elemOf, partsA, buildA, putCells, ↓reduceIte, reduceCtorEq, okCell, Nat.reduceAdd, Nat.reduceEqDiff, Nat.reduceSub, Nat.reduceMul, Nat.reduceLeDiff, Nat.reduceLT, Nat.reduceBEq, PV.scal, PV.scalL, SV.scal, SV.scalL, Ob.scal, PV.isCell, pure', resO]
    refine loop_at (fun s : J => mkEnv [(0, .junk), (1, .bx 1 0), (2, .junk), (3, .junk), (4, .ar 4), (5, si (bqN l sp s.i).2), (6, s.a), (7, s.b), (17, .junk), (25, .ar 1000000), (26, si l.length), (27, si s.i), (28, s.c), (40, s.d)]) (fun s => mkO [(1, some (.box [.ar 1000000, si m])), (4, some (.arr 1 (ints (bqN l sp s.i).1))), (1000000, some (.arr 1 (ints l)))]) (fun s => s.i ≤ l.length) (fun s => l.length - s.i) ⟨0, .junk, .junk, .junk, .junk, .junk, .junk, .junk, .junk, .junk, .junk, .junk, .junk, none, none, none⟩ (by simp) rfl rfl ?_
    rintro ⟨i, c1, c2, c3, c4, c5, c6, c7, c8, c9, c10, c11, c12, o1, o2, o3⟩ hi R hR hN
    simp only at hi
    by_cases h : i < l.length
    · have h1 : (i : Int) < l.length := by omega
      have hw := wrap_one (i := i) (by omega)
      have hg := ints_get h
      have hxi := hx i h
      have hi0 : ¬ (i : Int) < 0 := by omega
      have hsh := shlM (k := i) (by omega)
      by_cases h0 : 0 ≤ l.getD i 0
      · have h0' : l.getD i 0 ≥ 0 := h0
        have hcl := bqN_len l sp i
        have hlt : (l.getD i 0).toNat < (bqN l sp i).1.length := by rw [hcl, hhl]; omega
        have hge := ints_get (l := (bqN l sp i).1) (i := (l.getD i 0).toNat) hlt
        have hb := bqN_bd l sp hbd i (l.getD i 0).toNat
        by_cases hp : 0 < (bqN l sp i).1.getD (l.getD i 0).toNat 0
        · have hp' : (bqN l sp i).1.getD (l.getD i 0).toNat 0 > 0 := hp
          have hw1 : IntKind.i64.wrap ((bqN l sp i).1.getD (l.getD i 0).toNat 0 - 1) = (bqN l sp i).1.getD (l.getD i 0).toNat 0 - 1 := wrap64 (by omega) (by omega)
          have hy := bqN_yes h0 hp
          simp only [h, h1, hw, hg, h0, h0', hlt, hge, hp, hp', hw1, hi0, hsh, bitA_or, ints_len, ints_set, shfI, ↓SP, SQ, Gam.add, stepM, callC, argC, lendO, nmBy, nmC, likeL, likeB, plainOb, offs, exL, X, F, trP, trO, stepD, stepW, newA, SV.tr, SV.trL, fz, allP, Ob.tr, loadA, cellsA, SV.cells, binA, binI, eqOut, isSl, isPt, natOf, callee, snap, SV.refsL, SV.refs, thaw, fzAll, loA, hiA, elemOf, partsA, buildA, putCells, ↓reduceIte, reduceCtorEq, okCell, Nat.reduceAdd, Nat.reduceEqDiff, Nat.reduceSub, Nat.reduceMul, Nat.reduceLeDiff, Nat.reduceLT, Nat.reduceBEq, PV.scal, PV.scalL, SV.scal, SV.scalL, Ob.scal, PV.isCell, pure', resO]
          exact hN ⟨i + 1, _, _, _, _, .junk, .junk, .junk, .junk, .junk, .junk, .junk, .junk, none, none, none⟩ _ _ (by simp only; omega) (by simp only; omega) (by rw [hy]) (by rw [hy])
        · have hp' : ¬ (bqN l sp i).1.getD (l.getD i 0).toNat 0 > 0 := hp
          have hy : bqN l sp (i + 1) = bqN l sp i := bqN_no fun g => hp g.2
          simp only [h, h1, hw, hg, h0, h0', hlt, hge, hp, hp', ints_len, ↓SP, SQ, Gam.add, stepM, callC, argC, lendO, nmBy, nmC, likeL, likeB, plainOb, offs, exL, X, F, trP, trO, stepD, stepW, newA, SV.tr, SV.trL, fz, allP, Ob.tr, loadA, cellsA, SV.cells, binA, binI, eqOut, isSl, isPt, natOf, callee, snap, SV.refsL, SV.refs, thaw, fzAll, loA, hiA, elemOf, partsA, buildA, putCells, ↓reduceIte, reduceCtorEq, okCell, Nat.reduceAdd, Nat.reduceEqDiff, Nat.reduceSub, Nat.reduceMul, Nat.reduceLeDiff, Nat.reduceLT, Nat.reduceBEq, PV.scal, PV.scalL, SV.scal, SV.scalL, Ob.scal, PV.isCell, pure', resO]
          exact hN ⟨i + 1, _, _, _, _, .junk, .junk, .junk, .junk, .junk, .junk, .junk, .junk, none, none, none⟩ _ _ (by simp only; omega) (by simp only; omega) (by rw [hy]) (by rw [hy])
      · have h0' : ¬ l.getD i 0 ≥ 0 := h0
        have hy : bqN l sp (i + 1) = bqN l sp i := bqN_no fun g => h0 g.1
        simp only [h, h1, hw, hg, h0, h0', ↓SP, SQ, Gam.add, stepM, callC, argC, lendO, nmBy, nmC, likeL, likeB, plainOb, offs, exL, X, F, trP, trO, stepD, stepW, newA, SV.tr, SV.trL, fz, allP, Ob.tr, loadA, cellsA, SV.cells, binA, binI, eqOut, isSl, isPt, natOf, callee, snap, SV.refsL, SV.refs, thaw, fzAll, loA, hiA, elemOf, partsA, buildA, putCells, ↓reduceIte, reduceCtorEq, okCell, Nat.reduceAdd, Nat.reduceEqDiff, Nat.reduceSub, Nat.reduceMul, Nat.reduceLeDiff, Nat.reduceLT, Nat.reduceBEq, PV.scal, PV.scalL, SV.scal, SV.scalL, Ob.scal, PV.isCell, pure', resO]
        exact hN ⟨i + 1, _, _, _, _, .junk, .junk, .junk, .junk, .junk, .junk, .junk, .junk, none, none, none⟩ _ _ (by simp only; omega) (by simp only; omega) (by rw [hy]) (by rw [hy])
    · have he : i = l.length := by omega
      have h1 : ¬ (i : Int) < l.length := by omega
      subst he
      simp only [h1, ↓SP, SQ, Gam.add, stepM, callC, argC, lendO, nmBy, nmC, likeL, likeB, plainOb, offs, exL, X, F, trP, trO, stepD, stepW, newA, SV.tr, SV.trL, fz, allP, Ob.tr, loadA, cellsA, SV.cells, binA, binI, eqOut, isSl, isPt, natOf, callee, snap, SV.refsL, SV.refs, thaw, fzAll, loA, hiA, elemOf, partsA, buildA, putCells, ↓reduceIte, reduceCtorEq, okCell, Nat.reduceAdd, Nat.reduceEqDiff, Nat.reduceSub, Nat.reduceMul, Nat.reduceLeDiff, Nat.reduceLT, Nat.reduceBEq, PV.scal, PV.scalL, SV.scal, SV.scalL, Ob.scal, PV.isCell, pure', resO]
      refine hR _ _ _ (by intro h; cases h) ?_
      simp only [↓SP, SQ, Gam.add, stepM, callC, argC, lendO, nmBy, nmC, likeL, likeB, plainOb, offs, exL, X, F, trP, trO, stepD, stepW, newA, SV.tr, SV.trL, fz, allP, Ob.tr, loadA, cellsA, SV.cells, binA, binI, eqOut, isSl, isPt, natOf, callee, snap, SV.refsL, SV.refs, thaw, fzAll, loA, hiA, elemOf, partsA, buildA, putCells, ↓reduceIte, reduceCtorEq, okCell, Nat.reduceAdd, Nat.reduceEqDiff, Nat.reduceSub, Nat.reduceMul, Nat.reduceLeDiff, Nat.reduceLT, Nat.reduceBEq, PV.scal, PV.scalL, SV.scal, SV.scalL, Ob.scal, PV.isCell, pure', resO]
      refine finA_gen [] trivial (by simp [retA, rvA, mkE_cons, mk_nil, mkO_cons, mkO_nil, loadA, SV.tr, SV.trL, nmF, rn_nil, rn_cons1, rn_cons2, plainOb, SV.refsL, SV.refs, Ob.refs, X, F, List.range_succ, mkO, setO_mk]; rfl) ?_ ?_ ?_ ?_ ?_ ?_ ?_ <;> simp [retA, rvA, mkE_cons, mk_nil, mkO_cons, mkO_nil, loadA, SV.tr, SV.trL, nmF, rn_nil, rn_cons1, rn_cons2, plainOb, SV.refsL, SV.refs, Ob.refs, X, F, List.range_succ, mkO, setO_mk]
theorem s_s_BestQuestion {P : Program} (hm : P.follows .mixedOrders = true) {Γ : Gam} (hΓ : GS P Γ) {n : FuncId} {f_l2State : FuncId} {f_l2Open : FuncId} {f_l1In : FuncId} {f_l2Counts : FuncId} {f_l4Best : FuncId} {f_l1Own : FuncId} (is : Is P n (a_s_BestQuestion f_l2State f_l2Open f_l1In f_l2Counts f_l4Best f_l1Own)) (h_l2State : Γ f_l2State = c_IsState) (h_l2Open : Γ f_l2Open = c_l2Open) (h_l1In : Γ f_l1In = c_in) (h_l2Counts : Γ f_l2Counts = c_countsS) (h_l4Best : Γ f_l4Best = c_l4Best) (h_l1Own : Γ f_l1Own = c_Clone)  : Says P n c_s_BestQuestion := by
  refine Says.pure fun args r fs h => ?_
  split at h
  case h_2 => cases h
  rename_i x_ m
  split at h
  case isFalse => cases h
  rename_i hc
  obtain ⟨hx_, hc⟩ := hc
  obtain ⟨x, rfl⟩ := isI_out hx_
  simp only [ofI_ints, ofBo_bools, ofAs_asks, Option.some.injEq, Prod.mk.injEq] at h hc
  obtain ⟨rfl, rfl⟩ := h
  cases h1 : bqOk x m with
  | false =>
    cases h2 : isSt x m with
    | false =>
      refine is.go hm hΓ k_s_BestQuestion o_s_BestQuestion (by simp [a_s_BestQuestion]) ?_
      simp only [a_s_BestQuestion, h_l2State, c_IsState, h_l2Open, c_l2Open, h_l1In, c_in, h_l2Counts, c_countsS, h_l4Best, c_l4Best, h_l1Own, c_Clone, hc, h2, Bool.false_eq_true, List.zipIdx_cons, List.zipIdx_nil, ↓SP, SQ, Gam.add, stepM, callC, argC, lendO, nmBy, nmC, likeL, likeB, plainOb, offs, exL, X, F, trP, trO, stepD, stepW, newA, SV.tr, SV.trL, fz, allP, Ob.tr, loadA, cellsA, SV.cells, binA, binI, eqOut, isSl, isPt, natOf, callee, snap, SV.refsL, SV.refs, thaw, fzAll, loA, hiA, elemOf, partsA, buildA, putCells, ↓reduceIte, reduceCtorEq, okCell, Nat.reduceAdd, Nat.reduceEqDiff, Nat.reduceSub, Nat.reduceMul, Nat.reduceLeDiff, Nat.reduceLT, Nat.reduceBEq, PV.scal, PV.scalL, SV.scal, SV.scalL, Ob.scal, PV.isCell, pure', resO]
      exact finA_val (by simp [h1, retA, rvA, mkE_cons, mk_nil, mkO_cons, mkO_nil, loadA, SV.tr, SV.trL, nmF, rn_nil, rn_cons1, rn_cons2, plainOb, SV.refsL, SV.refs, Ob.refs, X, F, List.range_succ, mkO, setO_mk]) (by simp [SV.tr, SV.trL])
    | true =>
      have h3 : (decide ((2 : Int) ≤ (opens x).length) && decide (((opens x).length : Int) ≤ 8)) = false := by simpa [bqOk, h2] using h1
      refine is.go hm hΓ k_s_BestQuestion o_s_BestQuestion (by simp [a_s_BestQuestion]) ?_
      simp only [a_s_BestQuestion, h_l2State, c_IsState, h_l2Open, c_l2Open, h_l1In, c_in, h_l2Counts, c_countsS, h_l4Best, c_l4Best, h_l1Own, c_Clone, hc, h2, h3, Bool.false_eq_true, List.zipIdx_cons, List.zipIdx_nil, ↓SP, SQ, Gam.add, stepM, callC, argC, lendO, nmBy, nmC, likeL, likeB, plainOb, offs, exL, X, F, trP, trO, stepD, stepW, newA, SV.tr, SV.trL, fz, allP, Ob.tr, loadA, cellsA, SV.cells, binA, binI, eqOut, isSl, isPt, natOf, callee, snap, SV.refsL, SV.refs, thaw, fzAll, loA, hiA, elemOf, partsA, buildA, putCells, ↓reduceIte, reduceCtorEq, okCell, Nat.reduceAdd, Nat.reduceEqDiff, Nat.reduceSub, Nat.reduceMul, Nat.reduceLeDiff, Nat.reduceLT, Nat.reduceBEq, PV.scal, PV.scalL, SV.scal, SV.scalL, Ob.scal, PV.isCell, pure', resO]
      exact finA_val (by simp [h1, retA, rvA, mkE_cons, mk_nil, mkO_cons, mkO_nil, loadA, SV.tr, SV.trL, nmF, rn_nil, rn_cons1, rn_cons2, plainOb, SV.refsL, SV.refs, Ob.refs, X, F, List.range_succ, mkO, setO_mk]) (by simp [SV.tr, SV.trL])
  | true =>
    have hQ := BQ.of h1
    have h2 := hQ.st
    have h3 : (decide ((2 : Int) ≤ (opens x).length) && decide (((opens x).length : Int) ≤ 8)) = true := by simp only [bqOk, Bool.and_eq_true] at h1 ⊢; exact h1.2
    have hok := hQ.ok
    have hun := hQ.un
    have hln := (HB.of hQ.ok hQ.un).len
    have hg := sls_get hln
    have hgd : (beS true (cntL m x)).getD 0 [] = hdB (cntL m x) := rfl
    rw [hgd] at hg
    obtain ⟨⟨hl1, hl2⟩, ⟨hm0, hm2⟩, hx⟩ := st_out hQ.st
    have hhl := hQ.hl
    have hll : (hdB (cntL m x)).length ≤ 1100000 := by omega
    have hbd := hQ.bd
    have hq0 : bqQ x m = (bqN x (hdB (cntL m x)) x.length).2 := rfl
    refine is.go hm hΓ k_s_BestQuestion o_s_BestQuestion (by simp [a_s_BestQuestion]) ?_
    simp only [a_s_BestQuestion, h_l2State, c_IsState, h_l2Open, c_l2Open, h_l1In, c_in, h_l2Counts, c_countsS, h_l4Best, c_l4Best, h_l1Own, c_Clone, hc, h2, h3, hok, hun, hln, hg, hll, sls_len, Bool.not_false, Bool.not_true, Bool.false_eq_true, Int.le_refl, Int.reduceToNat, List.zipIdx_cons, List.zipIdx_nil, ↓SP, SQ, Gam.add, stepM, callC, argC, lendO, nmBy, nmC, likeL, likeB, plainOb, offs, exL, X, F, trP, trO, stepD, stepW, newA, SV.tr, SV.trL, fz, allP, Ob.tr, loadA, cellsA, SV.cells, binA, binI, eqOut, isSl, isPt, natOf, callee, snap, SV.refsL, SV.refs, thaw, fzAll, loA, hiA, elemOf, partsA, buildA, putCells, ↓reduceIte, reduceCtorEq, okCell, Nat.reduceAdd, Nat.reduceEqDiff, Nat.reduceSub, Nat.reduceMul, Nat.reduceLeDiff, Nat.reduceLT, Nat.reduceBEq, PV.scal, PV.scalL, SV.scal, SV.scalL, Ob.scal, PV.isCell, pure', resO]
    rw [hq0]
    generalize hdB (cntL m x) = sp at *
    refine loop_at (fun s : J => mkEnv [(0, .p (.agg [.sl 1 (ints x), .int .i64 m])), (1, .bx 1 0), (2, si 0), (3, sb false), (4, .p (.sl 1 (ints sp))), (5, si (bqN x sp s.i).2), (6, .ar 24), (7, si s.i), (17, sb false), (29, s.a), (48, s.b)]) (fun s => mkO [(1, some (.box [.p (.sl 1 (ints x)), si m])), (24, some (.arr 1 (ints (bqN x sp s.i).1)))]) (fun s => s.i ≤ x.length) (fun s => x.length - s.i) ⟨0, .junk, .junk, .junk, .junk, .junk, .junk, .junk, .junk, .junk, .junk, .junk, .junk, none, none, none⟩ (by simp) rfl rfl ?_
    rintro ⟨i, c1, c2, c3, c4, c5, c6, c7, c8, c9, c10, c11, c12, o1, o2, o3⟩ hi R hR hN
    simp only at hi
    by_cases h : i < x.length
    · have h1 : (i : Int) < x.length := by omega
      have hw := wrap_one (i := i) (by omega)
      have hg := ints_get h
      have hxi := hx i h
      have hi0 : ¬ (i : Int) < 0 := by omega
      have hsh := shlM (k := i) (by omega)
      by_cases h0 : 0 ≤ x.getD i 0
      · have h0' : x.getD i 0 ≥ 0 := h0
        have hcl := bqN_len x sp i
        have hlt : (x.getD i 0).toNat < (bqN x sp i).1.length := by rw [hcl, hhl]; omega
        have hge := ints_get (l := (bqN x sp i).1) (i := (x.getD i 0).toNat) hlt
        have hb := bqN_bd x sp hbd i (x.getD i 0).toNat
        by_cases hp : 0 < (bqN x sp i).1.getD (x.getD i 0).toNat 0
        · have hp' : (bqN x sp i).1.getD (x.getD i 0).toNat 0 > 0 := hp
          have hw1 : IntKind.i64.wrap ((bqN x sp i).1.getD (x.getD i 0).toNat 0 - 1) = (bqN x sp i).1.getD (x.getD i 0).toNat 0 - 1 := wrap64 (by omega) (by omega)
          have hy := bqN_yes h0 hp
          simp only [h1, hw, hg, h0, h0', hlt, hge, hp, hp', hw1, hi0, hsh, bitA_or, ints_len, ints_set, shfI, ↓SP, SQ, Gam.add, stepM, callC, argC, lendO, nmBy, nmC, likeL, likeB, plainOb, offs, exL, X, F, trP, trO, stepD, stepW, newA, SV.tr, SV.trL, fz, allP, Ob.tr, loadA, cellsA, SV.cells, binA, binI, eqOut, isSl, isPt, natOf, callee, snap, SV.refsL, SV.refs, thaw, fzAll, loA, hiA, elemOf, partsA, buildA, putCells, ↓reduceIte, reduceCtorEq, okCell, Nat.reduceAdd, Nat.reduceEqDiff, Nat.reduceSub, Nat.reduceMul, Nat.reduceLeDiff, Nat.reduceLT, Nat.reduceBEq, PV.scal, PV.scalL, SV.scal, SV.scalL, Ob.scal, PV.isCell, pure', resO]
          exact hN ⟨i + 1, _, _, .junk, .junk, .junk, .junk, .junk, .junk, .junk, .junk, .junk, .junk, none, none, none⟩ _ _ (by simp only; omega) (by simp only; omega) (by rw [hy]) (by rw [hy])
        · have hp' : ¬ (bqN x sp i).1.getD (x.getD i 0).toNat 0 > 0 := hp
          have hy : bqN x sp (i + 1) = bqN x sp i := bqN_no fun g => hp g.2
          simp only [h1, hw, hg, h0, h0', hlt, hge, hp, hp', ints_len, ↓SP, SQ, Gam.add, stepM, callC, argC, lendO, nmBy, nmC, likeL, likeB, plainOb, offs, exL, X, F, trP, trO, stepD, stepW, newA, SV.tr, SV.trL, fz, allP, Ob.tr, loadA, cellsA, SV.cells, binA, binI, eqOut, isSl, isPt, natOf, callee, snap, SV.refsL, SV.refs, thaw, fzAll, loA, hiA, elemOf, partsA, buildA, putCells, ↓reduceIte, reduceCtorEq, okCell, Nat.reduceAdd, Nat.reduceEqDiff, Nat.reduceSub, Nat.reduceMul, Nat.reduceLeDiff, Nat.reduceLT, Nat.reduceBEq, PV.scal, PV.scalL, SV.scal, SV.scalL, Ob.scal, PV.isCell, pure', resO]
          exact hN ⟨i + 1, _, _, .junk, .junk, .junk, .junk, .junk, .junk, .junk, .junk, .junk, .junk, none, none, none⟩ _ _ (by simp only; omega) (by simp only; omega) (by rw [hy]) (by rw [hy])
      · have h0' : ¬ x.getD i 0 ≥ 0 := h0
        have hy : bqN x sp (i + 1) = bqN x sp i := bqN_no fun g => h0 g.1
        simp only [h1, hw, hg, h0, h0', ↓SP, SQ, Gam.add, stepM, callC, argC, lendO, nmBy, nmC, likeL, likeB, plainOb, offs, exL, X, F, trP, trO, stepD, stepW, newA, SV.tr, SV.trL, fz, allP, Ob.tr, loadA, cellsA, SV.cells, binA, binI, eqOut, isSl, isPt, natOf, callee, snap, SV.refsL, SV.refs, thaw, fzAll, loA, hiA, elemOf, partsA, buildA, putCells, ↓reduceIte, reduceCtorEq, okCell, Nat.reduceAdd, Nat.reduceEqDiff, Nat.reduceSub, Nat.reduceMul, Nat.reduceLeDiff, Nat.reduceLT, Nat.reduceBEq, PV.scal, PV.scalL, SV.scal, SV.scalL, Ob.scal, PV.isCell, pure', resO]
        exact hN ⟨i + 1, _, _, .junk, .junk, .junk, .junk, .junk, .junk, .junk, .junk, .junk, .junk, none, none, none⟩ _ _ (by simp only; omega) (by simp only; omega) (by rw [hy]) (by rw [hy])
    · have he : i = x.length := by omega
      have h1 : ¬ (i : Int) < x.length := by omega
      subst he
      simp only [h1, ↓SP, SQ, Gam.add, stepM, callC, argC, lendO, nmBy, nmC, likeL, likeB, plainOb, offs, exL, X, F, trP, trO, stepD, stepW, newA, SV.tr, SV.trL, fz, allP, Ob.tr, loadA, cellsA, SV.cells, binA, binI, eqOut, isSl, isPt, natOf, callee, snap, SV.refsL, SV.refs, thaw, fzAll, loA, hiA, elemOf, partsA, buildA, putCells, ↓reduceIte, reduceCtorEq, okCell, Nat.reduceAdd, Nat.reduceEqDiff, Nat.reduceSub, Nat.reduceMul, Nat.reduceLeDiff, Nat.reduceLT, Nat.reduceBEq, PV.scal, PV.scalL, SV.scal, SV.scalL, Ob.scal, PV.isCell, pure', resO]
      refine hR _ _ _ (by intro h; cases h) ?_
      simp only [↓SP, SQ, Gam.add, stepM, callC, argC, lendO, nmBy, nmC, likeL, likeB, plainOb, offs, exL, X, F, trP, trO, stepD, stepW, newA, SV.tr, SV.trL, fz, allP, Ob.tr, loadA, cellsA, SV.cells, binA, binI, eqOut, isSl, isPt, natOf, callee, snap, SV.refsL, SV.refs, thaw, fzAll, loA, hiA, elemOf, partsA, buildA, putCells, ↓reduceIte, reduceCtorEq, okCell, Nat.reduceAdd, Nat.reduceEqDiff, Nat.reduceSub, Nat.reduceMul, Nat.reduceLeDiff, Nat.reduceLT, Nat.reduceBEq, PV.scal, PV.scalL, SV.scal, SV.scalL, Ob.scal, PV.isCell, pure', resO]
      exact finA_val (by simp [retA, rvA, mkE_cons, mk_nil, mkO_cons, mkO_nil, loadA, SV.tr, SV.trL, nmF, rn_nil, rn_cons1, rn_cons2, plainOb, SV.refsL, SV.refs, Ob.refs, X, F, List.range_succ, mkO, setO_mk]) (by simp [SV.tr, SV.trL])
end Go.Proofs.Ytihpfhdkjlphhaa.Pam
