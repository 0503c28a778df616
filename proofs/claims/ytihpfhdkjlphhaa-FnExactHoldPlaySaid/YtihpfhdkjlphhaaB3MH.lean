/- A part of the proof that stands in this folder: a small machine whose steps are shown to be the steps of the model, or walks of functions by it. No condition of its own. -/
import Derived.Test.YtihpfhdkjlphhaaB3ME
set_option linter.unusedVariables false
set_option linter.unusedSimpArgs false
namespace Go.Proofs.Ytihpfhdkjlphhaa.Pam
open Go
def rowK (b : List Int) (k : Nat) : List (List Int) := (List.range k).map fun j : Nat => b ++ [(j : Int)]
theorem rowK_one (b : List Int) (k : Nat) : rowK b k ++ [b ++ [(k : Int)]] = rowK b (k + 1) := by simp [rowK, List.range_succ]
theorem rowK_len (b : List Int) (k : Nat) : (rowK b k).length = k := by simp [rowK]
/-- The splits of the first i counts. -/
def spI (c : List Int) : Nat → List (List Int)
  | 0 => [[]]
  | i + 1 => (spI c i).flatMap fun b => rowK b ((c.getD i 0).toNat + 1)
def splL (c : List Int) : List (List Int) := spI c c.length
/-- On the way from the splits of i counts to those of one more. -/
def nxI (c : List Int) (i j k : Nat) : List (List Int) := (((spI c i).take j).flatMap fun b => rowK b ((c.getD i 0).toNat + 1)) ++ rowK ((spI c i).getD j []) k
theorem nxI_0 (c : List Int) (i : Nat) : nxI c i 0 0 = [] := by simp [nxI, rowK]
theorem nxI_k (c : List Int) (i j k : Nat) : nxI c i j k ++ [(spI c i).getD j [] ++ [(k : Int)]] = nxI c i j (k + 1) := by
  simp only [nxI, List.append_assoc, rowK_one]
theorem nxI_j {c : List Int} {i j : Nat} (h : j < (spI c i).length) : nxI c i j ((c.getD i 0).toNat + 1) = nxI c i (j + 1) 0 := by
  simp only [nxI, take_one (spI c i) j [] h, List.flatMap_append, List.flatMap_cons, List.flatMap_nil, List.append_nil]
  simp [rowK]
theorem nxI_end (c : List Int) (i : Nat) : nxI c i (spI c i).length 0 = spI c (i + 1) := by
  simp [nxI, spI, rowK]
theorem fm_len {L : List (List Int)} {n : Nat} : (L.flatMap fun b => rowK b n).length = L.length * n := by
  induction L with
  | nil => simp
  | cons b r ih => simp [List.flatMap_cons, rowK_len, ih, Nat.succ_mul]; omega
theorem spI_len {c : List Int} (h8 : in8 c = true) : ∀ i, (spI c i).length ≤ 9 ^ i
  | 0 => by simp [spI]
  | i + 1 => by
    have ih := spI_len h8 i
    have h := in8_get h8 i
    simp only [spI, fm_len]
    have : (c.getD i 0).toNat + 1 ≤ 9 := by omega
    rw [Nat.pow_succ]
    exact Nat.mul_le_mul ih this
theorem spI_len3 {c : List Int} (h8 : in8 c = true) {i : Nat} (hi : i ≤ 3) : (spI c i).length ≤ 729 := by
  have h := spI_len h8 i
  match i, hi with
  | 0, _ | 1, _ | 2, _ | 3, _ => omega
theorem nxI_len {c : List Int} (h8 : in8 c = true) {i j k : Nat} (hi : i ≤ 3) (hk : k ≤ 9) : (nxI c i j k).length ≤ 6570 := by
  have h := in8_get h8 i
  have h2 := spI_len3 h8 hi
  simp only [nxI, List.length_append, fm_len, rowK_len, List.length_take]
  have h3 : min j (spI c i).length * ((c.getD i 0).toNat + 1) ≤ 729 * 9 := Nat.mul_le_mul (by omega) (by omega)
  omega
theorem spI_mem_len {c : List Int} : ∀ {i : Nat} {b : List Int}, b ∈ spI c i → b.length = i
  | 0, b, h => by simp [spI] at h; simp [h]
  | i + 1, b, h => by
    simp only [spI, List.mem_flatMap] at h
    obtain ⟨b', h1, h2⟩ := h
    have := spI_mem_len h1
    simp only [rowK, List.mem_map] at h2
    obtain ⟨j, _, rfl⟩ := h2
    simp [this]
theorem spI_getD_len {c : List Int} {i j : Nat} (h : j < (spI c i).length) : ((spI c i).getD j []).length = i := spI_mem_len (c := c) (by rw [getD_lt h]; exact List.getElem_mem h)
def a_splits (f_Clone : FuncId) : AFn := ⟨1, 
  .seq (.reg [⟨some 2, none, .d (.mv (.c (.nilsl)))⟩])
  (.seq (.reg [⟨some 10, none, .w (.bslice 1 [] [])⟩,
    ⟨some 11, none, .w (.bslice 1 [.nilsl] [(0, (.t 10))])⟩,
    ⟨some 3, none, .d (.mv (.t 11))⟩])
  (.seq (.seq (.reg [⟨some 12, none, .d (.mv (.t 0))⟩,
    ⟨some 13, none, .d (.len (.t 12))⟩,
    ⟨some 14, none, .d (.mv (.c (.int .i64 0)))⟩])
  (.block 0 (.loop (.seq (.reg [⟨some 15, none, .d (.bin .arith .lss (.t 14) (.t 13))⟩])
    (.seq (.cond (.t 15) (.skip) (.exit 0))
    (.seq (.block 1 (.seq (.reg [⟨some 16, none, .d (.ia 1 (.t 12) (.t 14))⟩,
       ⟨some 17, none, .d (.load false 1 (.t 16))⟩,
       ⟨some 5, none, .d (.mv (.t 17))⟩])
     (.seq (.reg [⟨some 18, none, .w (.bslice 1 [] [])⟩,
       ⟨some 6, none, .d (.mv (.t 18))⟩])
     (.seq (.seq (.reg [⟨some 19, none, .d (.mv (.t 3))⟩,
       ⟨some 20, none, .d (.len (.t 19))⟩,
       ⟨some 21, none, .d (.mv (.c (.int .i64 0)))⟩])
     (.block 2 (.loop (.seq (.reg [⟨some 22, none, .d (.bin .arith .lss (.t 21) (.t 20))⟩])
       (.seq (.cond (.t 22) (.skip) (.exit 2))
       (.seq (.block 3 (.seq (.reg [⟨some 23, none, .d (.ia 1 (.t 19) (.t 21))⟩,
          ⟨some 24, none, .d (.load false 1 (.t 23))⟩,
          ⟨some 8, none, .d (.mv (.t 24))⟩])
        (.seq (.reg [⟨some 25, none, .d (.mv (.t 5))⟩,
          ⟨some 26, none, .d (.bin .arith .add (.t 25) (.c (.int .i64 1)))⟩,
          ⟨some 27, none, .d (.mv (.c (.int .i64 0)))⟩])
        (.block 4 (.loop (.seq (.reg [⟨some 28, none, .d (.bin .arith .lss (.t 27) (.t 26))⟩])
          (.seq (.cond (.t 28) (.skip) (.exit 4))
          (.seq (.block 5 (.seq (.reg [⟨some 29, none, .d (.mv (.t 27))⟩,
             ⟨some 9, none, .d (.mv (.t 29))⟩])
           (.reg [⟨some 30, none, .d (.mv (.t 6))⟩,
             ⟨some 31, none, .d (.mv (.t 8))⟩,
             ⟨some 32, none, .w (.callL (.f f_Clone) [(.t 31)] [] 1 false)⟩,
             ⟨some 33, none, .d (.mv (.t 9))⟩,
             ⟨some 34, none, .w (.bslice 1 [.int .i64 0] [(0, (.t 33))])⟩,
             ⟨some 35, none, .w (.append 1 (.t 32) (.t 34))⟩,
             ⟨some 36, none, .w (.bslice 1 [.nilsl] [(0, (.t 35))])⟩,
             ⟨some 37, none, .w (.append 1 (.t 30) (.t 36))⟩,
             ⟨some 6, none, .d (.mv (.t 37))⟩])))
          (.reg [⟨some 38, none, .d (.bin .arith .add (.t 27) (.c (.int .i64 1)))⟩,
            ⟨some 27, none, .d (.mv (.t 38))⟩])))))))))
       (.reg [⟨some 39, none, .d (.bin .arith .add (.t 21) (.c (.int .i64 1)))⟩,
         ⟨some 21, none, .d (.mv (.t 39))⟩])))))))
     (.reg [⟨some 40, none, .d (.mv (.t 6))⟩,
       ⟨some 3, none, .d (.mv (.t 40))⟩])))))
    (.reg [⟨some 41, none, .d (.bin .arith .add (.t 14) (.c (.int .i64 1)))⟩,
      ⟨some 14, none, .d (.mv (.t 41))⟩])))))))
  (.seq (.reg [⟨some 42, none, .d (.mv (.t 3))⟩,
    ⟨some 2, none, .d (.mv (.t 42))⟩])
  (.ret)))), [.tmp 2]⟩
def n_splits : Nat → Option Ann := fun d => if d = 32 then some ⟨[], 1, false⟩ else none
abbrev k_splits : List Nat := [0, 2, 3, 5, 6, 8, 9, 12, 13, 14, 15, 19, 20, 21, 22, 26, 27, 28]
abbrev o_splits : List Nat := [10, 11, 18, 32, 34, 35, 36, 37]
def a_l4Splits (f_l1Own : FuncId) : AFn := ⟨1, 
  .seq (.reg [⟨some 2, none, .d (.mv (.c (.nilsl)))⟩])
  (.seq (.reg [⟨some 8, none, .w (.bslice 1 [] [])⟩,
    ⟨some 9, none, .w (.bslice 1 [.nilsl] [(0, (.t 8))])⟩,
    ⟨some 3, none, .d (.mv (.t 9))⟩])
  (.seq (.seq (.reg [⟨some 4, none, .d (.mv (.c (.int .i64 0)))⟩])
  (.block 0 (.loop (.seq (.seq (.reg [⟨some 10, none, .d (.mv (.t 4))⟩,
      ⟨some 11, none, .d (.mv (.t 0))⟩,
      ⟨some 12, none, .d (.len (.t 11))⟩,
      ⟨some 13, none, .d (.bin .arith .lss (.t 10) (.t 12))⟩])
    (.cond (.t 13) (.skip) (.exit 0)))
    (.seq (.block 1 (.seq (.reg [⟨some 16, none, .w (.bslice 1 [] [])⟩,
       ⟨some 5, none, .d (.mv (.t 16))⟩])
     (.seq (.seq (.reg [⟨some 6, none, .d (.mv (.c (.int .i64 0)))⟩])
     (.block 2 (.loop (.seq (.seq (.reg [⟨some 17, none, .d (.mv (.t 6))⟩,
         ⟨some 18, none, .d (.mv (.t 3))⟩,
         ⟨some 19, none, .d (.len (.t 18))⟩,
         ⟨some 20, none, .d (.bin .arith .lss (.t 17) (.t 19))⟩])
       (.cond (.t 20) (.skip) (.exit 2)))
       (.seq (.block 3 (.seq (.reg [⟨some 7, none, .d (.mv (.c (.int .i64 0)))⟩])
        (.block 4 (.loop (.seq (.seq (.reg [⟨some 23, none, .d (.mv (.t 7))⟩,
            ⟨some 24, none, .d (.mv (.t 0))⟩,
            ⟨some 25, none, .d (.mv (.t 4))⟩,
            ⟨some 26, none, .d (.ia 1 (.t 24) (.t 25))⟩,
            ⟨some 27, none, .d (.load false 1 (.t 26))⟩,
            ⟨some 28, none, .d (.bin .arith .leq (.t 23) (.t 27))⟩])
          (.cond (.t 28) (.skip) (.exit 4)))
          (.seq (.block 5 (.reg [⟨some 31, none, .d (.mv (.t 5))⟩,
             ⟨some 32, none, .d (.mv (.t 3))⟩,
             ⟨some 33, none, .d (.mv (.t 6))⟩,
             ⟨some 34, none, .d (.ia 1 (.t 32) (.t 33))⟩,
             ⟨some 35, none, .d (.load false 1 (.t 34))⟩,
             ⟨some 36, none, .w (.callL (.f f_l1Own) [(.t 35)] [] 1 false)⟩,
             ⟨some 37, none, .d (.mv (.t 7))⟩,
             ⟨some 38, none, .w (.bslice 1 [.int .i64 0] [(0, (.t 37))])⟩,
             ⟨some 39, none, .w (.append 1 (.t 36) (.t 38))⟩,
             ⟨some 40, none, .w (.bslice 1 [.nilsl] [(0, (.t 39))])⟩,
             ⟨some 41, none, .w (.append 1 (.t 31) (.t 40))⟩,
             ⟨some 5, none, .d (.mv (.t 41))⟩]))
          (.reg [⟨some 29, none, .d (.mv (.t 7))⟩,
            ⟨some 30, none, .d (.bin .arith .add (.t 29) (.c (.int .i64 1)))⟩,
            ⟨some 7, none, .d (.mv (.t 30))⟩])))))))
       (.reg [⟨some 21, none, .d (.mv (.t 6))⟩,
         ⟨some 22, none, .d (.bin .arith .add (.t 21) (.c (.int .i64 1)))⟩,
         ⟨some 6, none, .d (.mv (.t 22))⟩]))))))
     (.reg [⟨some 42, none, .d (.mv (.t 5))⟩,
       ⟨some 3, none, .d (.mv (.t 42))⟩]))))
    (.reg [⟨some 14, none, .d (.mv (.t 4))⟩,
      ⟨some 15, none, .d (.bin .arith .add (.t 14) (.c (.int .i64 1)))⟩,
      ⟨some 4, none, .d (.mv (.t 15))⟩]))))))
  (.seq (.reg [⟨some 43, none, .d (.mv (.t 3))⟩,
    ⟨some 2, none, .d (.mv (.t 43))⟩])
  (.ret)))), [.tmp 2]⟩
def n_l4Splits : Nat → Option Ann := fun d => if d = 36 then some ⟨[], 1, false⟩ else none
abbrev k_l4Splits : List Nat := [0, 2, 3, 4, 5, 6, 7, 13, 20, 28]
abbrev o_l4Splits : List Nat := [8, 9, 16, 36, 38, 39, 40, 41]
def c_splits : Con := pure' fun
  | [.p (.sl 1 c_)] => if isI c_ = true ∧ ((ofI c_).length ≤ 3 ∧ in8 (ofI c_) = true) then some (.ar 2000000, [.arr 1 (sls (splL (ofI c_)))]) else none
  | _ => none
/-- What a loop carries along: a count, leftovers. -/
structure J where
  i : Nat
  a : SV
  b : SV
  c : SV
  d : SV
  e : SV
  f : SV
  g : SV
  h : SV
  k : SV
  l : SV
  m : SV
  n : SV
  o : Option Ob
  p : Option Ob
  q : Option Ob
theorem s_splits {P : Program} (hm : P.follows .mixedOrders = true) {Γ : Gam} (hΓ : GS P Γ) {n : FuncId} {f_Clone : FuncId} (is : Is P n (a_splits f_Clone)) (h_Clone : Γ f_Clone = c_Clone)  : Says P n c_splits := by
  refine Says.pure fun args r fs h => ?_
  split at h
  case h_2 => cases h
  rename_i c_
  split at h
  case isFalse => cases h
  rename_i hc
  obtain ⟨hc_, hc⟩ := hc
  obtain ⟨c, rfl⟩ := isI_out hc_
  simp only [ofI_ints, ofBo_bools, ofAs_asks, Option.some.injEq, Prod.mk.injEq] at h hc
  obtain ⟨rfl, rfl⟩ := h
  obtain ⟨hl3, h8⟩ := hc
  refine is.go hm hΓ k_splits o_splits (by simp [a_splits]) ?_
  simp only [a_splits, h_Clone, c_Clone, List.zipIdx_cons, List.zipIdx_nil, ↓SP, SQ, Gam.add, stepM, callC, argC, lendO, nmBy, nmC, likeL, likeB, plainOb, offs, exL, X, F, trP, trO, stepD, stepW, newA, SV.tr, SV.trL, fz, allP, Ob.tr, loadA, cellsA, SV.cells, binA, binI, eqOut, isSl, isPt, natOf, callee, snap, SV.refsL, SV.refs, thaw, fzAll, loA, hiA, elemOf, partsA, buildA, putCells, ↓reduceIte, reduceCtorEq, okCell, Nat.reduceAdd, Nat.reduceEqDiff, Nat.reduceSub, Nat.reduceMul, Nat.reduceLeDiff, Nat.reduceLT, Nat.reduceBEq, PV.scal, PV.scalL, SV.scal, SV.scalL, Ob.scal, PV.isCell, pure', resO]
  refine loop_at (fun s : J => mkEnv [(0, .p (.sl 1 (ints c))), (2, .p .nilsl), (3, match s.i with | 0 => .ar 11 | _ + 1 => .ar 18), (5, s.a), (6, s.b), (8, s.c), (9, s.d), (12, .p (.sl 1 (ints c))), (13, si c.length), (14, si s.i), (15, s.e), (19, s.f), (20, s.g), (21, s.h), (22, s.k), (26, s.l), (27, s.m), (28, s.n)]) (fun s => mkO [(10, none), (11, some (.arr 1 (sls [[]]))), (18, match s.i with | 0 => none | k + 1 => some (.arr 1 (sls (spI c (k + 1))))), (32, s.o), (34, s.p), (35, none), (36, s.q), (37, none)]) (fun s => s.i ≤ c.length) (fun s => c.length - s.i) ⟨0, .junk, .junk, .junk, .junk, .junk, .junk, .junk, .junk, .junk, .junk, .junk, .junk, none, none, none⟩ (by simp) rfl rfl ?_
  rintro ⟨i, a1, a2, a3, a4, a5, a6, a7, a8, a9, a10, a11, a12, b1, b2, b3⟩ hi R hR hN
  simp only at hi
  by_cases h : i < c.length
  · cases i with
    | zero =>
      have hS3 := spI_len3 h8 (i := 0) (by omega)
      have h1 : ((0 : Nat) : Int) < c.length := by omega
      have hw := wrap_one (i := 0) (by omega)
      have hg := ints_get h
      obtain ⟨n, hx⟩ : ∃ n : Nat, c.getD 0 0 = (n : Int) := ⟨(c.getD 0 0).toNat, by have := in8_get h8 (0); omega⟩
      have hn8 : n ≤ 8 := by have := in8_get h8 (0); omega
      have hxn : (c.getD 0 0).toNat = n := by omega
      simp only [h1, hg, hx, sls_len, List.length_nil, List.length_cons, ↓SP, SQ, Gam.add, stepM, callC, argC, lendO, nmBy, nmC, likeL, likeB, plainOb, offs, exL, X, F, trP, trO, stepD, stepW, newA, SV.tr, SV.trL, fz, allP, Ob.tr, loadA, cellsA, SV.cells, binA, binI, eqOut, isSl, isPt, natOf, callee, snap, SV.refsL, SV.refs, thaw, fzAll, loA, hiA, elemOf, partsA, buildA, putCells, ↓reduceIte, reduceCtorEq, okCell, Nat.reduceAdd, Nat.reduceEqDiff, Nat.reduceSub, Nat.reduceMul, Nat.reduceLeDiff, Nat.reduceLT, Nat.reduceBEq, PV.scal, PV.scalL, SV.scal, SV.scalL, Ob.scal, PV.isCell, pure', resO]
      refine loop_at (fun s : J => mkEnv [(0, .p (.sl 1 (ints c))), (2, .p .nilsl), (3, .ar 11), (5, si n), (6, .ar 18), (8, s.a), (9, s.b), (12, .p (.sl 1 (ints c))), (13, si c.length), (14, si (0 : Nat)), (15, sb true), (19, .ar 11), (20, si (spI c (0)).length), (21, si s.i), (22, s.c), (26, s.d), (27, s.e), (28, s.f)]) (fun s => mkO [(10, none), (11, some (.arr 1 (sls [[]]))), (18, some (.arr 1 (sls (nxI c (0) s.i 0)))), (32, s.o), (34, s.p), (35, none), (36, s.q), (37, none)]) (fun s => s.i ≤ (spI c (0)).length) (fun s => (spI c (0)).length - s.i) ⟨0, _, _, _, _, _, _, .junk, .junk, .junk, .junk, .junk, .junk, _, _, _⟩ (by simp) rfl (by simp only [nxI_0]; rfl) ?_
      rintro ⟨j, c1, c2, c3, c4, c5, c6, c7, c8, c9, c10, c11, c12, o1, o2, o3⟩ hj R2 hR2 hN2
      simp only at hj
      by_cases hlt : j < (spI c (0)).length
      · have h2 : (j : Int) < (spI c (0)).length := by omega
        have hw2 := wrap_one (i := j) (by omega)
        have hg2 := sls_get hlt
        have hbl := spI_getD_len hlt
        have hwn := wrap_one (i := n) (by omega)
        have hj0 : j = 0 := by simp [spI] at hlt; exact hlt
        have hg3 : (sls [[]])[j]? = some (.sl 1 (ints ((spI c 0).getD j []))) := hg2
        have hlt1 : j < 1 := by omega
        simp only [h2, hlt, hg2, hwn, sls_len, hg3, hlt1, List.length_cons, List.length_nil, ↓SP, SQ, Gam.add, stepM, callC, argC, lendO, nmBy, nmC, likeL, likeB, plainOb, offs, exL, X, F, trP, trO, stepD, stepW, newA, SV.tr, SV.trL, fz, allP, Ob.tr, loadA, cellsA, SV.cells, binA, binI, eqOut, isSl, isPt, natOf, callee, snap, SV.refsL, SV.refs, thaw, fzAll, loA, hiA, elemOf, partsA, buildA, putCells, ↓reduceIte, reduceCtorEq, okCell, Nat.reduceAdd, Nat.reduceEqDiff, Nat.reduceSub, Nat.reduceMul, Nat.reduceLeDiff, Nat.reduceLT, Nat.reduceBEq, PV.scal, PV.scalL, SV.scal, SV.scalL, Ob.scal, PV.isCell, pure', resO]
        refine loop_at (fun s : J => mkEnv [(0, .p (.sl 1 (ints c))), (2, .p .nilsl), (3, .ar 11), (5, si n), (6, .ar 18), (8, .p (.sl 1 (ints ((spI c (0)).getD j [])))), (9, s.a), (12, .p (.sl 1 (ints c))), (13, si c.length), (14, si (0 : Nat)), (15, sb true), (19, .ar 11), (20, si (spI c (0)).length), (21, si j), (22, sb true), (26, si ((n + 1 : Nat) : Int)), (27, si s.i), (28, s.b)]) (fun s => mkO [(10, none), (11, some (.arr 1 (sls [[]]))), (18, some (.arr 1 (sls (nxI c (0) j s.i)))), (32, s.o), (34, s.p), (35, none), (36, s.q), (37, none)]) (fun s => s.i ≤ n + 1) (fun s => n + 1 - s.i) ⟨0, _, _, .junk, .junk, .junk, .junk, .junk, .junk, .junk, .junk, .junk, .junk, _, _, _⟩ (by simp) rfl rfl ?_
        rintro ⟨k, d1, d2, d3, d4, d5, d6, d7, d8, d9, d10, d11, d12, p1, p2, p3⟩ hk R3 hR3 hN3
        simp only at hk
        by_cases hkt : k < n + 1
        · have h3 : (k : Int) < ((n + 1 : Nat) : Int) := Int.ofNat_lt.2 hkt
          have hw3 := wrap_one (i := k) (by omega)
          have hcl : ((spI c (0)).getD j []).length ≤ 1100000 := by omega
          have hr1 : ((spI c (0)).getD j []).length + 1 ≤ roomA := by unfold roomA; omega
          have hnl := nxI_len h8 (i := 0) (j := j) (k := k) (by omega) (by omega)
          have hr2 : (nxI c (0) j k).length + 1 ≤ roomA := by unfold roomA; omega
          have hst := nxI_k c (0) j k
          simp only [h3, hw3, hcl, hr1, hr2, ints_len, sls_len, ints_app1, sls_app1, ints_cell, sls_cell, hst, isI_ints, ofI_ints, h_Clone, c_Clone, ↓SP, SQ, Gam.add, stepM, callC, argC, lendO, nmBy, nmC, likeL, likeB, plainOb, offs, exL, X, F, trP, trO, stepD, stepW, newA, SV.tr, SV.trL, fz, allP, Ob.tr, loadA, cellsA, SV.cells, binA, binI, eqOut, isSl, isPt, natOf, callee, snap, SV.refsL, SV.refs, thaw, fzAll, loA, hiA, elemOf, partsA, buildA, putCells, ↓reduceIte, reduceCtorEq, okCell, Nat.reduceAdd, Nat.reduceEqDiff, Nat.reduceSub, Nat.reduceMul, Nat.reduceLeDiff, Nat.reduceLT, Nat.reduceBEq, PV.scal, PV.scalL, SV.scal, SV.scalL, Ob.scal, PV.isCell, pure', resO]
          exact hN3 ⟨k + 1, _, _, .junk, .junk, .junk, .junk, .junk, .junk, .junk, .junk, .junk, .junk, _, _, _⟩ _ _ (by simp only; omega) (by simp only; omega) rfl rfl
        · have hke : k = n + 1 := by omega
          have h3 : ¬ (k : Int) < ((n + 1 : Nat) : Int) := by omega
          subst hke
          have hjj : nxI c (0) j (n + 1) = nxI c (0) (j + 1) 0 := by rw [← hxn]; exact nxI_j hlt
          simp only [h3, ↓SP, SQ, Gam.add, stepM, callC, argC, lendO, nmBy, nmC, likeL, likeB, plainOb, offs, exL, X, F, trP, trO, stepD, stepW, newA, SV.tr, SV.trL, fz, allP, Ob.tr, loadA, cellsA, SV.cells, binA, binI, eqOut, isSl, isPt, natOf, callee, snap, SV.refsL, SV.refs, thaw, fzAll, loA, hiA, elemOf, partsA, buildA, putCells, ↓reduceIte, reduceCtorEq, okCell, Nat.reduceAdd, Nat.reduceEqDiff, Nat.reduceSub, Nat.reduceMul, Nat.reduceLeDiff, Nat.reduceLT, Nat.reduceBEq, PV.scal, PV.scalL, SV.scal, SV.scalL, Ob.scal, PV.isCell, pure', resO]
          refine hR3 _ _ _ (by intro h; cases h) ?_
          simp only [hw2, hjj, ↓SP, SQ, Gam.add, stepM, callC, argC, lendO, nmBy, nmC, likeL, likeB, plainOb, offs, exL, X, F, trP, trO, stepD, stepW, newA, SV.tr, SV.trL, fz, allP, Ob.tr, loadA, cellsA, SV.cells, binA, binI, eqOut, isSl, isPt, natOf, callee, snap, SV.refsL, SV.refs, thaw, fzAll, loA, hiA, elemOf, partsA, buildA, putCells, ↓reduceIte, reduceCtorEq, okCell, Nat.reduceAdd, Nat.reduceEqDiff, Nat.reduceSub, Nat.reduceMul, Nat.reduceLeDiff, Nat.reduceLT, Nat.reduceBEq, PV.scal, PV.scalL, SV.scal, SV.scalL, Ob.scal, PV.isCell, pure', resO]
          exact hN2 ⟨j + 1, _, _, _, _, _, _, .junk, .junk, .junk, .junk, .junk, .junk, _, _, _⟩ _ _ (by simp only; omega) (by simp only; omega) rfl rfl
      · have hje : j = (spI c (0)).length := by omega
        have h2 : ¬ (j : Int) < (spI c (0)).length := by omega
        subst hje
        have hend := nxI_end c (0)
        simp only [h2, ↓SP, SQ, Gam.add, stepM, callC, argC, lendO, nmBy, nmC, likeL, likeB, plainOb, offs, exL, X, F, trP, trO, stepD, stepW, newA, SV.tr, SV.trL, fz, allP, Ob.tr, loadA, cellsA, SV.cells, binA, binI, eqOut, isSl, isPt, natOf, callee, snap, SV.refsL, SV.refs, thaw, fzAll, loA, hiA, elemOf, partsA, buildA, putCells, ↓reduceIte, reduceCtorEq, okCell, Nat.reduceAdd, Nat.reduceEqDiff, Nat.reduceSub, Nat.reduceMul, Nat.reduceLeDiff, Nat.reduceLT, Nat.reduceBEq, PV.scal, PV.scalL, SV.scal, SV.scalL, Ob.scal, PV.isCell, pure', resO]
        refine hR2 _ _ _ (by intro h; cases h) ?_
        simp only [hw, hend, ↓SP, SQ, Gam.add, stepM, callC, argC, lendO, nmBy, nmC, likeL, likeB, plainOb, offs, exL, X, F, trP, trO, stepD, stepW, newA, SV.tr, SV.trL, fz, allP, Ob.tr, loadA, cellsA, SV.cells, binA, binI, eqOut, isSl, isPt, natOf, callee, snap, SV.refsL, SV.refs, thaw, fzAll, loA, hiA, elemOf, partsA, buildA, putCells, ↓reduceIte, reduceCtorEq, okCell, Nat.reduceAdd, Nat.reduceEqDiff, Nat.reduceSub, Nat.reduceMul, Nat.reduceLeDiff, Nat.reduceLT, Nat.reduceBEq, PV.scal, PV.scalL, SV.scal, SV.scalL, Ob.scal, PV.isCell, pure', resO]
        exact hN ⟨(0) + 1, _, _, _, _, _, _, _, _, _, _, _, _, _, _, _⟩ _ _ (by simp only; omega) (by simp only; omega) rfl rfl
    | succ i =>
      have hS3 := spI_len3 h8 (i := i + 1) (by omega)
      have h1 : ((i + 1 : Nat) : Int) < c.length := by omega
      have hw := wrap_one (i := i + 1) (by omega)
      have hg := ints_get h
      obtain ⟨n, hx⟩ : ∃ n : Nat, c.getD (i + 1) 0 = (n : Int) := ⟨(c.getD (i + 1) 0).toNat, by have := in8_get h8 (i + 1); omega⟩
      have hn8 : n ≤ 8 := by have := in8_get h8 (i + 1); omega
      have hxn : (c.getD (i + 1) 0).toNat = n := by omega
      simp only [h1, hg, hx, sls_len, List.length_nil, List.length_cons, ↓SP, SQ, Gam.add, stepM, callC, argC, lendO, nmBy, nmC, likeL, likeB, plainOb, offs, exL, X, F, trP, trO, stepD, stepW, newA, SV.tr, SV.trL, fz, allP, Ob.tr, loadA, cellsA, SV.cells, binA, binI, eqOut, isSl, isPt, natOf, callee, snap, SV.refsL, SV.refs, thaw, fzAll, loA, hiA, elemOf, partsA, buildA, putCells, ↓reduceIte, reduceCtorEq, okCell, Nat.reduceAdd, Nat.reduceEqDiff, Nat.reduceSub, Nat.reduceMul, Nat.reduceLeDiff, Nat.reduceLT, Nat.reduceBEq, PV.scal, PV.scalL, SV.scal, SV.scalL, Ob.scal, PV.isCell, pure', resO]
      refine loop_at (fun s : J => mkEnv [(0, .p (.sl 1 (ints c))), (2, .p .nilsl), (3, .p (.sl 1 (sls (spI c (i + 1))))), (5, si n), (6, .ar 18), (8, s.a), (9, s.b), (12, .p (.sl 1 (ints c))), (13, si c.length), (14, si (i + 1 : Nat)), (15, sb true), (19, .p (.sl 1 (sls (spI c (i + 1))))), (20, si (spI c (i + 1)).length), (21, si s.i), (22, s.c), (26, s.d), (27, s.e), (28, s.f)]) (fun s => mkO [(10, none), (11, some (.arr 1 (sls [[]]))), (18, some (.arr 1 (sls (nxI c (i + 1) s.i 0)))), (32, s.o), (34, s.p), (35, none), (36, s.q), (37, none)]) (fun s => s.i ≤ (spI c (i + 1)).length) (fun s => (spI c (i + 1)).length - s.i) ⟨0, _, _, _, _, _, _, .junk, .junk, .junk, .junk, .junk, .junk, _, _, _⟩ (by simp) rfl (by simp only [nxI_0]; rfl) ?_
      rintro ⟨j, c1, c2, c3, c4, c5, c6, c7, c8, c9, c10, c11, c12, o1, o2, o3⟩ hj R2 hR2 hN2
      simp only at hj
      by_cases hlt : j < (spI c (i + 1)).length
      · have h2 : (j : Int) < (spI c (i + 1)).length := by omega
        have hw2 := wrap_one (i := j) (by omega)
        have hg2 := sls_get hlt
        have hbl := spI_getD_len hlt
        have hwn := wrap_one (i := n) (by omega)
        simp only [h2, hlt, hg2, hwn, sls_len,  ↓SP, SQ, Gam.add, stepM, callC, argC, lendO, nmBy, nmC, likeL, likeB, plainOb, offs, exL, X, F, trP, trO, stepD, stepW, newA, SV.tr, SV.trL, fz, allP, Ob.tr, loadA, cellsA, SV.cells, binA, binI, eqOut, isSl, isPt, natOf, callee, snap, SV.refsL, SV.refs, thaw, fzAll, loA, hiA, elemOf, partsA, buildA, putCells, ↓reduceIte, reduceCtorEq, okCell, Nat.reduceAdd, Nat.reduceEqDiff, Nat.reduceSub, Nat.reduceMul, Nat.reduceLeDiff, Nat.reduceLT, Nat.reduceBEq, PV.scal, PV.scalL, SV.scal, SV.scalL, Ob.scal, PV.isCell, pure', resO]
        refine loop_at (fun s : J => mkEnv [(0, .p (.sl 1 (ints c))), (2, .p .nilsl), (3, .p (.sl 1 (sls (spI c (i + 1))))), (5, si n), (6, .ar 18), (8, .p (.sl 1 (ints ((spI c (i + 1)).getD j [])))), (9, s.a), (12, .p (.sl 1 (ints c))), (13, si c.length), (14, si (i + 1 : Nat)), (15, sb true), (19, .p (.sl 1 (sls (spI c (i + 1))))), (20, si (spI c (i + 1)).length), (21, si j), (22, sb true), (26, si ((n + 1 : Nat) : Int)), (27, si s.i), (28, s.b)]) (fun s => mkO [(10, none), (11, some (.arr 1 (sls [[]]))), (18, some (.arr 1 (sls (nxI c (i + 1) j s.i)))), (32, s.o), (34, s.p), (35, none), (36, s.q), (37, none)]) (fun s => s.i ≤ n + 1) (fun s => n + 1 - s.i) ⟨0, _, _, .junk, .junk, .junk, .junk, .junk, .junk, .junk, .junk, .junk, .junk, _, _, _⟩ (by simp) rfl rfl ?_
        rintro ⟨k, d1, d2, d3, d4, d5, d6, d7, d8, d9, d10, d11, d12, p1, p2, p3⟩ hk R3 hR3 hN3
        simp only at hk
        by_cases hkt : k < n + 1
        · have h3 : (k : Int) < ((n + 1 : Nat) : Int) := Int.ofNat_lt.2 hkt
          have hw3 := wrap_one (i := k) (by omega)
          have hcl : ((spI c (i + 1)).getD j []).length ≤ 1100000 := by omega
          have hr1 : ((spI c (i + 1)).getD j []).length + 1 ≤ roomA := by unfold roomA; omega
          have hnl := nxI_len h8 (i := i + 1) (j := j) (k := k) (by omega) (by omega)
          have hr2 : (nxI c (i + 1) j k).length + 1 ≤ roomA := by unfold roomA; omega
          have hst := nxI_k c (i + 1) j k
          simp only [h3, hw3, hcl, hr1, hr2, ints_len, sls_len, ints_app1, sls_app1, ints_cell, sls_cell, hst, isI_ints, ofI_ints, h_Clone, c_Clone, ↓SP, SQ, Gam.add, stepM, callC, argC, lendO, nmBy, nmC, likeL, likeB, plainOb, offs, exL, X, F, trP, trO, stepD, stepW, newA, SV.tr, SV.trL, fz, allP, Ob.tr, loadA, cellsA, SV.cells, binA, binI, eqOut, isSl, isPt, natOf, callee, snap, SV.refsL, SV.refs, thaw, fzAll, loA, hiA, elemOf, partsA, buildA, putCells, ↓reduceIte, reduceCtorEq, okCell, Nat.reduceAdd, Nat.reduceEqDiff, Nat.reduceSub, Nat.reduceMul, Nat.reduceLeDiff, Nat.reduceLT, Nat.reduceBEq, PV.scal, PV.scalL, SV.scal, SV.scalL, Ob.scal, PV.isCell, pure', resO]
          exact hN3 ⟨k + 1, _, _, .junk, .junk, .junk, .junk, .junk, .junk, .junk, .junk, .junk, .junk, _, _, _⟩ _ _ (by simp only; omega) (by simp only; omega) rfl rfl
        · have hke : k = n + 1 := by omega
          have h3 : ¬ (k : Int) < ((n + 1 : Nat) : Int) := by omega
          subst hke
          have hjj : nxI c (i + 1) j (n + 1) = nxI c (i + 1) (j + 1) 0 := by rw [← hxn]; exact nxI_j hlt
          simp only [h3, ↓SP, SQ, Gam.add, stepM, callC, argC, lendO, nmBy, nmC, likeL, likeB, plainOb, offs, exL, X, F, trP, trO, stepD, stepW, newA, SV.tr, SV.trL, fz, allP, Ob.tr, loadA, cellsA, SV.cells, binA, binI, eqOut, isSl, isPt, natOf, callee, snap, SV.refsL, SV.refs, thaw, fzAll, loA, hiA, elemOf, partsA, buildA, putCells, ↓reduceIte, reduceCtorEq, okCell, Nat.reduceAdd, Nat.reduceEqDiff, Nat.reduceSub, Nat.reduceMul, Nat.reduceLeDiff, Nat.reduceLT, Nat.reduceBEq, PV.scal, PV.scalL, SV.scal, SV.scalL, Ob.scal, PV.isCell, pure', resO]
          refine hR3 _ _ _ (by intro h; cases h) ?_
          simp only [hw2, hjj, ↓SP, SQ, Gam.add, stepM, callC, argC, lendO, nmBy, nmC, likeL, likeB, plainOb, offs, exL, X, F, trP, trO, stepD, stepW, newA, SV.tr, SV.trL, fz, allP, Ob.tr, loadA, cellsA, SV.cells, binA, binI, eqOut, isSl, isPt, natOf, callee, snap, SV.refsL, SV.refs, thaw, fzAll, loA, hiA, elemOf, partsA, buildA, putCells, ↓reduceIte, reduceCtorEq, okCell, Nat.reduceAdd, Nat.reduceEqDiff, Nat.reduceSub, Nat.reduceMul, Nat.reduceLeDiff, Nat.reduceLT, Nat.reduceBEq, PV.scal, PV.scalL, SV.scal, SV.scalL, Ob.scal, PV.isCell, pure', resO]
          exact hN2 ⟨j + 1, _, _, _, _, _, _, .junk, .junk, .junk, .junk, .junk, .junk, _, _, _⟩ _ _ (by simp only; omega) (by simp only; omega) rfl rfl
      · have hje : j = (spI c (i + 1)).length := by omega
        have h2 : ¬ (j : Int) < (spI c (i + 1)).length := by omega
        subst hje
        have hend := nxI_end c (i + 1)
        simp only [h2, ↓SP, SQ, Gam.add, stepM, callC, argC, lendO, nmBy, nmC, likeL, likeB, plainOb, offs, exL, X, F, trP, trO, stepD, stepW, newA, SV.tr, SV.trL, fz, allP, Ob.tr, loadA, cellsA, SV.cells, binA, binI, eqOut, isSl, isPt, natOf, callee, snap, SV.refsL, SV.refs, thaw, fzAll, loA, hiA, elemOf, partsA, buildA, putCells, ↓reduceIte, reduceCtorEq, okCell, Nat.reduceAdd, Nat.reduceEqDiff, Nat.reduceSub, Nat.reduceMul, Nat.reduceLeDiff, Nat.reduceLT, Nat.reduceBEq, PV.scal, PV.scalL, SV.scal, SV.scalL, Ob.scal, PV.isCell, pure', resO]
        refine hR2 _ _ _ (by intro h; cases h) ?_
        simp only [hw, hend, ↓SP, SQ, Gam.add, stepM, callC, argC, lendO, nmBy, nmC, likeL, likeB, plainOb, offs, exL, X, F, trP, trO, stepD, stepW, newA, SV.tr, SV.trL, fz, allP, Ob.tr, loadA, cellsA, SV.cells, binA, binI, eqOut, isSl, isPt, natOf, callee, snap, SV.refsL, SV.refs, thaw, fzAll, loA, hiA, elemOf, partsA, buildA, putCells, ↓reduceIte, reduceCtorEq, okCell, Nat.reduceAdd, Nat.reduceEqDiff, Nat.reduceSub, Nat.reduceMul, Nat.reduceLeDiff, Nat.reduceLT, Nat.reduceBEq, PV.scal, PV.scalL, SV.scal, SV.scalL, Ob.scal, PV.isCell, pure', resO]
        exact hN ⟨(i + 1) + 1, _, _, _, _, _, _, _, _, _, _, _, _, _, _, _⟩ _ _ (by simp only; omega) (by simp only; omega) rfl rfl
  · have he : i = c.length := by omega
    have h1 : ¬ (i : Int) < c.length := by omega
    cases i with
    | zero =>
      simp only [h1, ↓SP, SQ, Gam.add, stepM, callC, argC, lendO, nmBy, nmC, likeL, likeB, plainOb, offs, exL, X, F, trP, trO, stepD, stepW, newA, SV.tr, SV.trL, fz, allP, Ob.tr, loadA, cellsA, SV.cells, binA, binI, eqOut, isSl, isPt, natOf, callee, snap, SV.refsL, SV.refs, thaw, fzAll, loA, hiA, elemOf, partsA, buildA, putCells, ↓reduceIte, reduceCtorEq, okCell, Nat.reduceAdd, Nat.reduceEqDiff, Nat.reduceSub, Nat.reduceMul, Nat.reduceLeDiff, Nat.reduceLT, Nat.reduceBEq, PV.scal, PV.scalL, SV.scal, SV.scalL, Ob.scal, PV.isCell, pure', resO]
      refine hR _ _ _ (by intro h; cases h) ?_
      simp only [↓SP, SQ, Gam.add, stepM, callC, argC, lendO, nmBy, nmC, likeL, likeB, plainOb, offs, exL, X, F, trP, trO, stepD, stepW, newA, SV.tr, SV.trL, fz, allP, Ob.tr, loadA, cellsA, SV.cells, binA, binI, eqOut, isSl, isPt, natOf, callee, snap, SV.refsL, SV.refs, thaw, fzAll, loA, hiA, elemOf, partsA, buildA, putCells, ↓reduceIte, reduceCtorEq, okCell, Nat.reduceAdd, Nat.reduceEqDiff, Nat.reduceSub, Nat.reduceMul, Nat.reduceLeDiff, Nat.reduceLT, Nat.reduceBEq, PV.scal, PV.scalL, SV.scal, SV.scalL, Ob.scal, PV.isCell, pure', resO]
      have hs : splL c = [[]] := by rw [splL, ← he]; rfl
      refine finA_gen [11] trivial (by simp [retA, rvA, mkE_cons, mk_nil, mkO_cons, mkO_nil, loadA, SV.tr, SV.trL, nmF, rn_nil, rn_cons1, rn_cons2, plainOb, SV.refsL, SV.refs, Ob.refs, X, F, List.range_succ, mkO, setO_mk]; rfl) ?_ ?_ ?_ ?_ ?_ ?_ ?_ <;> simp [hs, retA, rvA, mkE_cons, mk_nil, mkO_cons, mkO_nil, loadA, SV.tr, SV.trL, nmF, rn_nil, rn_cons1, rn_cons2, plainOb, SV.refsL, SV.refs, Ob.refs, X, F, List.range_succ, mkO, setO_mk]
    | succ i =>
      simp only [h1, ↓SP, SQ, Gam.add, stepM, callC, argC, lendO, nmBy, nmC, likeL, likeB, plainOb, offs, exL, X, F, trP, trO, stepD, stepW, newA, SV.tr, SV.trL, fz, allP, Ob.tr, loadA, cellsA, SV.cells, binA, binI, eqOut, isSl, isPt, natOf, callee, snap, SV.refsL, SV.refs, thaw, fzAll, loA, hiA, elemOf, partsA, buildA, putCells, ↓reduceIte, reduceCtorEq, okCell, Nat.reduceAdd, Nat.reduceEqDiff, Nat.reduceSub, Nat.reduceMul, Nat.reduceLeDiff, Nat.reduceLT, Nat.reduceBEq, PV.scal, PV.scalL, SV.scal, SV.scalL, Ob.scal, PV.isCell, pure', resO]
      refine hR _ _ _ (by intro h; cases h) ?_
      simp only [↓SP, SQ, Gam.add, stepM, callC, argC, lendO, nmBy, nmC, likeL, likeB, plainOb, offs, exL, X, F, trP, trO, stepD, stepW, newA, SV.tr, SV.trL, fz, allP, Ob.tr, loadA, cellsA, SV.cells, binA, binI, eqOut, isSl, isPt, natOf, callee, snap, SV.refsL, SV.refs, thaw, fzAll, loA, hiA, elemOf, partsA, buildA, putCells, ↓reduceIte, reduceCtorEq, okCell, Nat.reduceAdd, Nat.reduceEqDiff, Nat.reduceSub, Nat.reduceMul, Nat.reduceLeDiff, Nat.reduceLT, Nat.reduceBEq, PV.scal, PV.scalL, SV.scal, SV.scalL, Ob.scal, PV.isCell, pure', resO]
      have hs : splL c = spI c (i + 1) := by rw [splL, ← he]
      refine finA_gen [18] trivial (by simp [retA, rvA, mkE_cons, mk_nil, mkO_cons, mkO_nil, loadA, SV.tr, SV.trL, nmF, rn_nil, rn_cons1, rn_cons2, plainOb, SV.refsL, SV.refs, Ob.refs, X, F, List.range_succ, mkO, setO_mk]; rfl) ?_ ?_ ?_ ?_ ?_ ?_ ?_ <;> simp [hs, retA, rvA, mkE_cons, mk_nil, mkO_cons, mkO_nil, loadA, SV.tr, SV.trL, nmF, rn_nil, rn_cons1, rn_cons2, plainOb, SV.refsL, SV.refs, Ob.refs, X, F, List.range_succ, mkO, setO_mk]
theorem s_l4Splits {P : Program} (hm : P.follows .mixedOrders = true) {Γ : Gam} (hΓ : GS P Γ) {n : FuncId} {f_l1Own : FuncId} (is : Is P n (a_l4Splits f_l1Own)) (h_l1Own : Γ f_l1Own = c_Clone)  : Says P n c_splits := by
  refine Says.pure fun args r fs h => ?_
  split at h
  case h_2 => cases h
  rename_i c_
  split at h
  case isFalse => cases h
  rename_i hc
  obtain ⟨hc_, hc⟩ := hc
  obtain ⟨c, rfl⟩ := isI_out hc_
  simp only [ofI_ints, ofBo_bools, ofAs_asks, Option.some.injEq, Prod.mk.injEq] at h hc
  obtain ⟨rfl, rfl⟩ := h
  obtain ⟨hl3, h8⟩ := hc
  refine is.go hm hΓ k_l4Splits o_l4Splits (by simp [a_l4Splits]) ?_
  simp only [a_l4Splits, h_l1Own, c_Clone, List.zipIdx_cons, List.zipIdx_nil, ↓SP, SQ, Gam.add, stepM, callC, argC, lendO, nmBy, nmC, likeL, likeB, plainOb, offs, exL, X, F, trP, trO, stepD, stepW, newA, SV.tr, SV.trL, fz, allP, Ob.tr, loadA, cellsA, SV.cells, binA, binI, eqOut, isSl, isPt, natOf, callee, snap, SV.refsL, SV.refs, thaw, fzAll, loA, hiA, elemOf, partsA, buildA, putCells, ↓reduceIte, reduceCtorEq, okCell, Nat.reduceAdd, Nat.reduceEqDiff, Nat.reduceSub, Nat.reduceMul, Nat.reduceLeDiff, Nat.reduceLT, Nat.reduceBEq, PV.scal, PV.scalL, SV.scal, SV.scalL, Ob.scal, PV.isCell, pure', resO]
  refine loop_at (fun s : J => mkEnv [(0, .p (.sl 1 (ints c))), (2, .p .nilsl), (3, match s.i with | 0 => .ar 9 | _ + 1 => .ar 16), (4, si s.i), (5, s.a), (6, s.b), (7, s.c), (13, s.d), (20, s.e), (28, s.f)]) (fun s => mkO [(8, none), (9, some (.arr 1 (sls [[]]))), (16, match s.i with | 0 => none | k + 1 => some (.arr 1 (sls (spI c (k + 1))))), (36, s.o), (38, s.p), (39, none), (40, s.q), (41, none)]) (fun s => s.i ≤ c.length) (fun s => c.length - s.i) ⟨0, .junk, .junk, .junk, .junk, .junk, .junk, .junk, .junk, .junk, .junk, .junk, .junk, none, none, none⟩ (by simp) rfl rfl ?_
  rintro ⟨i, a1, a2, a3, a4, a5, a6, a7, a8, a9, a10, a11, a12, b1, b2, b3⟩ hi R hR hN
  simp only at hi
  by_cases h : i < c.length
  · cases i with
    | zero =>
      have hS3 := spI_len3 h8 (i := 0) (by omega)
      have h1 : ((0 : Nat) : Int) < c.length := by omega
      have hw := wrap_one (i := 0) (by omega)
      have hg := ints_get h
      obtain ⟨n, hx⟩ : ∃ n : Nat, c.getD (0) 0 = (n : Int) := ⟨(c.getD (0) 0).toNat, by have := in8_get h8 (0); omega⟩
      have hn8 : n ≤ 8 := by have := in8_get h8 (0); omega
      have hxn : (c.getD (0) 0).toNat = n := by omega
      simp only [h1, sls_len, List.length_nil, List.length_cons, ↓SP, SQ, Gam.add, stepM, callC, argC, lendO, nmBy, nmC, likeL, likeB, plainOb, offs, exL, X, F, trP, trO, stepD, stepW, newA, SV.tr, SV.trL, fz, allP, Ob.tr, loadA, cellsA, SV.cells, binA, binI, eqOut, isSl, isPt, natOf, callee, snap, SV.refsL, SV.refs, thaw, fzAll, loA, hiA, elemOf, partsA, buildA, putCells, ↓reduceIte, reduceCtorEq, okCell, Nat.reduceAdd, Nat.reduceEqDiff, Nat.reduceSub, Nat.reduceMul, Nat.reduceLeDiff, Nat.reduceLT, Nat.reduceBEq, PV.scal, PV.scalL, SV.scal, SV.scalL, Ob.scal, PV.isCell, pure', resO]
      refine loop_at (fun s : J => mkEnv [(0, .p (.sl 1 (ints c))), (2, .p .nilsl), (3, .ar 9), (4, si (0 : Nat)), (5, .ar 16), (6, si s.i), (7, s.a), (13, sb true), (20, s.b), (28, s.c)]) (fun s => mkO [(8, none), (9, some (.arr 1 (sls [[]]))), (16, some (.arr 1 (sls (nxI c (0) s.i 0)))), (36, s.o), (38, s.p), (39, none), (40, s.q), (41, none)]) (fun s => s.i ≤ (spI c (0)).length) (fun s => (spI c (0)).length - s.i) ⟨0, _, _, _, .junk, .junk, .junk, .junk, .junk, .junk, .junk, .junk, .junk, _, _, _⟩ (by simp) rfl (by simp only [nxI_0]; rfl) ?_
      rintro ⟨j, c1, c2, c3, c4, c5, c6, c7, c8, c9, c10, c11, c12, o1, o2, o3⟩ hj R2 hR2 hN2
      simp only at hj
      by_cases hlt : j < (spI c (0)).length
      · have h2 : (j : Int) < (spI c (0)).length := by omega
        have hw2 := wrap_one (i := j) (by omega)
        have hg2 := sls_get hlt
        have hbl := spI_getD_len hlt
        have hj0 : j = 0 := by simp [spI] at hlt; exact hlt
        have hg3 : (sls [[]])[j]? = some (.sl 1 (ints ((spI c 0).getD j []))) := hg2
        have hlt1 : j < 1 := by omega
        have h2b : (j : Int) < ((1 : Nat) : Int) := by omega
        simp only [h2, hlt, sls_len, hg3, hlt1, h2b, List.length_cons, List.length_nil, ↓SP, SQ, Gam.add, stepM, callC, argC, lendO, nmBy, nmC, likeL, likeB, plainOb, offs, exL, X, F, trP, trO, stepD, stepW, newA, SV.tr, SV.trL, fz, allP, Ob.tr, loadA, cellsA, SV.cells, binA, binI, eqOut, isSl, isPt, natOf, callee, snap, SV.refsL, SV.refs, thaw, fzAll, loA, hiA, elemOf, partsA, buildA, putCells, ↓reduceIte, reduceCtorEq, okCell, Nat.reduceAdd, Nat.reduceEqDiff, Nat.reduceSub, Nat.reduceMul, Nat.reduceLeDiff, Nat.reduceLT, Nat.reduceBEq, PV.scal, PV.scalL, SV.scal, SV.scalL, Ob.scal, PV.isCell, pure', resO]
        refine loop_at (fun s : J => mkEnv [(0, .p (.sl 1 (ints c))), (2, .p .nilsl), (3, .ar 9), (4, si (0 : Nat)), (5, .ar 16), (6, si j), (7, si s.i), (13, sb true), (20, sb true), (28, s.a)]) (fun s => mkO [(8, none), (9, some (.arr 1 (sls [[]]))), (16, some (.arr 1 (sls (nxI c (0) j s.i)))), (36, s.o), (38, s.p), (39, none), (40, s.q), (41, none)]) (fun s => s.i ≤ n + 1) (fun s => n + 1 - s.i) ⟨0, _, .junk, .junk, .junk, .junk, .junk, .junk, .junk, .junk, .junk, .junk, .junk, _, _, _⟩ (by simp) rfl rfl ?_
        rintro ⟨k, d1, d2, d3, d4, d5, d6, d7, d8, d9, d10, d11, d12, p1, p2, p3⟩ hk R3 hR3 hN3
        simp only at hk
        by_cases hkt : k < n + 1
        · have h3 : (k : Int) ≤ (n : Int) := by omega
          have hw3 := wrap_one (i := k) (by omega)
          have hcl : ((spI c (0)).getD j []).length ≤ 1100000 := by omega
          have hr1 : ((spI c (0)).getD j []).length + 1 ≤ roomA := by unfold roomA; omega
          have hnl := nxI_len h8 (i := 0) (j := j) (k := k) (by omega) (by omega)
          have hr2 : (nxI c (0) j k).length + 1 ≤ roomA := by unfold roomA; omega
          have hst := nxI_k c (0) j k
          simp only [hg, hx, hg2, hlt, hg3, hlt1, h2b, List.length_cons, List.length_nil, h3, hw3, hcl, hr1, hr2, ints_len, sls_len, ints_app1, sls_app1, ints_cell, sls_cell, hst, isI_ints, ofI_ints, h_l1Own, c_Clone, ↓SP, SQ, Gam.add, stepM, callC, argC, lendO, nmBy, nmC, likeL, likeB, plainOb, offs, exL, X, F, trP, trO, stepD, stepW, newA, SV.tr, SV.trL, fz, allP, Ob.tr, loadA, cellsA, SV.cells, binA, binI, eqOut, isSl, isPt, natOf, callee, snap, SV.refsL, SV.refs, thaw, fzAll, loA, hiA, elemOf, partsA, buildA, putCells, ↓reduceIte, reduceCtorEq, okCell, Nat.reduceAdd, Nat.reduceEqDiff, Nat.reduceSub, Nat.reduceMul, Nat.reduceLeDiff, Nat.reduceLT, Nat.reduceBEq, PV.scal, PV.scalL, SV.scal, SV.scalL, Ob.scal, PV.isCell, pure', resO]
          exact hN3 ⟨k + 1, _, .junk, .junk, .junk, .junk, .junk, .junk, .junk, .junk, .junk, .junk, .junk, _, _, _⟩ _ _ (by simp only; omega) (by simp only; omega) rfl rfl
        · have hke : k = n + 1 := by omega
          have h3 : ¬ ((n + 1 : Nat) : Int) ≤ (n : Int) := by omega
          subst hke
          have hjj : nxI c (0) j (n + 1) = nxI c (0) (j + 1) 0 := by rw [← hxn]; exact nxI_j hlt
          simp only [hg, hx, h3, ↓SP, SQ, Gam.add, stepM, callC, argC, lendO, nmBy, nmC, likeL, likeB, plainOb, offs, exL, X, F, trP, trO, stepD, stepW, newA, SV.tr, SV.trL, fz, allP, Ob.tr, loadA, cellsA, SV.cells, binA, binI, eqOut, isSl, isPt, natOf, callee, snap, SV.refsL, SV.refs, thaw, fzAll, loA, hiA, elemOf, partsA, buildA, putCells, ↓reduceIte, reduceCtorEq, okCell, Nat.reduceAdd, Nat.reduceEqDiff, Nat.reduceSub, Nat.reduceMul, Nat.reduceLeDiff, Nat.reduceLT, Nat.reduceBEq, PV.scal, PV.scalL, SV.scal, SV.scalL, Ob.scal, PV.isCell, pure', resO]
          refine hR3 _ _ _ (by intro h; cases h) ?_
          simp only [hw2, hjj, ↓SP, SQ, Gam.add, stepM, callC, argC, lendO, nmBy, nmC, likeL, likeB, plainOb, offs, exL, X, F, trP, trO, stepD, stepW, newA, SV.tr, SV.trL, fz, allP, Ob.tr, loadA, cellsA, SV.cells, binA, binI, eqOut, isSl, isPt, natOf, callee, snap, SV.refsL, SV.refs, thaw, fzAll, loA, hiA, elemOf, partsA, buildA, putCells, ↓reduceIte, reduceCtorEq, okCell, Nat.reduceAdd, Nat.reduceEqDiff, Nat.reduceSub, Nat.reduceMul, Nat.reduceLeDiff, Nat.reduceLT, Nat.reduceBEq, PV.scal, PV.scalL, SV.scal, SV.scalL, Ob.scal, PV.isCell, pure', resO]
          exact hN2 ⟨j + 1, _, _, _, .junk, .junk, .junk, .junk, .junk, .junk, .junk, .junk, .junk, _, _, _⟩ _ _ (by simp only; omega) (by simp only; omega) rfl rfl
      · have hje : j = (spI c (0)).length := by omega
        have h2 : ¬ (j : Int) < (spI c (0)).length := by omega
        subst hje
        have hend := nxI_end c (0)
        have h2c : ¬ (((spI c 0).length : Nat) : Int) < ((1 : Nat) : Int) := by simp [spI]
        simp only [h2, sls_len, h2c, List.length_cons, List.length_nil, ↓SP, SQ, Gam.add, stepM, callC, argC, lendO, nmBy, nmC, likeL, likeB, plainOb, offs, exL, X, F, trP, trO, stepD, stepW, newA, SV.tr, SV.trL, fz, allP, Ob.tr, loadA, cellsA, SV.cells, binA, binI, eqOut, isSl, isPt, natOf, callee, snap, SV.refsL, SV.refs, thaw, fzAll, loA, hiA, elemOf, partsA, buildA, putCells, ↓reduceIte, reduceCtorEq, okCell, Nat.reduceAdd, Nat.reduceEqDiff, Nat.reduceSub, Nat.reduceMul, Nat.reduceLeDiff, Nat.reduceLT, Nat.reduceBEq, PV.scal, PV.scalL, SV.scal, SV.scalL, Ob.scal, PV.isCell, pure', resO]
        refine hR2 _ _ _ (by intro h; cases h) ?_
        simp only [hw, hend, ↓SP, SQ, Gam.add, stepM, callC, argC, lendO, nmBy, nmC, likeL, likeB, plainOb, offs, exL, X, F, trP, trO, stepD, stepW, newA, SV.tr, SV.trL, fz, allP, Ob.tr, loadA, cellsA, SV.cells, binA, binI, eqOut, isSl, isPt, natOf, callee, snap, SV.refsL, SV.refs, thaw, fzAll, loA, hiA, elemOf, partsA, buildA, putCells, ↓reduceIte, reduceCtorEq, okCell, Nat.reduceAdd, Nat.reduceEqDiff, Nat.reduceSub, Nat.reduceMul, Nat.reduceLeDiff, Nat.reduceLT, Nat.reduceBEq, PV.scal, PV.scalL, SV.scal, SV.scalL, Ob.scal, PV.isCell, pure', resO]
        exact hN ⟨(0) + 1, _, _, _, _, _, _, .junk, .junk, .junk, .junk, .junk, .junk, _, _, _⟩ _ _ (by simp only; omega) (by simp only; omega) rfl rfl
    | succ i =>
      have hS3 := spI_len3 h8 (i := i + 1) (by omega)
      have h1 : ((i + 1 : Nat) : Int) < c.length := by omega
      have hw := wrap_one (i := i + 1) (by omega)
      have hg := ints_get h
      obtain ⟨n, hx⟩ : ∃ n : Nat, c.getD (i + 1) 0 = (n : Int) := ⟨(c.getD (i + 1) 0).toNat, by have := in8_get h8 (i + 1); omega⟩
      have hn8 : n ≤ 8 := by have := in8_get h8 (i + 1); omega
      have hxn : (c.getD (i + 1) 0).toNat = n := by omega
      simp only [h1, sls_len, List.length_nil, List.length_cons, ↓SP, SQ, Gam.add, stepM, callC, argC, lendO, nmBy, nmC, likeL, likeB, plainOb, offs, exL, X, F, trP, trO, stepD, stepW, newA, SV.tr, SV.trL, fz, allP, Ob.tr, loadA, cellsA, SV.cells, binA, binI, eqOut, isSl, isPt, natOf, callee, snap, SV.refsL, SV.refs, thaw, fzAll, loA, hiA, elemOf, partsA, buildA, putCells, ↓reduceIte, reduceCtorEq, okCell, Nat.reduceAdd, Nat.reduceEqDiff, Nat.reduceSub, Nat.reduceMul, Nat.reduceLeDiff, Nat.reduceLT, Nat.reduceBEq, PV.scal, PV.scalL, SV.scal, SV.scalL, Ob.scal, PV.isCell, pure', resO]
      refine loop_at (fun s : J => mkEnv [(0, .p (.sl 1 (ints c))), (2, .p .nilsl), (3, .p (.sl 1 (sls (spI c (i + 1))))), (4, si (i + 1 : Nat)), (5, .ar 16), (6, si s.i), (7, s.a), (13, sb true), (20, s.b), (28, s.c)]) (fun s => mkO [(8, none), (9, some (.arr 1 (sls [[]]))), (16, some (.arr 1 (sls (nxI c (i + 1) s.i 0)))), (36, s.o), (38, s.p), (39, none), (40, s.q), (41, none)]) (fun s => s.i ≤ (spI c (i + 1)).length) (fun s => (spI c (i + 1)).length - s.i) ⟨0, _, _, _, .junk, .junk, .junk, .junk, .junk, .junk, .junk, .junk, .junk, _, _, _⟩ (by simp) rfl (by simp only [nxI_0]; rfl) ?_
      rintro ⟨j, c1, c2, c3, c4, c5, c6, c7, c8, c9, c10, c11, c12, o1, o2, o3⟩ hj R2 hR2 hN2
      simp only at hj
      by_cases hlt : j < (spI c (i + 1)).length
      · have h2 : (j : Int) < (spI c (i + 1)).length := by omega
        have hw2 := wrap_one (i := j) (by omega)
        have hg2 := sls_get hlt
        have hbl := spI_getD_len hlt
        skip
        simp only [h2, hlt, sls_len, ↓SP, SQ, Gam.add, stepM, callC, argC, lendO, nmBy, nmC, likeL, likeB, plainOb, offs, exL, X, F, trP, trO, stepD, stepW, newA, SV.tr, SV.trL, fz, allP, Ob.tr, loadA, cellsA, SV.cells, binA, binI, eqOut, isSl, isPt, natOf, callee, snap, SV.refsL, SV.refs, thaw, fzAll, loA, hiA, elemOf, partsA, buildA, putCells, ↓reduceIte, reduceCtorEq, okCell, Nat.reduceAdd, Nat.reduceEqDiff, Nat.reduceSub, Nat.reduceMul, Nat.reduceLeDiff, Nat.reduceLT, Nat.reduceBEq, PV.scal, PV.scalL, SV.scal, SV.scalL, Ob.scal, PV.isCell, pure', resO]
        refine loop_at (fun s : J => mkEnv [(0, .p (.sl 1 (ints c))), (2, .p .nilsl), (3, .p (.sl 1 (sls (spI c (i + 1))))), (4, si (i + 1 : Nat)), (5, .ar 16), (6, si j), (7, si s.i), (13, sb true), (20, sb true), (28, s.a)]) (fun s => mkO [(8, none), (9, some (.arr 1 (sls [[]]))), (16, some (.arr 1 (sls (nxI c (i + 1) j s.i)))), (36, s.o), (38, s.p), (39, none), (40, s.q), (41, none)]) (fun s => s.i ≤ n + 1) (fun s => n + 1 - s.i) ⟨0, _, .junk, .junk, .junk, .junk, .junk, .junk, .junk, .junk, .junk, .junk, .junk, _, _, _⟩ (by simp) rfl rfl ?_
        rintro ⟨k, d1, d2, d3, d4, d5, d6, d7, d8, d9, d10, d11, d12, p1, p2, p3⟩ hk R3 hR3 hN3
        simp only at hk
        by_cases hkt : k < n + 1
        · have h3 : (k : Int) ≤ (n : Int) := by omega
          have hw3 := wrap_one (i := k) (by omega)
          have hcl : ((spI c (i + 1)).getD j []).length ≤ 1100000 := by omega
          have hr1 : ((spI c (i + 1)).getD j []).length + 1 ≤ roomA := by unfold roomA; omega
          have hnl := nxI_len h8 (i := i + 1) (j := j) (k := k) (by omega) (by omega)
          have hr2 : (nxI c (i + 1) j k).length + 1 ≤ roomA := by unfold roomA; omega
          have hst := nxI_k c (i + 1) j k
          simp only [hg, hx, hg2, hlt, h3, hw3, hcl, hr1, hr2, ints_len, sls_len, ints_app1, sls_app1, ints_cell, sls_cell, hst, isI_ints, ofI_ints, h_l1Own, c_Clone, ↓SP, SQ, Gam.add, stepM, callC, argC, lendO, nmBy, nmC, likeL, likeB, plainOb, offs, exL, X, F, trP, trO, stepD, stepW, newA, SV.tr, SV.trL, fz, allP, Ob.tr, loadA, cellsA, SV.cells, binA, binI, eqOut, isSl, isPt, natOf, callee, snap, SV.refsL, SV.refs, thaw, fzAll, loA, hiA, elemOf, partsA, buildA, putCells, ↓reduceIte, reduceCtorEq, okCell, Nat.reduceAdd, Nat.reduceEqDiff, Nat.reduceSub, Nat.reduceMul, Nat.reduceLeDiff, Nat.reduceLT, Nat.reduceBEq, PV.scal, PV.scalL, SV.scal, SV.scalL, Ob.scal, PV.isCell, pure', resO]
          exact hN3 ⟨k + 1, _, .junk, .junk, .junk, .junk, .junk, .junk, .junk, .junk, .junk, .junk, .junk, _, _, _⟩ _ _ (by simp only; omega) (by simp only; omega) rfl rfl
        · have hke : k = n + 1 := by omega
          have h3 : ¬ ((n + 1 : Nat) : Int) ≤ (n : Int) := by omega
          subst hke
          have hjj : nxI c (i + 1) j (n + 1) = nxI c (i + 1) (j + 1) 0 := by rw [← hxn]; exact nxI_j hlt
          simp only [hg, hx, h3, ↓SP, SQ, Gam.add, stepM, callC, argC, lendO, nmBy, nmC, likeL, likeB, plainOb, offs, exL, X, F, trP, trO, stepD, stepW, newA, SV.tr, SV.trL, fz, allP, Ob.tr, loadA, cellsA, SV.cells, binA, binI, eqOut, isSl, isPt, natOf, callee, snap, SV.refsL, SV.refs, thaw, fzAll, loA, hiA, elemOf, partsA, buildA, putCells, ↓reduceIte, reduceCtorEq, okCell, Nat.reduceAdd, Nat.reduceEqDiff, Nat.reduceSub, Nat.reduceMul, Nat.reduceLeDiff, Nat.reduceLT, Nat.reduceBEq, PV.scal, PV.scalL, SV.scal, SV.scalL, Ob.scal, PV.isCell, pure', resO]
          refine hR3 _ _ _ (by intro h; cases h) ?_
          simp only [hw2, hjj, ↓SP, SQ, Gam.add, stepM, callC, argC, lendO, nmBy, nmC, likeL, likeB, plainOb, offs, exL, X, F, trP, trO, stepD, stepW, newA, SV.tr, SV.trL, fz, allP, Ob.tr, loadA, cellsA, SV.cells, binA, binI, eqOut, isSl, isPt, natOf, callee, snap, SV.refsL, SV.refs, thaw, fzAll, loA, hiA, elemOf, partsA, buildA, putCells, ↓reduceIte, reduceCtorEq, okCell, Nat.reduceAdd, Nat.reduceEqDiff, Nat.reduceSub, Nat.reduceMul, Nat.reduceLeDiff, Nat.reduceLT, Nat.reduceBEq, PV.scal, PV.scalL, SV.scal, SV.scalL, Ob.scal, PV.isCell, pure', resO]
          exact hN2 ⟨j + 1, _, _, _, .junk, .junk, .junk, .junk, .junk, .junk, .junk, .junk, .junk, _, _, _⟩ _ _ (by simp only; omega) (by simp only; omega) rfl rfl
      · have hje : j = (spI c (i + 1)).length := by omega
        have h2 : ¬ (j : Int) < (spI c (i + 1)).length := by omega
        subst hje
        have hend := nxI_end c (i + 1)
        simp only [h2, sls_len, ↓SP, SQ, Gam.add, stepM, callC, argC, lendO, nmBy, nmC, likeL, likeB, plainOb, offs, exL, X, F, trP, trO, stepD, stepW, newA, SV.tr, SV.trL, fz, allP, Ob.tr, loadA, cellsA, SV.cells, binA, binI, eqOut, isSl, isPt, natOf, callee, snap, SV.refsL, SV.refs, thaw, fzAll, loA, hiA, elemOf, partsA, buildA, putCells, ↓reduceIte, reduceCtorEq, okCell, Nat.reduceAdd, Nat.reduceEqDiff, Nat.reduceSub, Nat.reduceMul, Nat.reduceLeDiff, Nat.reduceLT, Nat.reduceBEq, PV.scal, PV.scalL, SV.scal, SV.scalL, Ob.scal, PV.isCell, pure', resO]
        refine hR2 _ _ _ (by intro h; cases h) ?_
        simp only [hw, hend, ↓SP, SQ, Gam.add, stepM, callC, argC, lendO, nmBy, nmC, likeL, likeB, plainOb, offs, exL, X, F, trP, trO, stepD, stepW, newA, SV.tr, SV.trL, fz, allP, Ob.tr, loadA, cellsA, SV.cells, binA, binI, eqOut, isSl, isPt, natOf, callee, snap, SV.refsL, SV.refs, thaw, fzAll, loA, hiA, elemOf, partsA, buildA, putCells, ↓reduceIte, reduceCtorEq, okCell, Nat.reduceAdd, Nat.reduceEqDiff, Nat.reduceSub, Nat.reduceMul, Nat.reduceLeDiff, Nat.reduceLT, Nat.reduceBEq, PV.scal, PV.scalL, SV.scal, SV.scalL, Ob.scal, PV.isCell, pure', resO]
        exact hN ⟨(i + 1) + 1, _, _, _, _, _, _, .junk, .junk, .junk, .junk, .junk, .junk, _, _, _⟩ _ _ (by simp only; omega) (by simp only; omega) rfl rfl
  · have he : i = c.length := by omega
    have h1 : ¬ (i : Int) < c.length := by omega
    cases i with
    | zero =>
      simp only [h1, ↓SP, SQ, Gam.add, stepM, callC, argC, lendO, nmBy, nmC, likeL, likeB, plainOb, offs, exL, X, F, trP, trO, stepD, stepW, newA, SV.tr, SV.trL, fz, allP, Ob.tr, loadA, cellsA, SV.cells, binA, binI, eqOut, isSl, isPt, natOf, callee, snap, SV.refsL, SV.refs, thaw, fzAll, loA, hiA, elemOf, partsA, buildA, putCells, ↓reduceIte, reduceCtorEq, okCell, Nat.reduceAdd, Nat.reduceEqDiff, Nat.reduceSub, Nat.reduceMul, Nat.reduceLeDiff, Nat.reduceLT, Nat.reduceBEq, PV.scal, PV.scalL, SV.scal, SV.scalL, Ob.scal, PV.isCell, pure', resO]
      refine hR _ _ _ (by intro h; cases h) ?_
      simp only [↓SP, SQ, Gam.add, stepM, callC, argC, lendO, nmBy, nmC, likeL, likeB, plainOb, offs, exL, X, F, trP, trO, stepD, stepW, newA, SV.tr, SV.trL, fz, allP, Ob.tr, loadA, cellsA, SV.cells, binA, binI, eqOut, isSl, isPt, natOf, callee, snap, SV.refsL, SV.refs, thaw, fzAll, loA, hiA, elemOf, partsA, buildA, putCells, ↓reduceIte, reduceCtorEq, okCell, Nat.reduceAdd, Nat.reduceEqDiff, Nat.reduceSub, Nat.reduceMul, Nat.reduceLeDiff, Nat.reduceLT, Nat.reduceBEq, PV.scal, PV.scalL, SV.scal, SV.scalL, Ob.scal, PV.isCell, pure', resO]
      have hs : splL c = [[]] := by rw [splL, ← he]; rfl
      refine finA_gen [9] trivial (by simp [retA, rvA, mkE_cons, mk_nil, mkO_cons, mkO_nil, loadA, SV.tr, SV.trL, nmF, rn_nil, rn_cons1, rn_cons2, plainOb, SV.refsL, SV.refs, Ob.refs, X, F, List.range_succ, mkO, setO_mk]; rfl) ?_ ?_ ?_ ?_ ?_ ?_ ?_ <;> simp [hs, retA, rvA, mkE_cons, mk_nil, mkO_cons, mkO_nil, loadA, SV.tr, SV.trL, nmF, rn_nil, rn_cons1, rn_cons2, plainOb, SV.refsL, SV.refs, Ob.refs, X, F, List.range_succ, mkO, setO_mk]
    | succ i =>
      simp only [h1, ↓SP, SQ, Gam.add, stepM, callC, argC, lendO, nmBy, nmC, likeL, likeB, plainOb, offs, exL, X, F, trP, trO, stepD, stepW, newA, SV.tr, SV.trL, fz, allP, Ob.tr, loadA, cellsA, SV.cells, binA, binI, eqOut, isSl, isPt, natOf, callee, snap, SV.refsL, SV.refs, thaw, fzAll, loA, hiA, elemOf, partsA, buildA, putCells, ↓reduceIte, reduceCtorEq, okCell, Nat.reduceAdd, Nat.reduceEqDiff, Nat.reduceSub, Nat.reduceMul, Nat.reduceLeDiff, Nat.reduceLT, Nat.reduceBEq, PV.scal, PV.scalL, SV.scal, SV.scalL, Ob.scal, PV.isCell, pure', resO]
      refine hR _ _ _ (by intro h; cases h) ?_
      simp only [↓SP, SQ, Gam.add, stepM, callC, argC, lendO, nmBy, nmC, likeL, likeB, plainOb, offs, exL, X, F, trP, trO, stepD, stepW, newA, SV.tr, SV.trL, fz, allP, Ob.tr, loadA, cellsA, SV.cells, binA, binI, eqOut, isSl, isPt, natOf, callee, snap, SV.refsL, SV.refs, thaw, fzAll, loA, hiA, elemOf, partsA, buildA, putCells, ↓reduceIte, reduceCtorEq, okCell, Nat.reduceAdd, Nat.reduceEqDiff, Nat.reduceSub, Nat.reduceMul, Nat.reduceLeDiff, Nat.reduceLT, Nat.reduceBEq, PV.scal, PV.scalL, SV.scal, SV.scalL, Ob.scal, PV.isCell, pure', resO]
      have hs : splL c = spI c (i + 1) := by rw [splL, ← he]
      refine finA_gen [16] trivial (by simp [retA, rvA, mkE_cons, mk_nil, mkO_cons, mkO_nil, loadA, SV.tr, SV.trL, nmF, rn_nil, rn_cons1, rn_cons2, plainOb, SV.refsL, SV.refs, Ob.refs, X, F, List.range_succ, mkO, setO_mk]; rfl) ?_ ?_ ?_ ?_ ?_ ?_ ?_ <;> simp [hs, retA, rvA, mkE_cons, mk_nil, mkO_cons, mkO_nil, loadA, SV.tr, SV.trL, nmF, rn_nil, rn_cons1, rn_cons2, plainOb, SV.refsL, SV.refs, Ob.refs, X, F, List.range_succ, mkO, setO_mk]
def tabB : List (List (List Nat)) := [[[0, 0, 1, 2, 2, 3, 3, 3, 3], [0, 2, 3, 3, 3, 4, 4, 4], [3, 4, 4, 4, 4, 4, 4], [5, 5, 5, 5, 5, 5], [5, 5, 5, 5, 5], [6, 6, 6, 6], [6, 6, 6], [6, 6], [6]], [[0, 3, 4, 4, 4, 4, 5, 5], [4, 5, 5, 5, 5, 5, 5], [6, 6, 6, 6, 6, 6], [6, 6, 6, 6, 6], [6, 6, 6, 6], [7, 7, 7], [7, 7], [7]], [[5, 6, 6, 6, 6, 6, 6], [7, 7, 7, 7, 7, 7], [7, 7, 7, 7, 7], [7, 7, 7, 7], [7, 7, 7], [7, 7], [7]], [[8, 8, 8, 8, 8, 8], [8, 8, 8, 8, 8], [8, 8, 8, 8], [8, 8, 8], [8, 8], [8]], [[8, 8, 8, 8, 8], [8, 8, 8, 8], [8, 8, 8], [8, 8], [8]], [[9, 9, 9, 9], [9, 9, 9], [9, 9], [9]], [[9, 9, 9], [9, 9], [9]], [[9, 9], [9]], [[9]]]
def tabO : List (List (List Nat)) := [[[0, 0, 1, 2, 2, 3, 3, 3, 3], [0, 1, 2, 2, 3, 3, 3, 3], [2, 2, 3, 3, 3, 3, 4], [3, 3, 3, 3, 4, 4], [4, 4, 4, 4, 4], [4, 4, 4, 4], [4, 4, 4], [5, 5], [5]], [[0, 1, 2, 2, 3, 3, 3, 3], [2, 2, 3, 3, 3, 3, 4], [3, 3, 3, 3, 4, 4], [4, 4, 4, 4, 4], [4, 4, 4, 4], [4, 4, 4], [5, 5], [5]], [[3, 3, 3, 3, 3, 4, 4], [3, 3, 4, 4, 4, 4], [4, 4, 4, 4, 4], [4, 4, 4, 4], [5, 5, 5], [5, 5], [5]], [[4, 4, 4, 4, 4, 4], [4, 4, 4, 4, 4], [5, 5, 5, 5], [5, 5, 5], [5, 5], [5]], [[5, 5, 5, 5, 5], [5, 5, 5, 5], [5, 5, 5], [5, 5], [5]], [[5, 5, 5, 5], [5, 5, 5], [6, 6], [6]], [[6, 6, 6], [6, 6], [6]], [[6, 6], [6]], [[6]]]
/-- The need of a triple, by a table. -/
def ntT (tab : List (List (List Nat))) : List Int → Nat
  | [a, b, c] => ((tab.getD a.toNat []).getD b.toNat []).getD c.toNat 0
  | _ => 0
def rwC (a b k : Nat) : List (List Int) := (List.range k).map fun c : Nat => [(a : Int), (b : Int), (c : Int)]
def rwB (a k : Nat) : List (List Int) := (List.range k).flatMap fun b => rwC a b (9 - a - b)
def rwA (k : Nat) : List (List Int) := (List.range k).flatMap fun a => rwB a (9 - a)
/-- All triples of counts. -/
def allT : List (List Int) := rwA 9
/-- Whether a list of three is one of them. -/
def inT : List Int → Bool
  | [a, b, c] => decide (0 ≤ a) && decide (0 ≤ b) && decide (0 ≤ c) && decide (a + b + c ≤ 8)
  | _ => false
theorem mem_rwC {a b k : Nat} {t : List Int} : t ∈ rwC a b k ↔ ∃ c : Nat, c < k ∧ t = [(a : Int), (b : Int), (c : Int)] := by
  simp only [rwC, List.mem_map, List.mem_range]
  exact ⟨fun ⟨c, h, e⟩ => ⟨c, h, e.symm⟩, fun ⟨c, h, e⟩ => ⟨c, h, e.symm⟩⟩
theorem mem_rwB {a k : Nat} {t : List Int} : t ∈ rwB a k ↔ ∃ b c : Nat, b < k ∧ c < 9 - a - b ∧ t = [(a : Int), (b : Int), (c : Int)] := by
  simp only [rwB, List.mem_flatMap, List.mem_range, mem_rwC]
  exact ⟨fun ⟨b, h, c, h2, e⟩ => ⟨b, c, h, h2, e⟩, fun ⟨b, c, h, h2, e⟩ => ⟨b, h, c, h2, e⟩⟩
theorem mem_rwA {k : Nat} {t : List Int} : t ∈ rwA k ↔ ∃ a b c : Nat, a < k ∧ b < 9 - a ∧ c < 9 - a - b ∧ t = [(a : Int), (b : Int), (c : Int)] := by
  simp only [rwA, List.mem_flatMap, List.mem_range, mem_rwB]
  exact ⟨fun ⟨a, h, b, c, h2, h3, e⟩ => ⟨a, b, c, h, h2, h3, e⟩, fun ⟨a, b, c, h, h2, h3, e⟩ => ⟨a, h, b, c, h2, h3, e⟩⟩
theorem mem_allT {t : List Int} : t ∈ allT ↔ inT t = true := by
  rw [allT, mem_rwA]
  constructor
  · rintro ⟨a, b, c, h1, h2, h3, rfl⟩
    simp only [inT, Bool.and_eq_true, decide_eq_true_eq]
    omega
  · intro h
    unfold inT at h
    split at h
    · rename_i a b c
      simp only [Bool.and_eq_true, decide_eq_true_eq] at h
      exact ⟨a.toNat, b.toNat, c.toNat, by omega, by omega, by omega, by congr 1; omega; congr 1; omega; congr 1; omega⟩
    · cases h
theorem allT_nodup : allT.Nodup := by decide +kernel
/-- The counts to which yes leads. -/
def yb (both : Bool) (c s : List Int) : List Int := if both = true then yesL c s else s
def told (t : List Int) : Bool := decide (t.sum ≤ 1)
/-- Whether a table tells the needs. -/
def chkN (both : Bool) (nt : List Int → Nat) (t : List Int) : Bool :=
  ((splL t).all fun s => inT (pad3 (yb both t s)) && inT (pad3 (noL t s)) && decide (nt (pad3 t) ≤ max (nt (pad3 (yb both t s))) (nt (pad3 (noL t s))) + 1)) &&
    ((splL t).any fun s => decide (max (nt (pad3 (yb both t s))) (nt (pad3 (noL t s))) + 1 ≤ nt (pad3 t)))
def chkT (both : Bool) (nt : List Int → Nat) (t : List Int) : Bool := if told t = true then nt (pad3 t) == 0 else decide (1 ≤ nt (pad3 t)) && chkN both nt t
theorem chkB3 : (allT.all fun t => chkT true (ntT tabB) t) = true := by decide +kernel
theorem chkO3 : (allT.all fun t => chkT false (ntT tabO) t) = true := by decide +kernel
theorem inT_len {t : List Int} (h : inT t = true) : t.length = 3 := by
  unfold inT at h; split at h
  · rfl
  · cases h
theorem inT_in8 {t : List Int} (h : inT t = true) : in8 t = true := by
  unfold inT at h; split at h
  · rename_i a b c
    simp only [Bool.and_eq_true, decide_eq_true_eq] at h
    simp only [in8, List.all_cons, List.all_nil, Bool.and_true, Bool.and_eq_true, decide_eq_true_eq]
    omega
  · cases h
def lev (nt : List Int → Nat) (k : Nat) : List (List Int) := allT.filter fun t => nt t == k
def openL (nt : List Int → Nat) (k : Nat) : List (List Int) := allT.filter fun t => decide (k < nt t)
def eL (nt : List Int → Nat) : Nat → List (List Int × Int)
  | 0 => (lev nt 0).map fun t => (t, 0)
  | k + 1 => eL nt k ++ (lev nt (k + 1)).map fun t => (t, ((k + 1 : Nat) : Int))
theorem lk_map {L : List (List Int)} {v : Int} {t : List Int} : lk t (L.map fun t => (t, v)) = if t ∈ L then some v else none := by
  induction L with
  | nil => simp [lk]
  | cons x r ih =>
    simp only [List.map_cons, lk, ih, List.mem_cons]
    by_cases h : t = x
    · simp [h]
    · simp [h]
theorem lk_eL {nt : List Int → Nat} {t : List Int} (ht : t ∈ allT) : ∀ k, lk t (eL nt k) = if nt t ≤ k then some (nt t : Int) else none
  | 0 => by
    simp only [eL, lk_map, lev, List.mem_filter, beq_iff_eq]
    by_cases h : nt t = 0
    · simp [ht, h]
    · simp [h]
  | k + 1 => by
    simp only [eL, lk_app, lk_eL ht k]
    by_cases h : nt t ≤ k
    · simp only [if_pos h]; rw [if_pos (by omega)]
    · simp only [if_neg h, lk_map, lev, List.mem_filter, beq_iff_eq]
      by_cases h2 : nt t = k + 1
      · simp [ht, h2]
      · rw [if_neg (fun e => h2 e.2), if_neg (by omega)]
theorem all3_map {L : List (List Int)} {v : Int} (h : ∀ t ∈ L, t.length = 3) : all3 (L.map fun t => (t, v)) = true := by
  simp only [all3, List.all_map, List.all_eq_true]
  intro t ht
  simp [h t ht]
theorem allT_len {t : List Int} (h : t ∈ allT) : t.length = 3 := inT_len (mem_allT.1 h)
theorem lev_len {nt : List Int → Nat} {k : Nat} : ∀ t ∈ lev nt k, t.length = 3 := fun t h => allT_len (List.mem_filter.1 h).1
theorem all3_eL (nt : List Int → Nat) : ∀ k, all3 (eL nt k) = true
  | 0 => all3_map lev_len
  | k + 1 => all3_app (all3_eL nt k) (all3_map lev_len)
theorem al3_of {L : List (List Int)} (h : ∀ t ∈ L, t ∈ allT) : al3 L = true := by
  rw [al3, List.all_eq_true]; intro t ht
  simp [allT_len (h t ht)]
/-- What a table of needs must do. -/
structure NT (both : Bool) (nt : List Int → Nat) (R : Nat) : Prop where
  zero : ∀ t ∈ allT, (nt t = 0 ↔ told t = true)
  wit : ∀ t ∈ allT, told t = false → ∀ k, ((splL t).any fun s => decide (nt (yb both t s) ≤ k) && decide (nt (noL t s) ≤ k)) = decide (nt t ≤ k + 1)
  inn : ∀ t ∈ allT, told t = false → ∀ s ∈ splL t, yb both t s ∈ allT ∧ noL t s ∈ allT
  top : ∀ t ∈ allT, nt t ≤ R
  non : ∀ k, k < R → lev nt (k + 1) ≠ []
theorem pad3_len_id {l : List Int} (h : l.length = 3) : pad3 l = l := by simp [pad3, h]
theorem chk_wit {both : Bool} {nt : List Int → Nat} {c : List Int} (h : chkN both nt c = true) (k : Nat) : ((splL c).any fun s => decide (nt (pad3 (yb both c s)) ≤ k) && decide (nt (pad3 (noL c s)) ≤ k)) = decide (nt (pad3 c) ≤ k + 1) := by
  simp only [chkN, Bool.and_eq_true, List.all_eq_true, List.any_eq_true, decide_eq_true_eq] at h
  obtain ⟨h1, s0, hs0, h2⟩ := h
  rw [Bool.eq_iff_iff, List.any_eq_true, decide_eq_true_eq]
  constructor
  · rintro ⟨s, hs, hb⟩
    simp only [Bool.and_eq_true, decide_eq_true_eq] at hb
    have := (h1 s hs).2
    omega
  · intro hk
    refine ⟨s0, hs0, ?_⟩
    simp only [Bool.and_eq_true, decide_eq_true_eq]
    omega
theorem chk_inn {both : Bool} {nt : List Int → Nat} {c : List Int} (h : chkN both nt c = true) {s : List Int} (hs : s ∈ splL c) : pad3 (yb both c s) ∈ allT ∧ pad3 (noL c s) ∈ allT := by
  simp only [chkN, Bool.and_eq_true, List.all_eq_true, List.any_eq_true, decide_eq_true_eq] at h
  have := (h.1 s hs).1
  exact ⟨mem_allT.2 this.1, mem_allT.2 this.2⟩
theorem spl_len {c s : List Int} (hs : s ∈ splL c) : s.length = c.length := spI_mem_len hs
theorem NT.of {both : Bool} {nt : List Int → Nat} {R : Nat} (h : (allT.all fun t => chkT both nt t) = true) (h2 : (allT.all fun t => decide (nt t ≤ R)) = true) (h3 : ((List.range R).all fun k => allT.any fun t => nt t == k + 1) = true) : NT both nt R := by
  have hp : ∀ t ∈ allT, pad3 t = t := fun t ht => pad3_len_id (allT_len ht)
  have hch : ∀ t ∈ allT, told t = false → chkN both nt t = true := fun t ht hn => by
    have := List.all_eq_true.1 h t ht
    simp only [chkT, hn, Bool.false_eq_true, if_false, Bool.and_eq_true] at this
    exact this.2
  have hy : ∀ t ∈ allT, ∀ s ∈ splL t, pad3 (yb both t s) = yb both t s ∧ pad3 (noL t s) = noL t s := fun t ht s hs => by
    have hl := spl_len hs
    rw [allT_len ht] at hl
    refine ⟨pad3_len_id ?_, pad3_len_id (by rw [noL_len, hl])⟩
    cases both
    · exact hl
    · simp only [yb, if_true]; rw [yesL_len, hl]
  refine ⟨fun t ht => ?_, fun t ht hn k => ?_, fun t ht hn s hs => ?_, fun t ht => by simpa using List.all_eq_true.1 h2 t ht, fun k hk => ?_⟩
  · have := List.all_eq_true.1 h t ht
    simp only [chkT, hp t ht] at this
    by_cases hn : told t = true
    · simp only [hn, if_true, beq_iff_eq] at this
      exact ⟨fun _ => hn, fun _ => this⟩
    · simp only [hn, Bool.false_eq_true, if_false, Bool.and_eq_true, decide_eq_true_eq] at this
      exact ⟨fun e => by omega, fun e => absurd e hn⟩
  · have := chk_wit (hch t ht hn) k
    rw [hp t ht] at this
    rw [← this]
    rw [Bool.eq_iff_iff, List.any_eq_true, List.any_eq_true]
    constructor
    · rintro ⟨s, hs, hb⟩
      exact ⟨s, hs, by rw [(hy t ht s hs).1, (hy t ht s hs).2]; exact hb⟩
    · rintro ⟨s, hs, hb⟩
      exact ⟨s, hs, by rw [(hy t ht s hs).1, (hy t ht s hs).2] at hb; exact hb⟩
  · have := chk_inn (hch t ht hn) hs
    rw [(hy t ht s hs).1, (hy t ht s hs).2] at this
    exact this
  · have := List.all_eq_true.1 h3 k (List.mem_range.2 hk)
    obtain ⟨t, ht, e⟩ := List.any_eq_true.1 this
    intro e2
    have : t ∈ lev nt (k + 1) := List.mem_filter.2 ⟨ht, e⟩
    rw [e2] at this; simp at this
theorem ntB : NT true (ntT tabB) 9 := NT.of chkB3 (by decide +kernel) (by decide +kernel)
theorem ntO : NT false (ntT tabO) 6 := NT.of chkO3 (by decide +kernel) (by decide +kernel)
/-- What a round finds: of those that are open, the next level. -/
theorem open_next {nt : List Int → Nat} {k : Nat} : (openL nt k).filter (fun t => decide (nt t ≤ k + 1)) = lev nt (k + 1) := by
  simp only [openL, lev, List.filter_filter]
  apply List.filter_congr
  intro t _
  rw [Bool.eq_iff_iff]
  simp only [Bool.and_eq_true, decide_eq_true_eq, beq_iff_eq]
  omega
theorem open_keep {nt : List Int → Nat} {k : Nat} : (openL nt k).filter (fun t => !decide (t ∈ lev nt (k + 1))) = openL nt (k + 1) := by
  simp only [openL, List.filter_filter]
  apply List.filter_congr
  intro t ht
  have : (t ∈ lev nt (k + 1)) ↔ nt t = k + 1 := by simp [lev, ht]
  rw [Bool.eq_iff_iff]
  simp only [Bool.and_eq_true, decide_eq_true_eq, Bool.not_eq_true', decide_eq_false_iff_not, this]
  omega
theorem kpI_filter {d : List Int} {q : List Int → Bool} : ∀ (L : List (List Int)) (j : Nat), j ≤ L.length → kpI d L (L.map q) j = (L.take j).filter fun t => !q t
  | L, 0, _ => by simp [kpI]
  | L, j + 1, h => by
    have ih := kpI_filter (d := d) (q := q) L j (by omega)
    have hb : (L.map q).getD j false = q (L.getD j d) := by rw [getD_lt (by rw [List.length_map]; omega), getD_lt (by omega)]; simp
    rw [take_one L j d (by omega), List.filter_append]
    cases hq : q (L.getD j d) with
    | true => rw [kpI_no (by rw [hb, hq]), ih]; simp only [List.filter_cons, hq, List.filter_nil, Bool.not_true, Bool.false_eq_true, if_false, List.append_nil]
    | false => rw [kpI_yes (by rw [hb, hq]), ih]; simp only [List.filter_cons, hq, List.filter_nil, Bool.not_false, if_true]
theorem openL_sub {nt : List Int → Nat} {k : Nat} : ∀ t ∈ openL nt k, t ∈ allT := fun t h => (List.mem_filter.1 h).1
theorem openL_len (nt : List Int → Nat) (k : Nat) : (openL nt k).length ≤ 165 := by
  have h1 := List.length_filter_le (fun t => decide (k < nt t)) allT
  have h2 : allT.length = 165 := by decide +kernel
  simp only [openL]; omega
theorem lev_len165 (nt : List Int → Nat) (k : Nat) : (lev nt k).length ≤ 165 := by
  have h1 := List.length_filter_le (fun t => nt t == k) allT
  have h2 : allT.length = 165 := by decide +kernel
  simp only [lev]; omega
/-- What stands behind the open ones in the array. -/
def restZ (nt : List Int → Nat) : Nat → List (List Int)
  | 0 => []
  | k + 1 => List.replicate ((openL nt k).length - (openL nt (k + 1)).length) [0, 0, 0] ++ restZ nt k
theorem openL_anti (nt : List Int → Nat) (k : Nat) : (openL nt (k + 1)).length ≤ (openL nt k).length := by
  rw [← open_keep]; exact List.length_filter_le _ _
theorem restZ_len (nt : List Int → Nat) : ∀ k, (openL nt k).length + (restZ nt k).length = (openL nt 0).length
  | 0 => by simp [restZ]
  | k + 1 => by
    have := restZ_len nt k
    have h2 := openL_anti nt k
    simp only [restZ, List.length_append, List.length_replicate]
    omega
theorem restZ_al3 (nt : List Int → Nat) : ∀ k, al3 (restZ nt k) = true
  | 0 => rfl
  | k + 1 => al3_app (by rw [al3, List.all_eq_true]; intro x hx; rw [(List.mem_replicate.1 hx).2]; rfl) (restZ_al3 nt k)
theorem open_ne {both : Bool} {nt : List Int → Nat} {R k : Nat} (N : NT both nt R) (hk : k < R) : 0 < (openL nt k).length := by
  have h := N.non k hk
  rcases hl : lev nt (k + 1) with _ | ⟨t, r⟩
  · exact absurd hl h
  · have : t ∈ lev nt (k + 1) := by rw [hl]; simp
    simp only [lev, List.mem_filter, beq_iff_eq] at this
    exact List.length_pos_of_mem (List.mem_filter.2 ⟨this.1, by simp; omega⟩)
theorem open_end {both : Bool} {nt : List Int → Nat} {R : Nat} (N : NT both nt R) : openL nt R = [] := by
  rw [openL, List.filter_eq_nil_iff]
  intro t ht
  have := N.top t ht
  simp; omega
theorem open_told {both : Bool} {nt : List Int → Nat} {R k : Nat} (N : NT both nt R) {t : List Int} (h : t ∈ openL nt k) : told t = false := by
  simp only [openL, List.mem_filter, decide_eq_true_eq] at h
  have := N.zero t h.1
  cases ht : told t with
  | false => rfl
  | true => have := this.2 ht; omega
theorem told_eq {both : Bool} {nt : List Int → Nat} {R : Nat} (N : NT both nt R) : allT.filter told = lev nt 0 := by
  simp only [lev]
  apply List.filter_congr
  intro t ht
  have := N.zero t ht
  rw [Bool.eq_iff_iff]
  simp [this]
theorem untold_eq {both : Bool} {nt : List Int → Nat} {R : Nat} (N : NT both nt R) : allT.filter (fun t => !told t) = openL nt 0 := by
  simp only [openL]
  apply List.filter_congr
  intro t ht
  have := N.zero t ht
  rw [Bool.eq_iff_iff]
  simp only [Bool.not_eq_true', decide_eq_true_eq]
  rw [Bool.eq_false_iff, ne_eq, ← this]; omega
end Go.Proofs.Ytihpfhdkjlphhaa.Pam
