/- A part of the proof that stands in this folder: a small machine whose steps are shown to be the steps of the model, or walks of functions by it. No condition of its own. -/
import Derived.Test.YtpobnchalcokoaaARD
set_option linter.unusedVariables false
set_option linter.unusedSimpArgs false
namespace Go.Proofs.Ytpobnchalcokoaa.Pam
open Go
def hasB (s : ByteArray) (b : UInt8) : Bool := s.data.toList.contains b
theorem bAt_data {s : ByteArray} {i : Nat} (h : i < s.size) : bAt s i = s.data.toList[i]'(by simpa using h) := by
  unfold bAt
  rw [getElem?_pos s i h]
  rfl
theorem hasB_iff {s : ByteArray} {b : UInt8} : hasB s b = true ↔ ∃ k, k < s.size ∧ bAt s k = b := by
  unfold hasB
  rw [List.contains_iff_mem, List.mem_iff_getElem]
  constructor
  · rintro ⟨k, hk, he⟩
    have hk' : k < s.size := by simpa using hk
    exact ⟨k, hk', by rw [bAt_data hk', he]⟩
  · rintro ⟨k, hk, he⟩
    exact ⟨k, by simpa using hk, by rw [← bAt_data hk, he]⟩
theorem hasB_no {s : ByteArray} {b : UInt8} (h : ∀ k, k < s.size → bAt s k ≠ b) : hasB s b = false := by
  cases he : hasB s b with
  | false => rfl
  | true =>
    obtain ⟨k, hk, hb⟩ := hasB_iff.mp he
    exact absurd hb (h k hk)
theorem u8_back (b : UInt8) : (b.toNat : Int).toNat.toUInt8 = b := by
  rw [Int.toNat_natCast]
  exact UInt8.toNat.inj (by rw [show b.toNat.toUInt8 = UInt8.ofNat b.toNat from rfl]; simp)
theorem u8_back' (b : UInt8) : b.toNat.toUInt8 = b := by
  have := u8_back b
  rwa [Int.toNat_natCast] at this
theorem ib_has : ∀ (l : List UInt8) (b : UInt8), decide (Lib.indexByte l b ≥ 0) = l.contains b
  | [], b => rfl
  | a :: l, b => by
    have ih := ib_has l b
    have hge := Lib.indexByte_ge l b
    unfold Lib.indexByte
    by_cases h : a = b
    · subst h
      simp
    · have h' : (a == b) = false := by simp [h]
      have h'' : (b == a) = false := by simp; exact fun e => h e.symm
      simp only [h', List.contains_cons, h'', Bool.false_or]
      rw [← ih]
      by_cases h2 : Lib.indexByte l b = -1
      · simp [h2]
      · have : (Lib.indexByte l b == -1) = false := by simp [h2]
        simp only [this, Bool.false_eq_true, if_false]
        have h3 : Lib.indexByte l b ≥ 0 := by omega
        simp only [h3, decide_true, decide_eq_true_eq]
        omega
def a_stands : AFn := ⟨2, 
  .seq (.reg [⟨some 4, none, .d (.mv (.c (.bool false)))⟩])
  (.seq (.seq (.reg [⟨some 5, none, .d (.mv (.c (.int .i64 0)))⟩])
  (.block 0 (.loop (.seq (.seq (.reg [⟨some 6, none, .d (.mv (.t 5))⟩,
      ⟨some 7, none, .d (.mv (.t 0))⟩,
      ⟨some 8, none, .d (.lenS (.t 7))⟩,
      ⟨some 9, none, .d (.bin .arith .lss (.t 6) (.t 8))⟩])
    (.cond (.t 9) (.skip) (.exit 0)))
    (.seq (.block 1 (.seq (.reg [⟨some 12, none, .d (.mv (.t 0))⟩,
       ⟨some 13, none, .d (.mv (.t 5))⟩,
       ⟨some 14, none, .d (.idxS (.t 12) (.t 13))⟩,
       ⟨some 15, none, .d (.mv (.t 1))⟩,
       ⟨some 16, none, .d (.bin .arith .eql (.t 14) (.t 15))⟩])
     (.cond (.t 16) (.seq (.reg [⟨some 4, none, .d (.mv (.c (.bool true)))⟩])
      (.ret)) (.skip))))
    (.reg [⟨some 10, none, .d (.mv (.t 5))⟩,
      ⟨some 11, none, .d (.bin .arith .add (.t 10) (.c (.int .i64 1)))⟩,
      ⟨some 5, none, .d (.mv (.t 11))⟩]))))))
  (.seq (.reg [⟨some 4, none, .d (.mv (.c (.bool false)))⟩])
  (.ret))), [.tmp 4]⟩
def n_stands : Nat → Option Ann := fun _ => none
abbrev k_stands : List Nat := [0, 1, 4, 5, 9, 16]
abbrev o_stands : List Nat := []
def c_stands : Con := pure' fun
  | [.p (.str s), .p (.int .u8 c)] => if s.size ≤ 5000 ∧ 0 ≤ c ∧ c ≤ 255 then some (.p (.bool (hasB s c.toNat.toUInt8)), []) else none
  | _ => none
theorem s_stands {P : Program} (hm : P.follows .mixedOrders = true) {Γ : Gam} (hΓ : GS P Γ) {n : FuncId} (is : Is P n a_stands)  : Says P n c_stands := by
  refine Says.pure fun args r fs h => ?_
  split at h
  case h_2 => cases h
  rename_i s c
  split at h
  case isFalse => cases h
  rename_i hc
  obtain ⟨hs, h0, h1⟩ := hc
  simp only [Option.some.injEq, Prod.mk.injEq] at h
  obtain ⟨rfl, rfl⟩ := h
  obtain ⟨b, rfl⟩ : ∃ b : UInt8, c = (b.toNat : Int) := ⟨UInt8.ofNat c.toNat, by rw [UInt8.toNat_ofNat']; omega⟩
  rw [u8_back]
  refine is.go hm hΓ k_stands o_stands (by simp [a_stands]) ?_
  simp only [a_stands, List.zipIdx_cons, List.zipIdx_nil, ↓SP, SQ, Gam.add, stepM, callC, argC, lendO, nmBy, nmC, likeL, likeB, plainOb, offs, exL, X, F, trP, trO, stepD, stepW, newA, SV.tr, SV.trL, fz, allP, Ob.tr, loadA, cellsA, SV.cells, binA, binI, eqOut, isSl, isPt, natOf, callee, snap, SV.refsL, SV.refs, thaw, fzAll, loA, hiA, elemOf, partsA, buildA, putCells, ↓reduceIte, reduceCtorEq, okCell, Nat.reduceAdd, Nat.reduceEqDiff, Nat.reduceSub, Nat.reduceMul, Nat.reduceLeDiff, Nat.reduceLT, Nat.reduceBEq, PV.scal, PV.scalL, SV.scal, SV.scalL, Ob.scal, PV.isCell, pure', resO]
  refine loop_at (fun t : Nat × SV × SV => mkEnv [(0, .p (.str s)), (1, .p (.int .u8 b.toNat)), (4, .p (.bool false)), (5, si t.1), (9, t.2.1), (16, t.2.2)])
    (fun t => mkO [])
    (fun t => t.1 ≤ s.size ∧ ∀ k, k < t.1 → bAt s k ≠ b) (fun t => s.size - t.1) (0, .junk, .junk) (by simp) (by simp) (by simp) ?_
  rintro ⟨i, x9, x16⟩ ⟨hi, hk⟩ R hR hN
  simp only at hi hk
  by_cases hlt : i < s.size
  · have hgt : (i : Int) < s.size := by omega
    have hw : IntKind.i64.wrap ((i : Int) + 1) = ((i + 1 : Nat) : Int) := by rw [wrap64 (by omega) (by omega)]; omega
    have hb := bget hlt
    have hi0 : (0 : Int) ≤ i := by omega
    by_cases he : bAt s i = b
    · have hh : hasB s b = true := hasB_iff.mpr ⟨i, hlt, he⟩
      simp only [hgt, hb, hi0, he, hh, Int.toNat_natCast, ↓SP, SQ, Gam.add, stepM, callC, argC, lendO, nmBy, nmC, likeL, likeB, plainOb, offs, exL, X, F, trP, trO, stepD, stepW, newA, SV.tr, SV.trL, fz, allP, Ob.tr, loadA, cellsA, SV.cells, binA, binI, eqOut, isSl, isPt, natOf, callee, snap, SV.refsL, SV.refs, thaw, fzAll, loA, hiA, elemOf, partsA, buildA, putCells, ↓reduceIte, reduceCtorEq, okCell, Nat.reduceAdd, Nat.reduceEqDiff, Nat.reduceSub, Nat.reduceMul, Nat.reduceLeDiff, Nat.reduceLT, Nat.reduceBEq, PV.scal, PV.scalL, SV.scal, SV.scalL, Ob.scal, PV.isCell, pure', resO]
      refine hR _ _ _ (by intro h; cases h) ?_
      exact finA_val (by simp [hh, retA, rvA, mkE_cons, mk_nil, mkO_cons, mkO_nil, loadA, SV.tr, SV.trL, nmF, rn_nil, rn_cons1, rn_cons2, plainOb, SV.refsL, SV.refs, Ob.refs, X, F, List.range_succ, mkO, setO_mk]) (by simp [SV.tr, SV.trL])
    · have he' : ((bAt s i).toNat : Int) ≠ b.toNat := fun h => he (UInt8.toNat.inj (by omega))
      have he2 : (((bAt s i).toNat : Int) == b.toNat) = false := by simp; omega
      simp only [hgt, hw, hb, hi0, he2, he', Int.toNat_natCast, ↓SP, SQ, Gam.add, stepM, callC, argC, lendO, nmBy, nmC, likeL, likeB, plainOb, offs, exL, X, F, trP, trO, stepD, stepW, newA, SV.tr, SV.trL, fz, allP, Ob.tr, loadA, cellsA, SV.cells, binA, binI, eqOut, isSl, isPt, natOf, callee, snap, SV.refsL, SV.refs, thaw, fzAll, loA, hiA, elemOf, partsA, buildA, putCells, ↓reduceIte, reduceCtorEq, okCell, Nat.reduceAdd, Nat.reduceEqDiff, Nat.reduceSub, Nat.reduceMul, Nat.reduceLeDiff, Nat.reduceLT, Nat.reduceBEq, PV.scal, PV.scalL, SV.scal, SV.scalL, Ob.scal, PV.isCell, pure', resO]
      refine hN (i + 1, _, _) _ _ ⟨by simp only; omega, fun k hlt2 => ?_⟩ (by simp only; omega) rfl rfl
      by_cases hki : k = i
      · rw [hki]; exact he
      · exact hk k (by simp only at hlt2; omega)
  · have he : i = s.size := by omega
    subst he
    have hgt : ¬ ((s.size : Nat) : Int) < s.size := by omega
    have hh : hasB s b = false := hasB_no hk
    simp only [hgt, hh, ↓SP, SQ, Gam.add, stepM, callC, argC, lendO, nmBy, nmC, likeL, likeB, plainOb, offs, exL, X, F, trP, trO, stepD, stepW, newA, SV.tr, SV.trL, fz, allP, Ob.tr, loadA, cellsA, SV.cells, binA, binI, eqOut, isSl, isPt, natOf, callee, snap, SV.refsL, SV.refs, thaw, fzAll, loA, hiA, elemOf, partsA, buildA, putCells, ↓reduceIte, reduceCtorEq, okCell, Nat.reduceAdd, Nat.reduceEqDiff, Nat.reduceSub, Nat.reduceMul, Nat.reduceLeDiff, Nat.reduceLT, Nat.reduceBEq, PV.scal, PV.scalL, SV.scal, SV.scalL, Ob.scal, PV.isCell, pure', resO]
    refine hR _ _ _ (by intro h; cases h) ?_
    simp only [↓SP, SQ, Gam.add, stepM, callC, argC, lendO, nmBy, nmC, likeL, likeB, plainOb, offs, exL, X, F, trP, trO, stepD, stepW, newA, SV.tr, SV.trL, fz, allP, Ob.tr, loadA, cellsA, SV.cells, binA, binI, eqOut, isSl, isPt, natOf, callee, snap, SV.refsL, SV.refs, thaw, fzAll, loA, hiA, elemOf, partsA, buildA, putCells, ↓reduceIte, reduceCtorEq, okCell, Nat.reduceAdd, Nat.reduceEqDiff, Nat.reduceSub, Nat.reduceMul, Nat.reduceLeDiff, Nat.reduceLT, Nat.reduceBEq, PV.scal, PV.scalL, SV.scal, SV.scalL, Ob.scal, PV.isCell, pure', resO]
    exact finA_val (by simp [hh, retA, rvA, mkE_cons, mk_nil, mkO_cons, mkO_nil, loadA, SV.tr, SV.trL, nmF, rn_nil, rn_cons1, rn_cons2, plainOb, SV.refsL, SV.refs, Ob.refs, X, F, List.range_succ, mkO, setO_mk]) (by simp [SV.tr, SV.trL])
def jnS : List ByteArray → Nat → Nat
  | _, 0 => 0
  | l, i + 1 => jnS l i + (l.getD i ⟨#[]⟩).size
theorem jnS_mono (l : List ByteArray) : ∀ i j, i ≤ j → jnS l i ≤ jnS l j
  | i, 0, h => by rw [show i = 0 by omega]; exact Nat.le_refl _
  | i, j + 1, h => by
    by_cases hij : i = j + 1
    · rw [hij]; exact Nat.le_refl _
    · have := jnS_mono l i j (by omega)
      simp only [jnS]; omega
theorem jnS_cons (x : ByteArray) (l : List ByteArray) : ∀ i, jnS (x :: l) (i + 1) = x.size + jnS l i
  | 0 => by simp [jnS]
  | i + 1 => by
    have := jnS_cons x l i
    rw [jnS, this, jnS]
    simp only [List.getD_cons_succ]
    omega
theorem jnS_lens : ∀ (l : List ByteArray), jnS l l.length = Lib.lens (l.map (·.data.toList))
  | [] => rfl
  | x :: l => by
    have ih := jnS_lens l
    rw [List.length_cons, jnS_cons, ih]
    simp only [Lib.lens, List.map_cons, List.sum_cons, Array.length_toList]
    rfl
def anyB (l : List ByteArray) (b : UInt8) : Bool := l.any fun s => hasB s b
def jnV (l : List ByteArray) (sep : ByteArray) : ByteArray × Bool :=
  if sep.size ≠ 1 ∨ l.length = 0 then (⟨#[]⟩, false) else if anyB l (bAt sep 0) = true ∨ 4000 < l.length - 1 + jnS l l.length then (⟨#[]⟩, false) else (jnB l sep, true)
theorem jnB_size {l : List ByteArray} {sep : ByteArray} (hs : sep.size = 1) (hl : l.length ≠ 0) : (jnB l sep).size = l.length - 1 + jnS l l.length := by
  match l, hl with
  | x :: r, _ =>
    have h := Lib.join_length x.data.toList (r.map (·.data.toList)) sep.data.toList
    rw [jnS_lens]
    have hs' : sep.data.toList.length = 1 := by simpa using hs
    simp only [jnB, ByteArray.size, List.size_toArray, List.map_cons, h, hs', List.length_map, List.length_cons]
    omega
theorem jnV_no {l : List ByteArray} {sep : ByteArray} {i : Nat} (hi : i < l.length) (h : hasB (l.getD i ⟨#[]⟩) (bAt sep 0) = true ∨ 4000 < l.length - 1 + jnS l (i + 1)) : jnV l sep = (⟨#[]⟩, false) := by
  unfold jnV
  split
  · rfl
  · rw [if_pos]
    rcases h with h | h
    · left
      unfold anyB
      rw [List.any_eq_true]
      exact ⟨l.getD i ⟨#[]⟩, by rw [List.getD_eq_getElem?_getD, List.getElem?_eq_getElem hi]; exact List.getElem_mem _, h⟩
    · right
      have := jnS_mono l (i + 1) l.length (by omega)
      omega
theorem anyB_no {l : List ByteArray} {b : UInt8} (h : ∀ k, k < l.length → hasB (l.getD k ⟨#[]⟩) b = false) : anyB l b = false := by
  unfold anyB
  rw [List.any_eq_false]
  intro s hs
  obtain ⟨k, hk, rfl⟩ := List.getElem_of_mem hs
  have := h k hk
  rw [List.getD_eq_getElem?_getD, List.getElem?_eq_getElem hk] at this
  simpa using this
theorem jnV_yes {l : List ByteArray} {sep : ByteArray} (hs : sep.size = 1) (hl : l.length ≠ 0) (h : ∀ k, k < l.length → hasB (l.getD k ⟨#[]⟩) (bAt sep 0) = false) (hn : l.length - 1 + jnS l l.length ≤ 4000) : jnV l sep = (jnB l sep, true) := by
  unfold jnV
  rw [if_neg (by omega), if_neg]
  rw [anyB_no h]
  simp
  omega
def a_implJoin (f_IndexByte : FuncId) (f_Join : FuncId) : AFn := ⟨2, 
  .seq (.reg [⟨some 4, none, .d (.mv (.c (.str ⟨#[]⟩)))⟩,
    ⟨some 5, none, .d (.mv (.c (.bool false)))⟩])
  (.seq (.seq (.reg [⟨some 9, none, .d (.mv (.t 0))⟩,
    ⟨some 10, none, .d (.len (.t 9))⟩,
    ⟨some 11, none, .d (.bin .arith .eql (.t 10) (.c (.int .i64 0)))⟩,
    ⟨some 12, none, .d (.mv (.t 11))⟩,
    ⟨some 13, some (12, false), .d (.mv (.t 1))⟩,
    ⟨some 14, some (12, false), .d (.lenS (.t 13))⟩,
    ⟨some 15, some (12, false), .d (.bin .arith .neq (.t 14) (.c (.int .i64 1)))⟩,
    ⟨some 16, none, .d (.pick (.t 12) (.c (.bool true)) (.t 15))⟩])
  (.cond (.t 16) (.seq (.reg [⟨some 4, none, .d (.mv (.c (.str ⟨#[]⟩)))⟩,
     ⟨some 5, none, .d (.mv (.c (.bool false)))⟩])
   (.ret)) (.skip)))
  (.seq (.reg [⟨some 17, none, .d (.mv (.t 0))⟩,
    ⟨some 18, none, .d (.len (.t 17))⟩,
    ⟨some 19, none, .d (.bin .arith .sub (.t 18) (.c (.int .i64 1)))⟩,
    ⟨some 6, none, .d (.mv (.t 19))⟩])
  (.seq (.seq (.reg [⟨some 20, none, .d (.mv (.t 0))⟩,
    ⟨some 21, none, .d (.len (.t 20))⟩,
    ⟨some 22, none, .d (.mv (.c (.int .i64 0)))⟩])
  (.block 0 (.loop (.seq (.reg [⟨some 23, none, .d (.bin .arith .lss (.t 22) (.t 21))⟩])
    (.seq (.cond (.t 23) (.skip) (.exit 0))
    (.seq (.block 1 (.seq (.reg [⟨some 24, none, .d (.ia 1 (.t 20) (.t 22))⟩,
       ⟨some 25, none, .d (.load false 1 (.t 24))⟩,
       ⟨some 8, none, .d (.mv (.t 25))⟩])
     (.seq (.reg [⟨some 26, none, .d (.mv (.t 6))⟩,
       ⟨some 27, none, .d (.mv (.t 8))⟩,
       ⟨some 28, none, .d (.lenS (.t 27))⟩,
       ⟨some 29, none, .d (.bin .arith .add (.t 26) (.t 28))⟩,
       ⟨some 6, none, .d (.mv (.t 29))⟩])
     (.seq (.reg [⟨some 30, none, .d (.mv (.t 8))⟩,
       ⟨some 31, none, .d (.mv (.t 1))⟩,
       ⟨some 32, none, .d (.idxS (.t 31) (.c (.int .i64 0)))⟩,
       ⟨some 33, none, .d (.call (.f f_IndexByte) [(.t 30), (.t 32)])⟩,
       ⟨some 34, none, .d (.bin .arith .geq (.t 33) (.c (.int .i64 0)))⟩,
       ⟨some 35, none, .d (.mv (.t 34))⟩,
       ⟨some 36, some (35, false), .d (.mv (.t 6))⟩,
       ⟨some 37, some (35, false), .d (.bin .arith .gtr (.t 36) (.c (.int .i64 4000)))⟩,
       ⟨some 38, none, .d (.pick (.t 35) (.c (.bool true)) (.t 37))⟩])
     (.cond (.t 38) (.seq (.reg [⟨some 4, none, .d (.mv (.c (.str ⟨#[]⟩)))⟩,
        ⟨some 5, none, .d (.mv (.c (.bool false)))⟩])
      (.ret)) (.skip))))))
    (.reg [⟨some 39, none, .d (.bin .arith .add (.t 22) (.c (.int .i64 1)))⟩,
      ⟨some 22, none, .d (.mv (.t 39))⟩])))))))
  (.seq (.seq (.reg [⟨some 40, none, .d (.mv (.t 6))⟩,
    ⟨some 41, none, .d (.bin .arith .gtr (.t 40) (.c (.int .i64 4000)))⟩])
  (.cond (.t 41) (.seq (.reg [⟨some 4, none, .d (.mv (.c (.str ⟨#[]⟩)))⟩,
     ⟨some 5, none, .d (.mv (.c (.bool false)))⟩])
   (.ret)) (.skip)))
  (.seq (.reg [⟨some 42, none, .d (.mv (.t 0))⟩,
    ⟨some 43, none, .d (.mv (.t 1))⟩,
    ⟨some 44, none, .d (.call (.f f_Join) [(.t 42), (.t 43)])⟩,
    ⟨some 4, none, .d (.mv (.t 44))⟩,
    ⟨some 5, none, .d (.mv (.c (.bool true)))⟩])
  (.ret)))))), [.tmp 4, .tmp 5]⟩
def n_implJoin : Nat → Option Ann := fun _ => none
abbrev k_implJoin : List Nat := [0, 1, 4, 5, 6, 8, 16, 20, 21, 22, 23, 38, 41]
abbrev o_implJoin : List Nat := []
def c_implJoin : Con := pure' fun
  | [.p (.sl 1 xs), .p (.str sep)] => if isStr xs = true ∧ xs.length ≤ 5000 ∧ sep.size ≤ 5000 ∧ (∀ x ∈ ofSt xs, x.size ≤ 5000) then some (.tp [.p (.str (jnV (ofSt xs) sep).1), .p (.bool (jnV (ofSt xs) sep).2)], []) else none
  | _ => none
set_option maxHeartbeats 1000000 in
theorem s_implJoin {P : Program} (hm : P.follows .mixedOrders = true) {Γ : Gam} (hΓ : GS P Γ) {n : FuncId} {f_IndexByte : FuncId} {f_Join : FuncId} (is : Is P n (a_implJoin f_IndexByte f_Join)) (h_IndexByte : Γ f_IndexByte = c_IndexByte) (h_Join : Γ f_Join = c_Join)  : Says P n c_implJoin := by
  refine Says.pure fun args r fs h => ?_
  split at h
  case h_2 => cases h
  rename_i xs sep
  split at h
  case isFalse => cases h
  rename_i hc
  obtain ⟨hst, hn, hsp, hsz⟩ := hc
  obtain ⟨l, rfl⟩ := isStr_out hst
  simp only [Option.some.injEq, Prod.mk.injEq, ofSt_strs, strs_len] at h hn hsz
  obtain ⟨rfl, rfl⟩ := h
  by_cases h0 : l.length = 0
  · have e0 : ((l.length : Nat) : Int) = 0 := by omega
    have e0' : (((l.length : Nat) : Int) == 0) = true := by simp [e0]
    have hj : jnV l sep = (⟨#[]⟩, false) := by unfold jnV; rw [if_pos (.inr h0)]
    rw [hj]
    refine is.go hm hΓ k_implJoin o_implJoin (by simp [a_implJoin]) ?_
    simp only [a_implJoin, h_IndexByte, c_IndexByte, h_Join, c_Join, strs_len, e0, e0', (by decide : ((0 : Int) == 0) = true), List.zipIdx_cons, List.zipIdx_nil, ↓SP, SQ, Gam.add, stepM, callC, argC, lendO, nmBy, nmC, likeL, likeB, plainOb, offs, exL, X, F, trP, trO, stepD, stepW, newA, SV.tr, SV.trL, fz, allP, Ob.tr, loadA, cellsA, SV.cells, binA, binI, eqOut, isSl, isPt, natOf, callee, snap, SV.refsL, SV.refs, thaw, fzAll, loA, hiA, elemOf, partsA, buildA, putCells, ↓reduceIte, reduceCtorEq, okCell, Nat.reduceAdd, Nat.reduceEqDiff, Nat.reduceSub, Nat.reduceMul, Nat.reduceLeDiff, Nat.reduceLT, Nat.reduceBEq, PV.scal, PV.scalL, SV.scal, SV.scalL, Ob.scal, PV.isCell, pure', resO]
    exact finA_val (by simp [retA, rvA, mkE_cons, mk_nil, mkO_cons, mkO_nil, loadA, SV.tr, SV.trL, nmF, rn_nil, rn_cons1, rn_cons2, plainOb, SV.refsL, SV.refs, Ob.refs, X, F, List.range_succ, mkO, setO_mk]) (by simp [SV.tr, SV.trL])
  · have e0 : (((l.length : Nat) : Int) == 0) = false := by simp only [beq_eq_false_iff_ne, ne_eq]; omega
    by_cases h1 : sep.size = 1
    · have e1 : ((sep.size : Int) != 1) = false := by simp [h1]
      have e1' : (sep.size : Int) = 1 := by omega
      have hw0 : IntKind.i64.wrap ((l.length : Int) - 1) = ((l.length - 1 : Nat) : Int) := by rw [wrap64 (by omega) (by omega)]; omega
      refine is.go hm hΓ k_implJoin o_implJoin (by simp [a_implJoin]) ?_
      simp only [a_implJoin, h_IndexByte, c_IndexByte, h_Join, c_Join, strs_len, e0, e1, e1', hw0, (by decide : ((1 : Int) != 1) = false), List.zipIdx_cons, List.zipIdx_nil, ↓SP, SQ, Gam.add, stepM, callC, argC, lendO, nmBy, nmC, likeL, likeB, plainOb, offs, exL, X, F, trP, trO, stepD, stepW, newA, SV.tr, SV.trL, fz, allP, Ob.tr, loadA, cellsA, SV.cells, binA, binI, eqOut, isSl, isPt, natOf, callee, snap, SV.refsL, SV.refs, thaw, fzAll, loA, hiA, elemOf, partsA, buildA, putCells, ↓reduceIte, reduceCtorEq, okCell, Nat.reduceAdd, Nat.reduceEqDiff, Nat.reduceSub, Nat.reduceMul, Nat.reduceLeDiff, Nat.reduceLT, Nat.reduceBEq, PV.scal, PV.scalL, SV.scal, SV.scalL, Ob.scal, PV.isCell, pure', resO]
      refine loop_at (fun t : Nat × SV × SV × SV => mkEnv [(0, .p (.sl 1 (strs l))), (1, .p (.str sep)), (4, .p (.str ⟨#[]⟩)), (5, .p (.bool false)), (6, si ((l.length - 1 + jnS l t.1 : Nat))), (8, t.2.1), (16, .p (.bool false)), (20, .p (.sl 1 (strs l))), (21, si l.length), (22, si t.1), (23, t.2.2.1), (38, t.2.2.2), (41, .junk)])
        (fun t => mkO [])
        (fun t => t.1 ≤ l.length ∧ (t.1 = 0 ∨ l.length - 1 + jnS l t.1 ≤ 4000) ∧ ∀ k, k < t.1 → hasB (l.getD k ⟨#[]⟩) (bAt sep 0) = false) (fun t => l.length - t.1) (0, .junk, .junk, .junk) (by simp) (by simp [jnS]) (by simp) ?_
      rintro ⟨i, x8, x23, x38⟩ ⟨hi, hle, hk⟩ R hR hN
      simp only at hi hle hk
      have hle' : l.length - 1 + jnS l i ≤ 5000 := by
        rcases hle with h | h
        · subst h; simp only [jnS]; omega
        · omega
      by_cases hlt : i < l.length
      · have hgt : (i : Int) < l.length := by omega
        have hw : IntKind.i64.wrap ((i : Int) + 1) = ((i + 1 : Nat) : Int) := by rw [wrap64 (by omega) (by omega)]; omega
        have hg := strs_get hlt
        have hsz1 : (l.getD i ⟨#[]⟩).size ≤ 5000 := hsz _ (by rw [List.getD_eq_getElem?_getD, List.getElem?_eq_getElem hlt]; exact List.getElem_mem _)
        have hw2 : IntKind.i64.wrap (((l.length - 1 + jnS l i : Nat) : Int) + (l.getD i ⟨#[]⟩).size) = ((l.length - 1 + jnS l (i + 1) : Nat) : Int) := by
          rw [wrap64 (by omega) (by omega)]; simp only [jnS]; omega
        have hi0 : (0 : Int) ≤ i := by omega
        have hb0 := bget (s := sep) (i := 0) (by omega)
        have hno := jnV_no (l := l) (sep := sep) hlt
        generalize hgs : l.getD i ⟨#[]⟩ = s at *
        generalize bAt sep 0 = b at *
        have hib : decide (0 ≤ Lib.indexByte s.data.toList b) = hasB s b := ib_has s.data.toList b
        simp only [hgt, hw, hw2, hg, hi0, hb0, h_IndexByte, c_IndexByte, u8_back', hib, Int.toNat_natCast, Int.reduceToNat, Int.le_refl, ↓SP, SQ, Gam.add, stepM, callC, argC, lendO, nmBy, nmC, likeL, likeB, plainOb, offs, exL, X, F, trP, trO, stepD, stepW, newA, SV.tr, SV.trL, fz, allP, Ob.tr, loadA, cellsA, SV.cells, binA, binI, eqOut, isSl, isPt, natOf, callee, snap, SV.refsL, SV.refs, thaw, fzAll, loA, hiA, elemOf, partsA, buildA, putCells, ↓reduceIte, reduceCtorEq, okCell, Nat.reduceAdd, Nat.reduceEqDiff, Nat.reduceSub, Nat.reduceMul, Nat.reduceLeDiff, Nat.reduceLT, Nat.reduceBEq, PV.scal, PV.scalL, SV.scal, SV.scalL, Ob.scal, PV.isCell, pure', resO]
        by_cases hh : hasB s b = true
        · have hj := hno (.inl hh)
          simp only [hh, ↓SP, SQ, Gam.add, stepM, callC, argC, lendO, nmBy, nmC, likeL, likeB, plainOb, offs, exL, X, F, trP, trO, stepD, stepW, newA, SV.tr, SV.trL, fz, allP, Ob.tr, loadA, cellsA, SV.cells, binA, binI, eqOut, isSl, isPt, natOf, callee, snap, SV.refsL, SV.refs, thaw, fzAll, loA, hiA, elemOf, partsA, buildA, putCells, ↓reduceIte, reduceCtorEq, okCell, Nat.reduceAdd, Nat.reduceEqDiff, Nat.reduceSub, Nat.reduceMul, Nat.reduceLeDiff, Nat.reduceLT, Nat.reduceBEq, PV.scal, PV.scalL, SV.scal, SV.scalL, Ob.scal, PV.isCell, pure', resO]
          refine hR _ _ _ (by intro h; cases h) ?_
          exact finA_val (by simp [hj, retA, rvA, mkE_cons, mk_nil, mkO_cons, mkO_nil, loadA, SV.tr, SV.trL, nmF, rn_nil, rn_cons1, rn_cons2, plainOb, SV.refsL, SV.refs, Ob.refs, X, F, List.range_succ, mkO, setO_mk]) (by simp [SV.tr, SV.trL])
        · have hh : hasB s b = false := by simpa using hh
          by_cases h4 : (4000 : Int) < ((l.length - 1 + jnS l (i + 1) : Nat) : Int)
          · have hj := hno (.inr (by omega))
            simp only [hh, h4, Bool.false_eq_true, if_false, decide_true, ↓SP, SQ, Gam.add, stepM, callC, argC, lendO, nmBy, nmC, likeL, likeB, plainOb, offs, exL, X, F, trP, trO, stepD, stepW, newA, SV.tr, SV.trL, fz, allP, Ob.tr, loadA, cellsA, SV.cells, binA, binI, eqOut, isSl, isPt, natOf, callee, snap, SV.refsL, SV.refs, thaw, fzAll, loA, hiA, elemOf, partsA, buildA, putCells, ↓reduceIte, reduceCtorEq, okCell, Nat.reduceAdd, Nat.reduceEqDiff, Nat.reduceSub, Nat.reduceMul, Nat.reduceLeDiff, Nat.reduceLT, Nat.reduceBEq, PV.scal, PV.scalL, SV.scal, SV.scalL, Ob.scal, PV.isCell, pure', resO]
            refine hR _ _ _ (by intro h; cases h) ?_
            exact finA_val (by simp [hj, retA, rvA, mkE_cons, mk_nil, mkO_cons, mkO_nil, loadA, SV.tr, SV.trL, nmF, rn_nil, rn_cons1, rn_cons2, plainOb, SV.refsL, SV.refs, Ob.refs, X, F, List.range_succ, mkO, setO_mk]) (by simp [SV.tr, SV.trL])
          · simp only [hh, h4, hw, Bool.false_eq_true, if_false, decide_false, ↓SP, SQ, Gam.add, stepM, callC, argC, lendO, nmBy, nmC, likeL, likeB, plainOb, offs, exL, X, F, trP, trO, stepD, stepW, newA, SV.tr, SV.trL, fz, allP, Ob.tr, loadA, cellsA, SV.cells, binA, binI, eqOut, isSl, isPt, natOf, callee, snap, SV.refsL, SV.refs, thaw, fzAll, loA, hiA, elemOf, partsA, buildA, putCells, ↓reduceIte, reduceCtorEq, okCell, Nat.reduceAdd, Nat.reduceEqDiff, Nat.reduceSub, Nat.reduceMul, Nat.reduceLeDiff, Nat.reduceLT, Nat.reduceBEq, PV.scal, PV.scalL, SV.scal, SV.scalL, Ob.scal, PV.isCell, pure', resO]
            refine hN (i + 1, _, _, _) _ _ ⟨by simp only; omega, .inr (by simp only; omega), fun k hlt2 => ?_⟩ (by simp only; omega) rfl rfl
            by_cases hki : k = i
            · rw [hki, hgs]; exact hh
            · exact hk k (by simp only at hlt2; omega)
      · have he : i = l.length := by omega
        subst he
        have hgt : ¬ ((l.length : Nat) : Int) < l.length := by omega
        simp only [hgt, ↓SP, SQ, Gam.add, stepM, callC, argC, lendO, nmBy, nmC, likeL, likeB, plainOb, offs, exL, X, F, trP, trO, stepD, stepW, newA, SV.tr, SV.trL, fz, allP, Ob.tr, loadA, cellsA, SV.cells, binA, binI, eqOut, isSl, isPt, natOf, callee, snap, SV.refsL, SV.refs, thaw, fzAll, loA, hiA, elemOf, partsA, buildA, putCells, ↓reduceIte, reduceCtorEq, okCell, Nat.reduceAdd, Nat.reduceEqDiff, Nat.reduceSub, Nat.reduceMul, Nat.reduceLeDiff, Nat.reduceLT, Nat.reduceBEq, PV.scal, PV.scalL, SV.scal, SV.scalL, Ob.scal, PV.isCell, pure', resO]
        refine hR _ _ _ (by intro h; cases h) ?_
        have h4 : ¬ (4000 : Int) < ((l.length - 1 + jnS l l.length : Nat) : Int) := by omega
        have hj := jnV_yes h1 h0 hk (by omega)
        have hjs : (jnB l sep).size ≤ 5000 := by rw [jnB_size h1 h0]; omega
        rw [hj]
        simp only [h4, h_Join, c_Join, isStr_strs, ofSt_strs, strs_len, hn, hjs, ↓SP, SQ, Gam.add, stepM, callC, argC, lendO, nmBy, nmC, likeL, likeB, plainOb, offs, exL, X, F, trP, trO, stepD, stepW, newA, SV.tr, SV.trL, fz, allP, Ob.tr, loadA, cellsA, SV.cells, binA, binI, eqOut, isSl, isPt, natOf, callee, snap, SV.refsL, SV.refs, thaw, fzAll, loA, hiA, elemOf, partsA, buildA, putCells, ↓reduceIte, reduceCtorEq, okCell, Nat.reduceAdd, Nat.reduceEqDiff, Nat.reduceSub, Nat.reduceMul, Nat.reduceLeDiff, Nat.reduceLT, Nat.reduceBEq, PV.scal, PV.scalL, SV.scal, SV.scalL, Ob.scal, PV.isCell, pure', resO]
        exact finA_val (by simp [retA, rvA, mkE_cons, mk_nil, mkO_cons, mkO_nil, loadA, SV.tr, SV.trL, nmF, rn_nil, rn_cons1, rn_cons2, plainOb, SV.refsL, SV.refs, Ob.refs, X, F, List.range_succ, mkO, setO_mk]) (by simp [SV.tr, SV.trL])
    · have e1 : ((sep.size : Int) != 1) = true := by simp only [bne_iff_ne, ne_eq]; omega
      have hj : jnV l sep = (⟨#[]⟩, false) := by unfold jnV; rw [if_pos (.inl h1)]
      rw [hj]
      refine is.go hm hΓ k_implJoin o_implJoin (by simp [a_implJoin]) ?_
      simp only [a_implJoin, h_IndexByte, c_IndexByte, h_Join, c_Join, strs_len, e0, e1, List.zipIdx_cons, List.zipIdx_nil, ↓SP, SQ, Gam.add, stepM, callC, argC, lendO, nmBy, nmC, likeL, likeB, plainOb, offs, exL, X, F, trP, trO, stepD, stepW, newA, SV.tr, SV.trL, fz, allP, Ob.tr, loadA, cellsA, SV.cells, binA, binI, eqOut, isSl, isPt, natOf, callee, snap, SV.refsL, SV.refs, thaw, fzAll, loA, hiA, elemOf, partsA, buildA, putCells, ↓reduceIte, reduceCtorEq, okCell, Nat.reduceAdd, Nat.reduceEqDiff, Nat.reduceSub, Nat.reduceMul, Nat.reduceLeDiff, Nat.reduceLT, Nat.reduceBEq, PV.scal, PV.scalL, SV.scal, SV.scalL, Ob.scal, PV.isCell, pure', resO]
      exact finA_val (by simp [retA, rvA, mkE_cons, mk_nil, mkO_cons, mkO_nil, loadA, SV.tr, SV.trL, nmF, rn_nil, rn_cons1, rn_cons2, plainOb, SV.refsL, SV.refs, Ob.refs, X, F, List.range_succ, mkO, setO_mk]) (by simp [SV.tr, SV.trL])
theorem join_snoc (xs : List (List UInt8)) (y sep : List UInt8) : Lib.join (xs ++ [y]) sep = if xs = [] then y else Lib.join xs sep ++ sep ++ y := by
  cases xs with
  | nil => simp [Lib.join_one]
  | cons x r =>
    rw [List.cons_append, Lib.join_cons, Lib.join_cons]
    simp [Lib.joinTail, List.append_assoc]
def joB (l : List ByteArray) (sep : ByteArray) : Nat → ByteArray
  | 0 => ⟨#[]⟩
  | i + 1 => (if i = 0 then joB l sep i else joB l sep i ++ sep) ++ l.getD i ⟨#[]⟩
theorem joB_size {l : List ByteArray} {sep : ByteArray} (hs : sep.size = 1) : ∀ i, (joB l sep i).size = jnS l i + (i - 1)
  | 0 => rfl
  | i + 1 => by
    have ih := joB_size (l := l) hs i
    simp only [joB, jnS, ByteArray.size_append]
    split
    · rename_i h; subst h
      have e : (joB l sep 0).size = 0 := rfl
      simp only [jnS]
      omega
    · rw [ByteArray.size_append, ih, hs]; omega
theorem joB_list {l : List ByteArray} {sep : ByteArray} : ∀ i, i ≤ l.length → (joB l sep i).data.toList = Lib.join ((l.take i).map (·.data.toList)) sep.data.toList
  | 0, _ => rfl
  | i + 1, hi => by
    have ih := joB_list (l := l) (sep := sep) i (by omega)
    have hlt : i < l.length := by omega
    have hg : l.getD i ⟨#[]⟩ = l[i] := by rw [List.getD_eq_getElem?_getD, List.getElem?_eq_getElem hlt]; rfl
    rw [List.take_succ_eq_append_getElem hlt, List.map_append, List.map_singleton, join_snoc, ← ih]
    simp only [joB, hg]
    by_cases h0 : i = 0
    · subst h0
      simp [joB]
    · have : ¬ (l.take i).map (·.data.toList) = [] := by
        intro h
        rw [List.map_eq_nil_iff, List.take_eq_nil_iff] at h
        rcases h with h | h
        · exact h0 h
        · rw [h] at hlt; simp at hlt
      rw [if_neg h0, if_neg this]
      simp [List.append_assoc]
theorem joB_all (l : List ByteArray) (sep : ByteArray) : joB l sep l.length = jnB l sep := by
  have h := joB_list (l := l) (sep := sep) l.length (Nat.le_refl _)
  rw [List.take_length] at h
  unfold jnB
  rw [← h]
theorem binS_add {a b : ByteArray} (h : a.size + b.size ≤ 100000) : binS .add a b = some (.str (a ++ b)) := by
  show (if ((a.size + b.size : Nat) : Int) ≤ 9223372036854775807 then some (PV.str (a ++ b)) else none) = _
  rw [if_pos (by omega)]
def a_specJoin (f_stands : FuncId) : AFn := ⟨2, 
  .seq (.reg [⟨some 4, none, .d (.mv (.c (.str ⟨#[]⟩)))⟩,
    ⟨some 5, none, .d (.mv (.c (.bool false)))⟩])
  (.seq (.seq (.reg [⟨some 8, none, .d (.mv (.t 1))⟩,
    ⟨some 9, none, .d (.lenS (.t 8))⟩,
    ⟨some 10, none, .d (.bin .arith .neq (.t 9) (.c (.int .i64 1)))⟩,
    ⟨some 11, none, .d (.mv (.t 10))⟩,
    ⟨some 12, some (11, false), .d (.mv (.t 0))⟩,
    ⟨some 13, some (11, false), .d (.len (.t 12))⟩,
    ⟨some 14, some (11, false), .d (.bin .arith .eql (.t 13) (.c (.int .i64 0)))⟩,
    ⟨some 15, none, .d (.pick (.t 11) (.c (.bool true)) (.t 14))⟩])
  (.cond (.t 15) (.seq (.reg [⟨some 4, none, .d (.mv (.c (.str ⟨#[]⟩)))⟩,
     ⟨some 5, none, .d (.mv (.c (.bool false)))⟩])
   (.ret)) (.skip)))
  (.seq (.reg [⟨some 6, none, .d (.mv (.c (.str ⟨#[]⟩)))⟩])
  (.seq (.seq (.reg [⟨some 7, none, .d (.mv (.c (.int .i64 0)))⟩])
  (.block 0 (.loop (.seq (.seq (.reg [⟨some 16, none, .d (.mv (.t 7))⟩,
      ⟨some 17, none, .d (.mv (.t 0))⟩,
      ⟨some 18, none, .d (.len (.t 17))⟩,
      ⟨some 19, none, .d (.bin .arith .lss (.t 16) (.t 18))⟩])
    (.cond (.t 19) (.skip) (.exit 0)))
    (.seq (.block 1 (.seq (.seq (.dreg [] [([], ⟨some 22, none, .d (.mv (.t 0))⟩),
       ([], ⟨some 23, none, .d (.mv (.t 7))⟩),
       ([], ⟨some 24, none, .d (.ia 1 (.t 22) (.t 23))⟩),
       ([], ⟨some 25, none, .d (.load false 1 (.t 24))⟩),
       ([], ⟨some 26, none, .d (.mv (.t 1))⟩),
       ([], ⟨some 27, none, .d (.idxS (.t 26) (.c (.int .i64 0)))⟩)] [⟨some 28, none, .d (.call (.f f_stands) [(.t 25), (.t 27)])⟩])
     (.cond (.t 28) (.seq (.reg [⟨some 4, none, .d (.mv (.c (.str ⟨#[]⟩)))⟩,
        ⟨some 5, none, .d (.mv (.c (.bool false)))⟩])
      (.ret)) (.skip)))
     (.seq (.seq (.reg [⟨some 29, none, .d (.mv (.t 7))⟩,
       ⟨some 30, none, .d (.bin .arith .gtr (.t 29) (.c (.int .i64 0)))⟩])
     (.cond (.t 30) (.reg [⟨some 31, none, .d (.mv (.t 6))⟩,
        ⟨some 32, none, .d (.mv (.t 1))⟩,
        ⟨some 33, none, .d (.bin .str .add (.t 31) (.t 32))⟩,
        ⟨some 6, none, .d (.mv (.t 33))⟩]) (.skip)))
     (.seq (.reg [⟨some 34, none, .d (.mv (.t 6))⟩,
       ⟨some 35, none, .d (.mv (.t 0))⟩,
       ⟨some 36, none, .d (.mv (.t 7))⟩,
       ⟨some 37, none, .d (.ia 1 (.t 35) (.t 36))⟩,
       ⟨some 38, none, .d (.load false 1 (.t 37))⟩,
       ⟨some 39, none, .d (.bin .str .add (.t 34) (.t 38))⟩,
       ⟨some 6, none, .d (.mv (.t 39))⟩])
     (.seq (.reg [⟨some 40, none, .d (.mv (.t 6))⟩,
       ⟨some 41, none, .d (.lenS (.t 40))⟩,
       ⟨some 42, none, .d (.bin .arith .gtr (.t 41) (.c (.int .i64 4000)))⟩])
     (.cond (.t 42) (.seq (.reg [⟨some 4, none, .d (.mv (.c (.str ⟨#[]⟩)))⟩,
        ⟨some 5, none, .d (.mv (.c (.bool false)))⟩])
      (.ret)) (.skip)))))))
    (.reg [⟨some 20, none, .d (.mv (.t 7))⟩,
      ⟨some 21, none, .d (.bin .arith .add (.t 20) (.c (.int .i64 1)))⟩,
      ⟨some 7, none, .d (.mv (.t 21))⟩]))))))
  (.seq (.reg [⟨some 43, none, .d (.mv (.t 6))⟩,
    ⟨some 4, none, .d (.mv (.t 43))⟩,
    ⟨some 5, none, .d (.mv (.c (.bool true)))⟩])
  (.ret))))), [.tmp 4, .tmp 5]⟩
def n_specJoin : Nat → Option Ann := fun _ => none
abbrev k_specJoin : List Nat := [0, 1, 4, 5, 6, 7, 15, 19, 28, 30, 42]
abbrev o_specJoin : List Nat := []
theorem s_specJoin {P : Program} (hm : P.follows .mixedOrders = true) {Γ : Gam} (hΓ : GS P Γ) {n : FuncId} {f_stands : FuncId} (is : Is P n (a_specJoin f_stands)) (h_stands : Γ f_stands = c_stands)  : Says P n c_implJoin := by
  refine Says.pure fun args r fs h => ?_
  split at h
  case h_2 => cases h
  rename_i xs sep
  split at h
  case isFalse => cases h
  rename_i hc
  obtain ⟨hst, hn, hsp, hsz⟩ := hc
  obtain ⟨l, rfl⟩ := isStr_out hst
  simp only [Option.some.injEq, Prod.mk.injEq, ofSt_strs, strs_len] at h hn hsz
  obtain ⟨rfl, rfl⟩ := h
  by_cases h1 : sep.size = 1
  · have e1 : ((sep.size : Int) != 1) = false := by simp [h1]
    have e1' : (sep.size : Int) = 1 := by omega
    by_cases h0 : l.length = 0
    · have e0 : ((l.length : Nat) : Int) = 0 := by omega
      have e0' : (((l.length : Nat) : Int) == 0) = true := by simp [e0]
      have hj : jnV l sep = (⟨#[]⟩, false) := by unfold jnV; rw [if_pos (.inr h0)]
      rw [hj]
      refine is.go hm hΓ k_specJoin o_specJoin (by simp [a_specJoin]) ?_
      simp only [a_specJoin, h_stands, c_stands, strs_len, e1, e1', e0, e0', (by decide : ((0 : Int) == 0) = true), (by decide : ((1 : Int) != 1) = false), List.zipIdx_cons, List.zipIdx_nil, ↓SP, SQ, Gam.add, stepM, callC, argC, lendO, nmBy, nmC, likeL, likeB, plainOb, offs, exL, X, F, trP, trO, stepD, stepW, newA, SV.tr, SV.trL, fz, allP, Ob.tr, loadA, cellsA, SV.cells, binA, binI, eqOut, isSl, isPt, natOf, callee, snap, SV.refsL, SV.refs, thaw, fzAll, loA, hiA, elemOf, partsA, buildA, putCells, ↓reduceIte, reduceCtorEq, okCell, Nat.reduceAdd, Nat.reduceEqDiff, Nat.reduceSub, Nat.reduceMul, Nat.reduceLeDiff, Nat.reduceLT, Nat.reduceBEq, PV.scal, PV.scalL, SV.scal, SV.scalL, Ob.scal, PV.isCell, pure', resO]
      exact finA_val (by simp [retA, rvA, mkE_cons, mk_nil, mkO_cons, mkO_nil, loadA, SV.tr, SV.trL, nmF, rn_nil, rn_cons1, rn_cons2, plainOb, SV.refsL, SV.refs, Ob.refs, X, F, List.range_succ, mkO, setO_mk]) (by simp [SV.tr, SV.trL])
    · have e0 : (((l.length : Nat) : Int) == 0) = false := by simp only [beq_eq_false_iff_ne, ne_eq]; omega
      refine is.go hm hΓ k_specJoin o_specJoin (by simp [a_specJoin]) ?_
      simp only [a_specJoin, h_stands, c_stands, strs_len, e0, e1, e1', (by decide : ((1 : Int) != 1) = false), List.zipIdx_cons, List.zipIdx_nil, ↓SP, SQ, Gam.add, stepM, callC, argC, lendO, nmBy, nmC, likeL, likeB, plainOb, offs, exL, X, F, trP, trO, stepD, stepW, newA, SV.tr, SV.trL, fz, allP, Ob.tr, loadA, cellsA, SV.cells, binA, binI, eqOut, isSl, isPt, natOf, callee, snap, SV.refsL, SV.refs, thaw, fzAll, loA, hiA, elemOf, partsA, buildA, putCells, ↓reduceIte, reduceCtorEq, okCell, Nat.reduceAdd, Nat.reduceEqDiff, Nat.reduceSub, Nat.reduceMul, Nat.reduceLeDiff, Nat.reduceLT, Nat.reduceBEq, PV.scal, PV.scalL, SV.scal, SV.scalL, Ob.scal, PV.isCell, pure', resO]
      refine loop_at (fun t : Nat × SV × SV × SV × SV => mkEnv [(0, .p (.sl 1 (strs l))), (1, .p (.str sep)), (4, .p (.str ⟨#[]⟩)), (5, .p (.bool false)), (6, .p (.str (joB l sep t.1))), (7, si t.1), (15, .p (.bool false)), (19, t.2.1), (28, t.2.2.1), (30, t.2.2.2.1), (42, t.2.2.2.2)])
        (fun t => mkO [])
        (fun t => t.1 ≤ l.length ∧ (joB l sep t.1).size ≤ 4000 ∧ ∀ k, k < t.1 → hasB (l.getD k ⟨#[]⟩) (bAt sep 0) = false) (fun t => l.length - t.1) (0, .junk, .junk, .junk, .junk) ⟨Nat.zero_le _, (by decide : (0 : Nat) ≤ 4000), fun k hk => absurd hk (Nat.not_lt_zero _)⟩ (by simp [joB]) (by simp) ?_
      rintro ⟨i, x19, x28, x30, x42⟩ ⟨hi, hle, hk⟩ R hR hN
      simp only at hi hle hk
      have hsi := joB_size (l := l) h1 i
      have hsi1 := joB_size (l := l) h1 (i + 1)
      by_cases hlt : i < l.length
      · have hgt : (i : Int) < l.length := by omega
        have hw : IntKind.i64.wrap ((i : Int) + 1) = ((i + 1 : Nat) : Int) := by rw [wrap64 (by omega) (by omega)]; omega
        have hg := strs_get hlt
        have hsz1 : (l.getD i ⟨#[]⟩).size ≤ 5000 := hsz _ (by rw [List.getD_eq_getElem?_getD, List.getElem?_eq_getElem hlt]; exact List.getElem_mem _)
        have hi0 : (0 : Int) ≤ i := by omega
        have hb0 := bget (s := sep) (i := 0) (by omega)
        have hno := jnV_no (l := l) (sep := sep) hlt
        have hjo : joB l sep (i + 1) = (if i = 0 then joB l sep i else joB l sep i ++ sep) ++ l.getD i ⟨#[]⟩ := rfl
        generalize hgs : l.getD i ⟨#[]⟩ = s at *
        generalize bAt sep 0 = b at *
        have hbl : (0 : Int) ≤ b.toNat ∧ (b.toNat : Int) ≤ 255 := by have := b.toNat_lt; omega
        have hms : (joB l sep (i + 1)).size ≤ 100000 := by
          rw [hjo]
          split
          · rw [ByteArray.size_append]; omega
          · rw [ByteArray.size_append, ByteArray.size_append]; omega
        by_cases hh : hasB s b = true
        · have hj := hno (.inl hh)
          simp only [hgt, hg, hi0, hb0, hsz1, hbl, h_stands, c_stands, u8_back', hh, strs_len, Int.toNat_natCast, Int.reduceToNat, Int.le_refl, ↓SP, SQ, Gam.add, stepM, callC, argC, lendO, nmBy, nmC, likeL, likeB, plainOb, offs, exL, X, F, trP, trO, stepD, stepW, newA, SV.tr, SV.trL, fz, allP, Ob.tr, loadA, cellsA, SV.cells, binA, binI, eqOut, isSl, isPt, natOf, callee, snap, SV.refsL, SV.refs, thaw, fzAll, loA, hiA, elemOf, partsA, buildA, putCells, ↓reduceIte, reduceCtorEq, okCell, Nat.reduceAdd, Nat.reduceEqDiff, Nat.reduceSub, Nat.reduceMul, Nat.reduceLeDiff, Nat.reduceLT, Nat.reduceBEq, PV.scal, PV.scalL, SV.scal, SV.scalL, Ob.scal, PV.isCell, pure', resO]
          refine hR _ _ _ (by intro h; cases h) ?_
          exact finA_val (by simp [hj, retA, rvA, mkE_cons, mk_nil, mkO_cons, mkO_nil, loadA, SV.tr, SV.trL, nmF, rn_nil, rn_cons1, rn_cons2, plainOb, SV.refsL, SV.refs, Ob.refs, X, F, List.range_succ, mkO, setO_mk]) (by simp [SV.tr, SV.trL])
        · have hh : hasB s b = false := by simpa using hh
          by_cases hz : i = 0
          · have hgz : ¬ (0 : Int) < (i : Int) := by omega
            rw [if_pos hz] at hjo
            have hba : binS .add (joB l sep i) s = some (.str (joB l sep (i + 1))) := by rw [hjo]; exact binS_add (by omega)
            simp only [hgt, hgz, hba, hg, hi0, hb0, hsz1, hbl, h_stands, c_stands, u8_back', hh, strs_len, Int.toNat_natCast, Int.reduceToNat, Int.le_refl, Bool.false_eq_true, if_false, ↓SP, SQ, Gam.add, stepM, callC, argC, lendO, nmBy, nmC, likeL, likeB, plainOb, offs, exL, X, F, trP, trO, stepD, stepW, newA, SV.tr, SV.trL, fz, allP, Ob.tr, loadA, cellsA, SV.cells, binA, binI, eqOut, isSl, isPt, natOf, callee, snap, SV.refsL, SV.refs, thaw, fzAll, loA, hiA, elemOf, partsA, buildA, putCells, ↓reduceIte, reduceCtorEq, okCell, Nat.reduceAdd, Nat.reduceEqDiff, Nat.reduceSub, Nat.reduceMul, Nat.reduceLeDiff, Nat.reduceLT, Nat.reduceBEq, PV.scal, PV.scalL, SV.scal, SV.scalL, Ob.scal, PV.isCell, pure', resO]
            split
            · rename_i h4
              have hj := hno (.inr (by have := of_decide_eq_true h4; omega))
              refine hR _ _ _ (by intro h; cases h) ?_
              exact finA_val (by simp [hj, retA, rvA, mkE_cons, mk_nil, mkO_cons, mkO_nil, loadA, SV.tr, SV.trL, nmF, rn_nil, rn_cons1, rn_cons2, plainOb, SV.refsL, SV.refs, Ob.refs, X, F, List.range_succ, mkO, setO_mk]) (by simp [SV.tr, SV.trL])
            · rename_i h4
              have h4' : (joB l sep (i + 1)).size ≤ 4000 := by
                have : ¬ (4000 : Int) < ((joB l sep (i + 1)).size : Nat) := fun h => h4 (decide_eq_true h)
                omega
              rw [hw]
              refine hN (i + 1, _, _, _, _) _ _ ⟨by simp only; omega, h4', fun k hlt2 => ?_⟩ (by simp only; omega) rfl rfl
              by_cases hki : k = i
              · rw [hki, hgs]; exact hh
              · exact hk k (by simp only at hlt2; omega)
          · have hgz : (0 : Int) < (i : Int) := by omega
            rw [if_neg hz] at hjo
            have hba : binS .add (joB l sep i) sep = some (.str (joB l sep i ++ sep)) := binS_add (by omega)
            have hba2 : binS .add (joB l sep i ++ sep) s = some (.str (joB l sep (i + 1))) := by rw [hjo]; exact binS_add (by rw [ByteArray.size_append]; omega)
            simp only [hgt, hgz, hba, hba2, hg, hi0, hb0, hsz1, hbl, h_stands, c_stands, u8_back', hh, strs_len, Int.toNat_natCast, Int.reduceToNat, Int.le_refl, Bool.false_eq_true, if_false, ↓SP, SQ, Gam.add, stepM, callC, argC, lendO, nmBy, nmC, likeL, likeB, plainOb, offs, exL, X, F, trP, trO, stepD, stepW, newA, SV.tr, SV.trL, fz, allP, Ob.tr, loadA, cellsA, SV.cells, binA, binI, eqOut, isSl, isPt, natOf, callee, snap, SV.refsL, SV.refs, thaw, fzAll, loA, hiA, elemOf, partsA, buildA, putCells, ↓reduceIte, reduceCtorEq, okCell, Nat.reduceAdd, Nat.reduceEqDiff, Nat.reduceSub, Nat.reduceMul, Nat.reduceLeDiff, Nat.reduceLT, Nat.reduceBEq, PV.scal, PV.scalL, SV.scal, SV.scalL, Ob.scal, PV.isCell, pure', resO]
            split
            · rename_i h4
              have hj := hno (.inr (by have := of_decide_eq_true h4; omega))
              refine hR _ _ _ (by intro h; cases h) ?_
              exact finA_val (by simp [hj, retA, rvA, mkE_cons, mk_nil, mkO_cons, mkO_nil, loadA, SV.tr, SV.trL, nmF, rn_nil, rn_cons1, rn_cons2, plainOb, SV.refsL, SV.refs, Ob.refs, X, F, List.range_succ, mkO, setO_mk]) (by simp [SV.tr, SV.trL])
            · rename_i h4
              have h4' : (joB l sep (i + 1)).size ≤ 4000 := by
                have : ¬ (4000 : Int) < ((joB l sep (i + 1)).size : Nat) := fun h => h4 (decide_eq_true h)
                omega
              rw [hw]
              refine hN (i + 1, _, _, _, _) _ _ ⟨by simp only; omega, h4', fun k hlt2 => ?_⟩ (by simp only; omega) rfl rfl
              by_cases hki : k = i
              · rw [hki, hgs]; exact hh
              · exact hk k (by simp only at hlt2; omega)
      · have he : i = l.length := by omega
        subst he
        have hgt : ¬ ((l.length : Nat) : Int) < l.length := by omega
        have hj := jnV_yes h1 h0 hk (by omega)
        simp only [hgt, strs_len, ↓SP, SQ, Gam.add, stepM, callC, argC, lendO, nmBy, nmC, likeL, likeB, plainOb, offs, exL, X, F, trP, trO, stepD, stepW, newA, SV.tr, SV.trL, fz, allP, Ob.tr, loadA, cellsA, SV.cells, binA, binI, eqOut, isSl, isPt, natOf, callee, snap, SV.refsL, SV.refs, thaw, fzAll, loA, hiA, elemOf, partsA, buildA, putCells, ↓reduceIte, reduceCtorEq, okCell, Nat.reduceAdd, Nat.reduceEqDiff, Nat.reduceSub, Nat.reduceMul, Nat.reduceLeDiff, Nat.reduceLT, Nat.reduceBEq, PV.scal, PV.scalL, SV.scal, SV.scalL, Ob.scal, PV.isCell, pure', resO]
        refine hR _ _ _ (by intro h; cases h) ?_
        rw [hj]
        simp only [↓SP, SQ, Gam.add, stepM, callC, argC, lendO, nmBy, nmC, likeL, likeB, plainOb, offs, exL, X, F, trP, trO, stepD, stepW, newA, SV.tr, SV.trL, fz, allP, Ob.tr, loadA, cellsA, SV.cells, binA, binI, eqOut, isSl, isPt, natOf, callee, snap, SV.refsL, SV.refs, thaw, fzAll, loA, hiA, elemOf, partsA, buildA, putCells, ↓reduceIte, reduceCtorEq, okCell, Nat.reduceAdd, Nat.reduceEqDiff, Nat.reduceSub, Nat.reduceMul, Nat.reduceLeDiff, Nat.reduceLT, Nat.reduceBEq, PV.scal, PV.scalL, SV.scal, SV.scalL, Ob.scal, PV.isCell, pure', resO]
        exact finA_val (by simp [joB_all, retA, rvA, mkE_cons, mk_nil, mkO_cons, mkO_nil, loadA, SV.tr, SV.trL, nmF, rn_nil, rn_cons1, rn_cons2, plainOb, SV.refsL, SV.refs, Ob.refs, X, F, List.range_succ, mkO, setO_mk]) (by simp [SV.tr, SV.trL])
  · have e1 : ((sep.size : Int) != 1) = true := by simp only [bne_iff_ne, ne_eq]; omega
    have hj : jnV l sep = (⟨#[]⟩, false) := by unfold jnV; rw [if_pos (.inl h1)]
    rw [hj]
    refine is.go hm hΓ k_specJoin o_specJoin (by simp [a_specJoin]) ?_
    simp only [a_specJoin, h_stands, c_stands, e1, List.zipIdx_cons, List.zipIdx_nil, ↓SP, SQ, Gam.add, stepM, callC, argC, lendO, nmBy, nmC, likeL, likeB, plainOb, offs, exL, X, F, trP, trO, stepD, stepW, newA, SV.tr, SV.trL, fz, allP, Ob.tr, loadA, cellsA, SV.cells, binA, binI, eqOut, isSl, isPt, natOf, callee, snap, SV.refsL, SV.refs, thaw, fzAll, loA, hiA, elemOf, partsA, buildA, putCells, ↓reduceIte, reduceCtorEq, okCell, Nat.reduceAdd, Nat.reduceEqDiff, Nat.reduceSub, Nat.reduceMul, Nat.reduceLeDiff, Nat.reduceLT, Nat.reduceBEq, PV.scal, PV.scalL, SV.scal, SV.scalL, Ob.scal, PV.isCell, pure', resO]
    exact finA_val (by simp [retA, rvA, mkE_cons, mk_nil, mkO_cons, mkO_nil, loadA, SV.tr, SV.trL, nmF, rn_nil, rn_cons1, rn_cons2, plainOb, SV.refsL, SV.refs, Ob.refs, X, F, List.range_succ, mkO, setO_mk]) (by simp [SV.tr, SV.trL])
theorem lsA_mem {l : List Int} (hl : ∀ x ∈ l, 0 ≤ x ∧ x ≤ 255) : lsA l ∈ anL := amS_mem hl (Int.le_refl 0) (by decide)
theorem lsB_mem {l : List Int} (hl : ∀ x ∈ l, 0 ≤ x ∧ x ≤ 255) : lsB l ∈ anL := amS_mem hl ((cu0 0 (Int.le_refl _)).pk l 9).1 (by decide)
theorem ssB_mem {l : List Int} (hl : ∀ x ∈ l, 0 ≤ x ∧ x ≤ 255) : ssB l ∈ spL := amS_mem hl ((cu0 0 (Int.le_refl _)).pk l 9).1 (by decide)
theorem less_asym' : ∀ a ∈ anL, ∀ b ∈ anL, Op.bytesLess a.data.toList b.data.toList = true → Op.bytesLess b.data.toList a.data.toList = false := by decide
theorem less_asym : ∀ a ∈ anL, ∀ b ∈ anL, Op.bytesLess a.toList b.toList = true → Op.bytesLess b.toList a.toList = false := by
  intro a ha b hb
  rw [Lib.toList_data, Lib.toList_data]
  exact less_asym' a ha b hb
theorem split_back : ∀ s ∈ anL, ∀ p ∈ spL, p.size = 1 → (stR s (bAt p 0)).length ≤ 5000 ∧ (∀ x ∈ stR s (bAt p 0), x.size ≤ 5000) ∧ jnV (stR s (bAt p 0)) p = (s, true) := by decide
theorem an_size : ∀ s ∈ anL, s.size ≤ 4000 := by decide
theorem sp_size : ∀ s ∈ spL, s.size ≤ 4000 := by decide
theorem jdR_sep {l : List Int} (hl : ∀ x ∈ l, 0 ≤ x ∧ x ≤ 255) : (jdR l).2.size ≤ 4000 := by
  have q := (cu0 0 (Int.le_refl _)).pk l 4
  obtain ⟨h1, h2, h3⟩ := jdS_b hl q (pkV l 4 (0, 0)).toNat
  have hd : ∀ s ∈ dmL, s.size ≤ 4000 := by decide
  unfold jdR jdE
  split
  · exact hd _ (amS_mem hl ((h2.pk l 20).pk l 20).1 (by decide))
  · exact hd _ (amS_mem hl (h2.pk l 20).1 (by decide))
def a_x_SplitJoin (f_vBig : FuncId) (f_DrawSplitString : FuncId) (f_SplitString : FuncId) (f_DrawJoinStrings : FuncId) (f_implJoin : FuncId) (f_specJoin : FuncId) (f_DrawLessString : FuncId) (f_LessString : FuncId) (f_LessString2 : FuncId) : AFn := ⟨1, 
  .seq (.reg [⟨some 2, none, .d (.mv (.c (.bool false)))⟩])
  (.seq (.seq (.reg [⟨some 17, none, .d (.mv (.t 0))⟩,
    ⟨some 18, none, .d (.call (.f f_vBig) [(.t 17)])⟩])
  (.cond (.t 18) (.seq (.reg [⟨some 2, none, .d (.mv (.c (.bool true)))⟩])
   (.ret)) (.skip)))
  (.seq (.reg [⟨some 20, none, .d (.mv (.t 0))⟩,
    ⟨some 21, none, .d (.call (.f f_DrawSplitString) [(.t 20)])⟩,
    ⟨some 19, none, .d (.mv (.t 21))⟩,
    ⟨some 22, none, .d (.extract (.t 19) 0)⟩,
    ⟨some 23, none, .d (.extract (.t 19) 1)⟩,
    ⟨some 3, none, .d (.mv (.t 22))⟩,
    ⟨some 4, none, .d (.mv (.t 23))⟩])
  (.seq (.reg [⟨some 25, none, .d (.mv (.t 3))⟩,
    ⟨some 26, none, .d (.mv (.t 4))⟩,
    ⟨some 27, none, .d (.call (.f f_SplitString) [(.t 25), (.t 26)])⟩,
    ⟨some 24, none, .d (.mv (.t 27))⟩,
    ⟨some 28, none, .d (.extract (.t 24) 0)⟩,
    ⟨some 29, none, .d (.extract (.t 24) 1)⟩,
    ⟨some 5, none, .d (.mv (.t 28))⟩,
    ⟨some 6, none, .d (.mv (.t 29))⟩])
  (.seq (.reg [⟨some 31, none, .d (.mv (.t 0))⟩,
    ⟨some 32, none, .d (.call (.f f_DrawJoinStrings) [(.t 31)])⟩,
    ⟨some 30, none, .d (.mv (.t 32))⟩,
    ⟨some 33, none, .d (.extract (.t 30) 0)⟩,
    ⟨some 34, none, .d (.extract (.t 30) 1)⟩,
    ⟨some 7, none, .d (.mv (.t 33))⟩,
    ⟨some 8, none, .d (.mv (.t 34))⟩])
  (.seq (.reg [⟨some 36, none, .d (.mv (.t 7))⟩,
    ⟨some 37, none, .d (.mv (.t 8))⟩,
    ⟨some 38, none, .d (.call (.f f_implJoin) [(.t 36), (.t 37)])⟩,
    ⟨some 35, none, .d (.mv (.t 38))⟩,
    ⟨some 39, none, .d (.extract (.t 35) 0)⟩,
    ⟨some 40, none, .d (.extract (.t 35) 1)⟩,
    ⟨some 9, none, .d (.mv (.t 39))⟩,
    ⟨some 10, none, .d (.mv (.t 40))⟩])
  (.seq (.reg [⟨some 42, none, .d (.mv (.t 7))⟩,
    ⟨some 43, none, .d (.mv (.t 8))⟩,
    ⟨some 44, none, .d (.call (.f f_specJoin) [(.t 42), (.t 43)])⟩,
    ⟨some 41, none, .d (.mv (.t 44))⟩,
    ⟨some 45, none, .d (.extract (.t 41) 0)⟩,
    ⟨some 46, none, .d (.extract (.t 41) 1)⟩,
    ⟨some 11, none, .d (.mv (.t 45))⟩,
    ⟨some 12, none, .d (.mv (.t 46))⟩])
  (.seq (.reg [⟨some 48, none, .d (.mv (.t 0))⟩,
    ⟨some 49, none, .d (.call (.f f_DrawLessString) [(.t 48)])⟩,
    ⟨some 47, none, .d (.mv (.t 49))⟩,
    ⟨some 50, none, .d (.extract (.t 47) 0)⟩,
    ⟨some 51, none, .d (.extract (.t 47) 1)⟩,
    ⟨some 13, none, .d (.mv (.t 50))⟩,
    ⟨some 14, none, .d (.mv (.t 51))⟩])
  (.seq (.seq (.reg [⟨some 52, none, .d (.mv (.t 9))⟩,
    ⟨some 53, none, .d (.mv (.t 11))⟩,
    ⟨some 54, none, .d (.bin .str .neq (.t 52) (.t 53))⟩,
    ⟨some 55, none, .d (.mv (.t 54))⟩,
    ⟨some 56, some (55, false), .d (.mv (.t 10))⟩,
    ⟨some 57, some (55, false), .d (.mv (.t 12))⟩,
    ⟨some 58, some (55, false), .d (.bin .bool .neq (.t 56) (.t 57))⟩,
    ⟨some 59, none, .d (.pick (.t 55) (.c (.bool true)) (.t 58))⟩,
    ⟨some 60, none, .d (.mv (.t 59))⟩,
    ⟨some 61, some (60, false), .d (.mv (.t 13))⟩,
    ⟨some 62, some (60, false), .d (.mv (.t 14))⟩,
    ⟨some 63, some (60, false), .d (.call (.f f_LessString) [(.t 61), (.t 62)])⟩,
    ⟨some 64, some (60, false), .d (.mv (.t 13))⟩,
    ⟨some 65, some (60, false), .d (.mv (.t 14))⟩,
    ⟨some 66, some (60, false), .d (.call (.f f_LessString2) [(.t 64), (.t 65)])⟩,
    ⟨some 67, some (60, false), .d (.bin .bool .neq (.t 63) (.t 66))⟩,
    ⟨some 68, none, .d (.pick (.t 60) (.c (.bool true)) (.t 67))⟩,
    ⟨some 69, none, .d (.mv (.t 68))⟩,
    ⟨some 70, some (69, false), .d (.mv (.t 13))⟩,
    ⟨some 71, some (69, false), .d (.mv (.t 14))⟩,
    ⟨some 72, some (69, false), .d (.call (.f f_LessString) [(.t 70), (.t 71)])⟩,
    ⟨some 73, some (69, false), .d (.mv (.t 72))⟩,
    ⟨some 74, some (73, true), .d (.mv (.t 14))⟩,
    ⟨some 75, some (73, true), .d (.mv (.t 13))⟩,
    ⟨some 76, some (73, true), .d (.call (.f f_LessString) [(.t 74), (.t 75)])⟩,
    ⟨some 77, some (69, false), .d (.pick (.t 73) (.t 76) (.c (.bool false)))⟩,
    ⟨some 78, none, .d (.pick (.t 69) (.c (.bool true)) (.t 77))⟩])
  (.cond (.t 78) (.seq (.reg [⟨some 2, none, .d (.mv (.c (.bool false)))⟩])
   (.ret)) (.skip)))
  (.seq (.seq (.reg [⟨some 79, none, .d (.mv (.t 4))⟩,
    ⟨some 80, none, .d (.lenS (.t 79))⟩,
    ⟨some 81, none, .d (.bin .arith .neq (.t 80) (.c (.int .i64 1)))⟩])
  (.cond (.t 81) (.seq (.reg [⟨some 82, none, .d (.mv (.t 6))⟩,
     ⟨some 83, none, .d (.not (.t 82))⟩,
     ⟨some 84, none, .d (.mv (.t 83))⟩,
     ⟨some 85, some (84, true), .d (.mv (.t 5))⟩,
     ⟨some 86, some (84, true), .d (.len (.t 85))⟩,
     ⟨some 87, some (84, true), .d (.bin .arith .eql (.t 86) (.c (.int .i64 0)))⟩,
     ⟨some 88, none, .d (.pick (.t 84) (.t 87) (.c (.bool false)))⟩,
     ⟨some 2, none, .d (.mv (.t 88))⟩])
   (.ret)) (.skip)))
  (.seq (.reg [⟨some 90, none, .d (.mv (.t 5))⟩,
    ⟨some 91, none, .d (.mv (.t 4))⟩,
    ⟨some 92, none, .d (.call (.f f_implJoin) [(.t 90), (.t 91)])⟩,
    ⟨some 89, none, .d (.mv (.t 92))⟩,
    ⟨some 93, none, .d (.extract (.t 89) 0)⟩,
    ⟨some 94, none, .d (.extract (.t 89) 1)⟩,
    ⟨some 15, none, .d (.mv (.t 93))⟩,
    ⟨some 16, none, .d (.mv (.t 94))⟩])
  (.seq (.reg [⟨some 95, none, .d (.mv (.t 6))⟩,
    ⟨some 96, none, .d (.mv (.t 95))⟩,
    ⟨some 97, some (96, true), .d (.mv (.t 16))⟩,
    ⟨some 98, none, .d (.pick (.t 96) (.t 97) (.c (.bool false)))⟩,
    ⟨some 99, none, .d (.mv (.t 98))⟩,
    ⟨some 100, some (99, true), .d (.mv (.t 15))⟩,
    ⟨some 101, some (99, true), .d (.mv (.t 3))⟩,
    ⟨some 102, some (99, true), .d (.bin .str .eql (.t 100) (.t 101))⟩,
    ⟨some 103, none, .d (.pick (.t 99) (.t 102) (.c (.bool false)))⟩,
    ⟨some 2, none, .d (.mv (.t 103))⟩])
  (.ret)))))))))))), [.tmp 2]⟩
def n_x_SplitJoin : Nat → Option Ann := fun _ => none
abbrev k_x_SplitJoin : List Nat := [0, 2, 3, 4, 5, 6, 7, 8, 9, 10, 11, 12, 13, 14, 15, 16, 18, 78, 81]
abbrev o_x_SplitJoin : List Nat := []
def c_x_SplitJoin : Con := pure' fun
  | [.p v] => match slU v with
    | some l => if l.length ≤ 9223372036854775807 then some (.p (.bool true), []) else none
    | none => none
  | _ => none
set_option maxHeartbeats 8000000 in
set_option maxRecDepth 100000 in
theorem s_x_SplitJoin {P : Program} (hm : P.follows .mixedOrders = true) {Γ : Gam} (hΓ : GS P Γ) {n : FuncId} {f_vBig : FuncId} {f_DrawSplitString : FuncId} {f_SplitString : FuncId} {f_DrawJoinStrings : FuncId} {f_implJoin : FuncId} {f_specJoin : FuncId} {f_DrawLessString : FuncId} {f_LessString : FuncId} {f_LessString2 : FuncId} (is : Is P n (a_x_SplitJoin f_vBig f_DrawSplitString f_SplitString f_DrawJoinStrings f_implJoin f_specJoin f_DrawLessString f_LessString f_LessString2)) (h_vBig : Γ f_vBig = c_vBig) (h_DrawSplitString : Γ f_DrawSplitString = c_DrawSplitString) (h_SplitString : Γ f_SplitString = c_SplitString) (h_DrawJoinStrings : Γ f_DrawJoinStrings = c_DrawJoinStrings) (h_implJoin : Γ f_implJoin = c_implJoin) (h_specJoin : Γ f_specJoin = c_implJoin) (h_DrawLessString : Γ f_DrawLessString = c_DrawLessString) (h_LessString : Γ f_LessString = c_LessString) (h_LessString2 : Γ f_LessString2 = c_LessString)  : Says P n c_x_SplitJoin := by
  refine Says.pure fun args r fs h => ?_
  split at h
  case h_2 => cases h
  rename_i v
  split at h
  case h_2 => cases h
  rename_i l hv
  split at h
  case isFalse => cases h
  rename_i hc
  simp only [Option.some.injEq, Prod.mk.injEq] at h
  obtain ⟨rfl, rfl⟩ := h
  by_cases hk : l.length > 65536
  · refine is.go hm hΓ k_x_SplitJoin o_x_SplitJoin (by simp [a_x_SplitJoin]) ?_
    simp only [a_x_SplitJoin, h_vBig, c_vBig, h_DrawSplitString, c_DrawSplitString, h_SplitString, c_SplitString, h_DrawJoinStrings, c_DrawJoinStrings, h_implJoin, c_implJoin, h_specJoin, c_implJoin, h_DrawLessString, c_DrawLessString, h_LessString, c_LessString, h_LessString2, c_LessString, hv, hk, List.zipIdx_cons, List.zipIdx_nil, ↓SP, SQ, Gam.add, stepM, callC, argC, lendO, nmBy, nmC, likeL, likeB, plainOb, offs, exL, X, F, trP, trO, stepD, stepW, newA, SV.tr, SV.trL, fz, allP, Ob.tr, loadA, cellsA, SV.cells, binA, binI, eqOut, isSl, isPt, natOf, callee, snap, SV.refsL, SV.refs, thaw, fzAll, loA, hiA, elemOf, partsA, buildA, putCells, ↓reduceIte, reduceCtorEq, okCell, Nat.reduceAdd, Nat.reduceEqDiff, Nat.reduceSub, Nat.reduceMul, Nat.reduceLeDiff, Nat.reduceLT, Nat.reduceBEq, PV.scal, PV.scalL, SV.scal, SV.scalL, Ob.scal, PV.isCell, pure', resO]
    exact finA_val (by simp [retA, rvA, mkE_cons, mk_nil, mkO_cons, mkO_nil, loadA, SV.tr, SV.trL, nmF, rn_nil, rn_cons1, rn_cons2, plainOb, SV.refsL, SV.refs, Ob.refs, X, F, List.range_succ, mkO, setO_mk]) (by simp [SV.tr, SV.trL])
  have hl := (slU_out hv).2
  have ma := lsA_mem hl
  have mb := lsB_mem hl
  have mp := ssB_mem hl
  obtain ⟨j1, j2⟩ := jdR_b hl
  have j3 := jdR_sep hl
  have za := an_size _ ma
  have zp := sp_size _ mp
  have has := less_asym _ ma _ mb
  have hsb := split_back _ ma _ mp
  have y1 : (jdR l).1.length ≤ 5000 := by omega
  have y2 : (jdR l).2.size ≤ 5000 := by omega
  have y3 : ∀ x ∈ (jdR l).1, x.size ≤ 5000 := fun x hx => by have := j2 x hx; omega
  generalize hA : lsA l = A at *
  generalize hB : lsB l = B at *
  generalize hp : ssB l = p at *
  generalize hJ : jdR l = J at *
  have has2 : Op.bytesLess A.toList B.toList = false ∨ (Op.bytesLess A.toList B.toList = true ∧ Op.bytesLess B.toList A.toList = false) := by
    cases h : Op.bytesLess A.toList B.toList with
    | false => exact .inl rfl
    | true => exact .inr ⟨rfl, has h⟩
  have y4 := eq_true y3
  by_cases h1 : p.size = 1
  · obtain ⟨d1, d2, d3⟩ := hsb h1
    have d4 := eq_true d2
    have e1 : ((p.size : Int) != 1) = false := by simp [h1]
    rcases has2 with hab | ⟨hab, hba⟩
    · refine is.go hm hΓ k_x_SplitJoin o_x_SplitJoin (by simp [a_x_SplitJoin]) ?_
      simp only [a_x_SplitJoin, h_vBig, c_vBig, h_DrawSplitString, c_DrawSplitString, h_SplitString, c_SplitString, h_DrawJoinStrings, c_DrawJoinStrings, h_implJoin, c_implJoin, h_specJoin, c_implJoin, h_DrawLessString, c_DrawLessString, h_LessString, c_LessString, h_LessString2, c_LessString, hv, hk, hA, hB, hp, hJ, za, zp, h1, y1, y2, y4, hab, d1, d3, d4, strs_len, isStr_strs, ofSt_strs, binS, beq_self_eq_true, bne_self_eq_false, Bool.not_true, Bool.false_eq_true, if_false, if_true, (by decide : ((1 : Int) != 1) = false), (by decide : 1 ≤ 4000), (by decide : 1 ≤ 5000), Int.cast_ofNat_Int, List.zipIdx_cons, List.zipIdx_nil, ↓SP, SQ, Gam.add, stepM, callC, argC, lendO, nmBy, nmC, likeL, likeB, plainOb, offs, exL, X, F, trP, trO, stepD, stepW, newA, SV.tr, SV.trL, fz, allP, Ob.tr, loadA, cellsA, SV.cells, binA, binI, eqOut, isSl, isPt, natOf, callee, snap, SV.refsL, SV.refs, thaw, fzAll, loA, hiA, elemOf, partsA, buildA, putCells, ↓reduceIte, reduceCtorEq, okCell, Nat.reduceAdd, Nat.reduceEqDiff, Nat.reduceSub, Nat.reduceMul, Nat.reduceLeDiff, Nat.reduceLT, Nat.reduceBEq, PV.scal, PV.scalL, SV.scal, SV.scalL, Ob.scal, PV.isCell, pure', resO]
      exact finA_val (by simp [retA, rvA, mkE_cons, mk_nil, mkO_cons, mkO_nil, loadA, SV.tr, SV.trL, nmF, rn_nil, rn_cons1, rn_cons2, plainOb, SV.refsL, SV.refs, Ob.refs, X, F, List.range_succ, mkO, setO_mk]) (by simp [SV.tr, SV.trL])
    · refine is.go hm hΓ k_x_SplitJoin o_x_SplitJoin (by simp [a_x_SplitJoin]) ?_
      simp only [a_x_SplitJoin, h_vBig, c_vBig, h_DrawSplitString, c_DrawSplitString, h_SplitString, c_SplitString, h_DrawJoinStrings, c_DrawJoinStrings, h_implJoin, c_implJoin, h_specJoin, c_implJoin, h_DrawLessString, c_DrawLessString, h_LessString, c_LessString, h_LessString2, c_LessString, hv, hk, hA, hB, hp, hJ, za, zp, h1, y1, y2, y4, hab, hba, d1, d3, d4, strs_len, isStr_strs, ofSt_strs, binS, beq_self_eq_true, bne_self_eq_false, Bool.not_true, Bool.false_eq_true, if_false, if_true, (by decide : ((1 : Int) != 1) = false), (by decide : 1 ≤ 4000), (by decide : 1 ≤ 5000), Int.cast_ofNat_Int, List.zipIdx_cons, List.zipIdx_nil, ↓SP, SQ, Gam.add, stepM, callC, argC, lendO, nmBy, nmC, likeL, likeB, plainOb, offs, exL, X, F, trP, trO, stepD, stepW, newA, SV.tr, SV.trL, fz, allP, Ob.tr, loadA, cellsA, SV.cells, binA, binI, eqOut, isSl, isPt, natOf, callee, snap, SV.refsL, SV.refs, thaw, fzAll, loA, hiA, elemOf, partsA, buildA, putCells, ↓reduceIte, reduceCtorEq, okCell, Nat.reduceAdd, Nat.reduceEqDiff, Nat.reduceSub, Nat.reduceMul, Nat.reduceLeDiff, Nat.reduceLT, Nat.reduceBEq, PV.scal, PV.scalL, SV.scal, SV.scalL, Ob.scal, PV.isCell, pure', resO]
      exact finA_val (by simp [retA, rvA, mkE_cons, mk_nil, mkO_cons, mkO_nil, loadA, SV.tr, SV.trL, nmF, rn_nil, rn_cons1, rn_cons2, plainOb, SV.refsL, SV.refs, Ob.refs, X, F, List.range_succ, mkO, setO_mk]) (by simp [SV.tr, SV.trL])
  · have e1 : ((p.size : Int) != 1) = true := by simp only [bne_iff_ne, ne_eq]; omega
    rcases has2 with hab | ⟨hab, hba⟩
    · refine is.go hm hΓ k_x_SplitJoin o_x_SplitJoin (by simp [a_x_SplitJoin]) ?_
      simp only [a_x_SplitJoin, h_vBig, c_vBig, h_DrawSplitString, c_DrawSplitString, h_SplitString, c_SplitString, h_DrawJoinStrings, c_DrawJoinStrings, h_implJoin, c_implJoin, h_specJoin, c_implJoin, h_DrawLessString, c_DrawLessString, h_LessString, c_LessString, h_LessString2, c_LessString, hv, hk, hA, hB, hp, hJ, za, zp, h1, e1, y1, y2, y4, hab, strs_len, isStr_strs, ofSt_strs, binS, beq_self_eq_true, bne_self_eq_false, Bool.not_true, Bool.false_eq_true, if_false, if_true, List.zipIdx_cons, List.zipIdx_nil, ↓SP, SQ, Gam.add, stepM, callC, argC, lendO, nmBy, nmC, likeL, likeB, plainOb, offs, exL, X, F, trP, trO, stepD, stepW, newA, SV.tr, SV.trL, fz, allP, Ob.tr, loadA, cellsA, SV.cells, binA, binI, eqOut, isSl, isPt, natOf, callee, snap, SV.refsL, SV.refs, thaw, fzAll, loA, hiA, elemOf, partsA, buildA, putCells, ↓reduceIte, reduceCtorEq, okCell, Nat.reduceAdd, Nat.reduceEqDiff, Nat.reduceSub, Nat.reduceMul, Nat.reduceLeDiff, Nat.reduceLT, Nat.reduceBEq, PV.scal, PV.scalL, SV.scal, SV.scalL, Ob.scal, PV.isCell, pure', resO]
      exact finA_val (by simp [retA, rvA, mkE_cons, mk_nil, mkO_cons, mkO_nil, loadA, SV.tr, SV.trL, nmF, rn_nil, rn_cons1, rn_cons2, plainOb, SV.refsL, SV.refs, Ob.refs, X, F, List.range_succ, mkO, setO_mk]) (by simp [SV.tr, SV.trL])
    · refine is.go hm hΓ k_x_SplitJoin o_x_SplitJoin (by simp [a_x_SplitJoin]) ?_
      simp only [a_x_SplitJoin, h_vBig, c_vBig, h_DrawSplitString, c_DrawSplitString, h_SplitString, c_SplitString, h_DrawJoinStrings, c_DrawJoinStrings, h_implJoin, c_implJoin, h_specJoin, c_implJoin, h_DrawLessString, c_DrawLessString, h_LessString, c_LessString, h_LessString2, c_LessString, hv, hk, hA, hB, hp, hJ, za, zp, h1, e1, y1, y2, y4, hab, hba, strs_len, isStr_strs, ofSt_strs, binS, beq_self_eq_true, bne_self_eq_false, Bool.not_true, Bool.false_eq_true, if_false, if_true, List.zipIdx_cons, List.zipIdx_nil, ↓SP, SQ, Gam.add, stepM, callC, argC, lendO, nmBy, nmC, likeL, likeB, plainOb, offs, exL, X, F, trP, trO, stepD, stepW, newA, SV.tr, SV.trL, fz, allP, Ob.tr, loadA, cellsA, SV.cells, binA, binI, eqOut, isSl, isPt, natOf, callee, snap, SV.refsL, SV.refs, thaw, fzAll, loA, hiA, elemOf, partsA, buildA, putCells, ↓reduceIte, reduceCtorEq, okCell, Nat.reduceAdd, Nat.reduceEqDiff, Nat.reduceSub, Nat.reduceMul, Nat.reduceLeDiff, Nat.reduceLT, Nat.reduceBEq, PV.scal, PV.scalL, SV.scal, SV.scalL, Ob.scal, PV.isCell, pure', resO]
      exact finA_val (by simp [retA, rvA, mkE_cons, mk_nil, mkO_cons, mkO_nil, loadA, SV.tr, SV.trL, nmF, rn_nil, rn_cons1, rn_cons2, plainOb, SV.refsL, SV.refs, Ob.refs, X, F, List.range_succ, mkO, setO_mk]) (by simp [SV.tr, SV.trL])
end Go.Proofs.Ytpobnchalcokoaa.Pam
