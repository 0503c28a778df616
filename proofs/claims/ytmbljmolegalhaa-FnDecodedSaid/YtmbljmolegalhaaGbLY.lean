/- A part of the proof that stands in this folder: a small machine whose steps are shown to be the steps of the model, or walks of functions by it. No condition of its own. -/
import Derived.Test.YtmbljmolegalhaaGbLV
set_option linter.unusedVariables false
set_option linter.unusedSimpArgs false
namespace Go.Proofs.Ytmbljmolegalhaa.Pam
open Go
theorem pcN_le2 : ∀ f x k, x < 2 ^ k → pcN f x ≤ k
  | 0, _, _, _ => by simp [pcN]
  | f + 1, x, 0, h => by
    have : x = 0 := by simp at h; omega
    rw [this, pcN_zero]; omega
  | f + 1, x, k + 1, h => by
    have h2 : x / 2 < 2 ^ k := by rw [Nat.pow_succ] at h; omega
    have := pcN_le2 f (x / 2) k h2
    have := Nat.mod_lt x (y := 2) (by omega)
    simp only [pcN]; omega
theorem wdL_get (l : List Int) {n i : Nat} (h : i < n) : (wdL l n).getD i 0 = (wdN l i l.length : Int) := by
  rw [getD_lt (by rw [wdL_len]; exact h)]; simp [wdL]
theorem apD_le (l : List Int) {n i j : Nat} (hi : i < n) (hj : j < n) : 0 ≤ apD (wdL l n) i j ∧ apD (wdL l n) i j ≤ l.length := by
  have := pcN_le2 14 (wdN l i l.length ^^^ wdN l j l.length) l.length (Nat.xor_lt_two_pow (wdN_lt _ _ _) (wdN_lt _ _ _))
  simp only [apD, wdL_get l hi, wdL_get l hj, Int.toNat_natCast]
  omega
theorem gI_le (l : List Int) {n i : Nat} (hi : i < n) {g : Int} (hg : 0 ≤ g ∧ g ≤ l.length) : ∀ j, j ≤ i → 0 ≤ gI (wdL l n) i g j ∧ gI (wdL l n) i g j ≤ l.length
  | 0, _ => hg
  | j + 1, h => by
    have h1 := gI_le l hi hg j (by omega)
    have h2 := apD_le l hi (show j < n by omega)
    simp only [gI]
    split
    · exact h2
    · exact h1
theorem gO_le (l : List Int) {n : Nat} : ∀ i, i ≤ n → 0 ≤ gO (wdL l n) i ∧ gO (wdL l n) i ≤ l.length
  | 0, _ => by simp [gO]
  | i + 1, h => gI_le l (by omega) (gO_le l i (by omega)) i (Nat.le_refl _)
/-- Whether a scheme's chances are asked. -/
def okS (n : Int) (l : List Int) (s o : Int) : Bool := isSm n l && decide ((l.length : Int) ≤ 12) && isD s o
def gapN (n : Int) (l : List Int) : Int := gO (wdL l n.toNat) n.toNat
def saX (n : Int) (l : List Int) (s o : Int) : Nat := inB s.toNat o.toNat l.length (((gapN n l - 1).tdiv 2).toNat + 1)
def saP (n : Int) (l : List Int) (s o : Int) : Int × Int := if okS n l s o = true then (if n = 1 then (1, 1) else if gapN n l = 0 then (0, 1) else (frN (saX n l s o) (o.toNat ^ l.length), frD (saX n l s o) (o.toNat ^ l.length))) else (0, 0)
theorem okS_out {n : Int} {l : List Int} {s o : Int} (h : okS n l s o = true) : 1 ≤ n ∧ n ≤ 12 ∧ l.length ≤ 12 ∧ isD s o = true := by
  simp only [okS, isSm, Bool.and_eq_true, decide_eq_true_eq] at h
  exact ⟨h.1.1.1.1.1, h.1.1.1.1.2, by omega, h.2⟩
def a_ChanceSafe (f_isDrawnScheme : FuncId) (f_gap : FuncId) (f_dWithin : FuncId) (f_dOf : FuncId) : AFn := ⟨3, 
  .seq (.reg [⟨some 5, none, .w (.box 2 (.t 2))⟩,
    ⟨some 6, none, .w (.alloc [.int .i64 0, .int .i64 0])⟩,
    ⟨some 7, none, .d (.mv (.c (.bool false)))⟩])
  (.seq (.seq (.reg [⟨some 9, none, .d (.mv (.t 0))⟩,
    ⟨some 10, none, .d (.mv (.t 1))⟩,
    ⟨some 11, none, .d (.load true 2 (.t 5))⟩,
    ⟨some 12, none, .d (.call (.f f_isDrawnScheme) [(.t 9), (.t 10), (.t 11)])⟩,
    ⟨some 13, none, .d (.not (.t 12))⟩])
  (.cond (.t 13) (.seq (.reg [⟨some 14, none, .d (.build [.int .i64 0, .int .i64 0] [])⟩,
     ⟨none, none, .w (.store 2 (.t 6) (.t 14))⟩,
     ⟨some 7, none, .d (.mv (.c (.bool false)))⟩])
   (.ret)) (.skip)))
  (.seq (.reg [⟨some 15, none, .d (.mv (.t 0))⟩,
    ⟨some 16, none, .d (.mv (.t 1))⟩,
    ⟨some 17, none, .d (.call (.f f_gap) [(.t 15), (.t 16)])⟩,
    ⟨some 8, none, .d (.mv (.t 17))⟩])
  (.seq (.block 0 (.seq (.reg [⟨some 19, none, .d (.mv (.t 0))⟩,
     ⟨some 20, none, .d (.bin .arith .eql (.t 19) (.c (.int .i64 1)))⟩,
     ⟨some 18, none, .d (.mv (.t 20))⟩])
   (.cond (.t 18) (.seq (.reg [⟨some 21, none, .d (.build [.int .i64 0, .int .i64 0] [(0, 1, (.c (.int .i64 1))), (1, 1, (.c (.int .i64 1)))])⟩,
      ⟨none, none, .w (.store 2 (.t 6) (.t 21))⟩,
      ⟨some 7, none, .d (.mv (.c (.bool true)))⟩])
    (.ret)) (.seq (.reg [⟨some 23, none, .d (.mv (.t 8))⟩,
      ⟨some 24, none, .d (.bin .arith .eql (.t 23) (.c (.int .i64 0)))⟩,
      ⟨some 22, none, .d (.mv (.t 24))⟩])
    (.cond (.t 22) (.seq (.reg [⟨some 25, none, .d (.build [.int .i64 0, .int .i64 0] [(0, 1, (.c (.int .i64 0))), (1, 1, (.c (.int .i64 1)))])⟩,
       ⟨none, none, .w (.store 2 (.t 6) (.t 25))⟩,
       ⟨some 7, none, .d (.mv (.c (.bool true)))⟩])
     (.ret)) (.skip))))))
  (.seq (.dreg [] [([], ⟨some 26, none, .d (.load true 2 (.t 5))⟩),
    ([], ⟨some 27, none, .d (.mv (.t 1))⟩),
    ([], ⟨some 28, none, .d (.len (.t 27))⟩),
    ([], ⟨some 29, none, .d (.load true 2 (.t 5))⟩),
    ([], ⟨some 30, none, .d (.mv (.t 1))⟩),
    ([], ⟨some 31, none, .d (.len (.t 30))⟩),
    ([], ⟨some 32, none, .d (.mv (.t 8))⟩),
    ([], ⟨some 33, none, .d (.bin .arith .sub (.t 32) (.c (.int .i64 1)))⟩),
    ([], ⟨some 34, none, .d (.bin .arith .quo (.t 33) (.c (.int .i64 2)))⟩),
    ([], ⟨some 35, none, .d (.call (.f f_dWithin) [(.t 29), (.t 31), (.t 34)])⟩)] [⟨some 36, none, .d (.call (.f f_dOf) [(.t 26), (.t 28), (.t 35)])⟩,
    ⟨none, none, .w (.store 2 (.t 6) (.t 36))⟩,
    ⟨some 7, none, .d (.mv (.c (.bool true)))⟩])
  (.ret))))), [.cell 6 2 true, .tmp 7]⟩
def n_ChanceSafe : Nat → Option Ann := fun _ => none
abbrev k_ChanceSafe : List Nat := [0, 1, 2, 5, 6, 7, 8, 13, 18, 22]
abbrev o_ChanceSafe : List Nat := [5, 6]
def a_s_ChanceSafe (f_l7Scheme : FuncId) (f_l5Words : FuncId) (f_l5Gap : FuncId) (f_l7Within : FuncId) (f_l7Power : FuncId) (f_l7Cut : FuncId) : AFn := ⟨3, 
  .seq (.reg [⟨some 5, none, .w (.box 2 (.t 2))⟩,
    ⟨some 6, none, .w (.alloc [.int .i64 0, .int .i64 0])⟩,
    ⟨some 7, none, .d (.mv (.c (.bool false)))⟩])
  (.seq (.seq (.reg [⟨some 10, none, .d (.mv (.t 0))⟩,
    ⟨some 11, none, .d (.mv (.t 1))⟩,
    ⟨some 12, none, .d (.load true 2 (.t 5))⟩,
    ⟨some 13, none, .d (.call (.f f_l7Scheme) [(.t 10), (.t 11), (.t 12)])⟩,
    ⟨some 14, none, .d (.not (.t 13))⟩])
  (.cond (.t 14) (.seq (.reg [⟨some 15, none, .d (.build [.int .i64 0, .int .i64 0] [])⟩,
     ⟨none, none, .w (.store 2 (.t 6) (.t 15))⟩,
     ⟨some 7, none, .d (.mv (.c (.bool false)))⟩])
   (.ret)) (.skip)))
  (.seq (.reg [⟨some 16, none, .d (.mv (.t 1))⟩,
    ⟨some 17, none, .d (.len (.t 16))⟩,
    ⟨some 18, none, .d (.mv (.t 0))⟩,
    ⟨some 19, none, .d (.mv (.t 1))⟩,
    ⟨some 20, none, .d (.call (.f f_l5Words) [(.t 18), (.t 19)])⟩,
    ⟨some 21, none, .d (.call (.f f_l5Gap) [(.t 20)])⟩,
    ⟨some 8, none, .d (.mv (.t 17))⟩,
    ⟨some 9, none, .d (.mv (.t 21))⟩])
  (.seq (.block 0 (.seq (.reg [⟨some 23, none, .d (.mv (.t 0))⟩,
     ⟨some 24, none, .d (.bin .arith .eql (.t 23) (.c (.int .i64 1)))⟩,
     ⟨some 22, none, .d (.mv (.t 24))⟩])
   (.cond (.t 22) (.seq (.reg [⟨some 25, none, .d (.build [.int .i64 0, .int .i64 0] [(0, 1, (.c (.int .i64 1))), (1, 1, (.c (.int .i64 1)))])⟩,
      ⟨none, none, .w (.store 2 (.t 6) (.t 25))⟩,
      ⟨some 7, none, .d (.mv (.c (.bool true)))⟩])
    (.ret)) (.seq (.reg [⟨some 27, none, .d (.mv (.t 9))⟩,
      ⟨some 28, none, .d (.bin .arith .eql (.t 27) (.c (.int .i64 0)))⟩,
      ⟨some 26, none, .d (.mv (.t 28))⟩])
    (.cond (.t 26) (.seq (.reg [⟨some 29, none, .d (.build [.int .i64 0, .int .i64 0] [(0, 1, (.c (.int .i64 0))), (1, 1, (.c (.int .i64 1)))])⟩,
       ⟨none, none, .w (.store 2 (.t 6) (.t 29))⟩,
       ⟨some 7, none, .d (.mv (.c (.bool true)))⟩])
     (.ret)) (.skip))))))
  (.seq (.dreg [] [([], ⟨some 30, none, .d (.mv (.t 8))⟩),
    ([], ⟨some 31, none, .d (.mv (.t 9))⟩),
    ([], ⟨some 32, none, .d (.bin .arith .sub (.t 31) (.c (.int .i64 1)))⟩),
    ([], ⟨some 33, none, .d (.bin .arith .quo (.t 32) (.c (.int .i64 2)))⟩),
    ([], ⟨some 34, none, .d (.load true 2 (.t 5))⟩),
    ([], ⟨some 35, none, .d (.call (.f f_l7Within) [(.t 30), (.t 33), (.t 34)])⟩),
    ([], ⟨some 36, none, .d (.fa 1 (.t 5))⟩),
    ([], ⟨some 37, none, .d (.load false 1 (.t 36))⟩),
    ([], ⟨some 38, none, .d (.mv (.t 8))⟩)] [⟨some 39, none, .d (.call (.f f_l7Power) [(.t 37), (.t 38)])⟩,
    ⟨some 40, none, .d (.call (.f f_l7Cut) [(.t 35), (.t 39)])⟩,
    ⟨none, none, .w (.store 2 (.t 6) (.t 40))⟩,
    ⟨some 7, none, .d (.mv (.c (.bool true)))⟩])
  (.ret))))), [.cell 6 2 true, .tmp 7]⟩
def n_s_ChanceSafe : Nat → Option Ann := fun _ => none
abbrev k_s_ChanceSafe : List Nat := [0, 1, 2, 5, 6, 7, 8, 9, 14, 22, 26]
abbrev o_s_ChanceSafe : List Nat := [5, 6]
def c_ChanceSafe : Con := pure' fun
  | [.p (.int .i64 n), .p (.sl 1 l_), .p (.agg [.int .i64 s, .int .i64 o])] => if isI l_ = true ∧ ((ofI l_).length ≤ 1100000) then some (.tp [.ag [.p (.int .i64 (saP n (ofI l_) s o).1), .p (.int .i64 (saP n (ofI l_) s o).2)], .p (.bool (okS n (ofI l_) s o))], []) else none
  | _ => none
theorem s_ChanceSafe {P : Program} (hm : P.follows .mixedOrders = true) {Γ : Gam} (hΓ : GS P Γ) {n : FuncId} {f_isDrawnScheme : FuncId} {f_gap : FuncId} {f_dWithin : FuncId} {f_dOf : FuncId} (is : Is P n (a_ChanceSafe f_isDrawnScheme f_gap f_dWithin f_dOf)) (h_isDrawnScheme : Γ f_isDrawnScheme = c_isDrawnScheme) (h_gap : Γ f_gap = c_gap) (h_dWithin : Γ f_dWithin = c_dWithin) (h_dOf : Γ f_dOf = c_dOf)  : Says P n c_ChanceSafe := by
  refine Says.pure fun args r fs h => ?_
  split at h
  case h_2 => cases h
  rename_i n l_ s o
  split at h
  case isFalse => cases h
  rename_i hc
  obtain ⟨hl_, hc⟩ := hc
  obtain ⟨l, rfl⟩ := isI_out hl_
  simp only [ofI_ints, ofBo_bools, ofAs_asks, Option.some.injEq, Prod.mk.injEq] at h hc
  obtain ⟨rfl, rfl⟩ := h
  have hokd : (isSm n l && decide ((l.length : Int) ≤ 12) && isD s o) = okS n l s o := rfl
  cases hok : okS n l s o with
  | false =>
    have hr : saP n l s o = (0, 0) := by simp only [saP, hok, Bool.false_eq_true, if_false]
    refine is.go hm hΓ k_ChanceSafe o_ChanceSafe (by simp [a_ChanceSafe]) ?_
    simp only [a_ChanceSafe, h_isDrawnScheme, c_isDrawnScheme, h_gap, c_gap, h_dWithin, c_dWithin, h_dOf, c_dOf, hc, hokd, hok, hr, List.zipIdx_cons, List.zipIdx_nil, ↓SP, SQ, Gam.add, stepM, callC, argC, lendO, nmBy, nmC, likeL, likeB, plainOb, offs, exL, X, F, trP, trO, stepD, stepW, newA, SV.tr, SV.trL, fz, allP, Ob.tr, loadA, cellsA, SV.cells, binA, binI, eqOut, isSl, isPt, natOf, callee, snap, SV.refsL, SV.refs, thaw, fzAll, loA, hiA, elemOf, partsA, buildA, putCells, ↓reduceIte, reduceCtorEq, okCell, Nat.reduceAdd, Nat.reduceEqDiff, Nat.reduceSub, Nat.reduceMul, Nat.reduceLeDiff, Nat.reduceLT, Nat.reduceBEq, PV.scal, PV.scalL, SV.scal, SV.scalL, Ob.scal, PV.isCell, pure', resO]
    exact finA_val (by simp [retA, rvA, mkE_cons, mk_nil, mkO_cons, mkO_nil, loadA, SV.tr, SV.trL, nmF, rn_nil, rn_cons1, rn_cons2, plainOb, SV.refsL, SV.refs, Ob.refs, X, F, List.range_succ, mkO, setO_mk]) (by simp [SV.tr, SV.trL])
  | true =>
    obtain ⟨n1, n2, l1, hd⟩ := okS_out hok
    obtain ⟨d1, d2, d3, d4⟩ := isD_out hd
    have hsm : isSm n l = true := by
      simp only [okS, Bool.and_eq_true] at hok; exact hok.1.1
    have l12 : (l.length : Int) ≤ 12 := by omega
    have l14 : l.length ≤ 14 := by omega
    have n0 : 0 ≤ n := by omega
    have hgd : gO (wdL l n.toNat) n.toNat = gapN n l := rfl
    have hgl : 0 ≤ gapN n l ∧ gapN n l ≤ l.length := gO_le l n.toNat (Nat.le_refl _)
    have hwl : (wdL l n.toNat).length = n.toNat := wdL_len _ _
    have hwl2 : (wdL l n.toNat).length ≤ 4096 := by omega
    have hn4 : n.toNat ≤ 4096 := by omega
    have hwf := wdL_fit l n.toNat l14
    by_cases hn1 : n = 1
    · have e1 : (n == 1) = true := beq_iff_eq.2 hn1
      have hr : saP n l s o = (1, 1) := by unfold saP; rw [if_pos hok, if_pos hn1]
      refine is.go hm hΓ k_ChanceSafe o_ChanceSafe (by simp [a_ChanceSafe]) ?_
      simp only [a_ChanceSafe, h_isDrawnScheme, c_isDrawnScheme, h_gap, c_gap, h_dWithin, c_dWithin, h_dOf, c_dOf, hc, hsm, l12, hd, decide_true, Bool.and_self, hok, hr, l14, n0, n2, hgd, e1, hwl, hn4, hwf, ints_len, ofI_ints, isI_ints, List.zipIdx_cons, List.zipIdx_nil, ↓SP, SQ, Gam.add, stepM, callC, argC, lendO, nmBy, nmC, likeL, likeB, plainOb, offs, exL, X, F, trP, trO, stepD, stepW, newA, SV.tr, SV.trL, fz, allP, Ob.tr, loadA, cellsA, SV.cells, binA, binI, eqOut, isSl, isPt, natOf, callee, snap, SV.refsL, SV.refs, thaw, fzAll, loA, hiA, elemOf, partsA, buildA, putCells, ↓reduceIte, reduceCtorEq, okCell, Nat.reduceAdd, Nat.reduceEqDiff, Nat.reduceSub, Nat.reduceMul, Nat.reduceLeDiff, Nat.reduceLT, Nat.reduceBEq, PV.scal, PV.scalL, SV.scal, SV.scalL, Ob.scal, PV.isCell, pure', resO]
      exact finA_val (by simp [retA, rvA, mkE_cons, mk_nil, mkO_cons, mkO_nil, loadA, SV.tr, SV.trL, nmF, rn_nil, rn_cons1, rn_cons2, plainOb, SV.refsL, SV.refs, Ob.refs, X, F, List.range_succ, mkO, setO_mk]) (by simp [SV.tr, SV.trL])
    · have e1 : (n == 1) = false := beq_eq_false_iff_ne.2 hn1
      by_cases hg0 : gapN n l = 0
      · have e2 : (gapN n l == 0) = true := beq_iff_eq.2 hg0
        have hr : saP n l s o = (0, 1) := by simp only [saP, hok, hn1, hg0, if_true, if_false]
        refine is.go hm hΓ k_ChanceSafe o_ChanceSafe (by simp [a_ChanceSafe]) ?_
        simp only [a_ChanceSafe, h_isDrawnScheme, c_isDrawnScheme, h_gap, c_gap, h_dWithin, c_dWithin, h_dOf, c_dOf, hc, hsm, l12, hd, decide_true, Bool.and_self, hok, hr, l14, n0, n2, hgd, e1, e2, hwl, hn4, hwf, ints_len, ofI_ints, isI_ints, List.zipIdx_cons, List.zipIdx_nil, ↓SP, SQ, Gam.add, stepM, callC, argC, lendO, nmBy, nmC, likeL, likeB, plainOb, offs, exL, X, F, trP, trO, stepD, stepW, newA, SV.tr, SV.trL, fz, allP, Ob.tr, loadA, cellsA, SV.cells, binA, binI, eqOut, isSl, isPt, natOf, callee, snap, SV.refsL, SV.refs, thaw, fzAll, loA, hiA, elemOf, partsA, buildA, putCells, ↓reduceIte, reduceCtorEq, okCell, Nat.reduceAdd, Nat.reduceEqDiff, Nat.reduceSub, Nat.reduceMul, Nat.reduceLeDiff, Nat.reduceLT, Nat.reduceBEq, PV.scal, PV.scalL, SV.scal, SV.scalL, Ob.scal, PV.isCell, pure', resO]
        exact finA_val (by simp [retA, rvA, mkE_cons, mk_nil, mkO_cons, mkO_nil, loadA, SV.tr, SV.trL, nmF, rn_nil, rn_cons1, rn_cons2, plainOb, SV.refsL, SV.refs, Ob.refs, X, F, List.range_succ, mkO, setO_mk]) (by simp [SV.tr, SV.trL])
      · have e2 : (gapN n l == 0) = false := beq_eq_false_iff_ne.2 hg0
        have hr : saP n l s o = (frN (saX n l s o) (o.toNat ^ l.length), frD (saX n l s o) (o.toNat ^ l.length)) := by simp only [saP, hok, hn1, hg0, if_true, if_false]
        have w1 : IntKind.i64.wrap (gapN n l - 1) = gapN n l - 1 := wrap64 (by omega) (by omega)
        have hq : 0 ≤ (gapN n l - 1).tdiv 2 ∧ (gapN n l - 1).tdiv 2 ≤ l.length := by
          rw [Int.tdiv_eq_ediv_of_nonneg (by omega)]; omega
        have w2 : IntKind.i64.wrap ((gapN n l - 1).tdiv 2) = (gapN n l - 1).tdiv 2 := wrap64 (by omega) (by omega)
        have hxd : inB s.toNat o.toNat l.length (((gapN n l - 1).tdiv 2).toNat + 1) = saX n l s o := rfl
        have hxb := inB_le (s := s.toNat) (o := o.toNat) (n := l.length) (by omega) (by omega) l1 (((gapN n l - 1).tdiv 2).toNat + 1) (by omega)
        rw [hxd] at hxb
        have x0 : (0 : Int) ≤ (saX n l s o : Int) := by omega
        have x1 : (saX n l s o : Int) ≤ 4000000000000000000 := by omega
        have l0 : (0 : Int) ≤ l.length := by omega
        have hp := pow_le (b := o.toNat) (e := l.length) (by omega) l1
        have hpos : 0 < o.toNat ^ l.length := Nat.pow_pos (by omega)
        have p1 : (0 : Int) < ((o.toNat ^ l.length : Nat) : Int) := by omega
        have p2 : ((o.toNat ^ l.length : Nat) : Int) ≤ 4000000000000000000 := by omega
        have o0 : 0 ≤ o := by omega
        refine is.go hm hΓ k_ChanceSafe o_ChanceSafe (by simp [a_ChanceSafe]) ?_
        simp only [a_ChanceSafe, h_isDrawnScheme, c_isDrawnScheme, h_gap, c_gap, h_dWithin, c_dWithin, h_dOf, c_dOf, hc, hsm, l12, decide_true, Bool.and_self, hok, hr, hd, l14, n0, n2, o0, d2, hgd, e1, e2, hwl, hn4, hwf, w1, w2, hq.1, hq.2, hxd, x0, x1, l0, l12, p1, p2, ints_len, ofI_ints, isI_ints, Int.toNat_natCast, Int.reduceEq, List.zipIdx_cons, List.zipIdx_nil, ↓SP, SQ, Gam.add, stepM, callC, argC, lendO, nmBy, nmC, likeL, likeB, plainOb, offs, exL, X, F, trP, trO, stepD, stepW, newA, SV.tr, SV.trL, fz, allP, Ob.tr, loadA, cellsA, SV.cells, binA, binI, eqOut, isSl, isPt, natOf, callee, snap, SV.refsL, SV.refs, thaw, fzAll, loA, hiA, elemOf, partsA, buildA, putCells, ↓reduceIte, reduceCtorEq, okCell, Nat.reduceAdd, Nat.reduceEqDiff, Nat.reduceSub, Nat.reduceMul, Nat.reduceLeDiff, Nat.reduceLT, Nat.reduceBEq, PV.scal, PV.scalL, SV.scal, SV.scalL, Ob.scal, PV.isCell, pure', resO]
        exact finA_val (by simp [retA, rvA, mkE_cons, mk_nil, mkO_cons, mkO_nil, loadA, SV.tr, SV.trL, nmF, rn_nil, rn_cons1, rn_cons2, plainOb, SV.refsL, SV.refs, Ob.refs, X, F, List.range_succ, mkO, setO_mk]) (by simp [SV.tr, SV.trL])
theorem s_s_ChanceSafe {P : Program} (hm : P.follows .mixedOrders = true) {Γ : Gam} (hΓ : GS P Γ) {n : FuncId} {f_l7Scheme : FuncId} {f_l5Words : FuncId} {f_l5Gap : FuncId} {f_l7Within : FuncId} {f_l7Power : FuncId} {f_l7Cut : FuncId} (is : Is P n (a_s_ChanceSafe f_l7Scheme f_l5Words f_l5Gap f_l7Within f_l7Power f_l7Cut)) (h_l7Scheme : Γ f_l7Scheme = c_isDrawnScheme) (h_l5Words : Γ f_l5Words = c_trueWords) (h_l5Gap : Γ f_l5Gap = c_l5Gap) (h_l7Within : Γ f_l7Within = c_l7Within) (h_l7Power : Γ f_l7Power = c_power) (h_l7Cut : Γ f_l7Cut = c_fraction)  : Says P n c_ChanceSafe := by
  refine Says.pure fun args r fs h => ?_
  split at h
  case h_2 => cases h
  rename_i n l_ s o
  split at h
  case isFalse => cases h
  rename_i hc
  obtain ⟨hl_, hc⟩ := hc
  obtain ⟨l, rfl⟩ := isI_out hl_
  simp only [ofI_ints, ofBo_bools, ofAs_asks, Option.some.injEq, Prod.mk.injEq] at h hc
  obtain ⟨rfl, rfl⟩ := h
  have hokd : (isSm n l && decide ((l.length : Int) ≤ 12) && isD s o) = okS n l s o := rfl
  cases hok : okS n l s o with
  | false =>
    have hr : saP n l s o = (0, 0) := by simp only [saP, hok, Bool.false_eq_true, if_false]
    refine is.go hm hΓ k_s_ChanceSafe o_s_ChanceSafe (by simp [a_s_ChanceSafe]) ?_
    simp only [a_s_ChanceSafe, h_l7Scheme, c_isDrawnScheme, h_l5Words, c_trueWords, h_l5Gap, c_l5Gap, h_l7Within, c_l7Within, h_l7Power, c_power, h_l7Cut, c_fraction, hc, hokd, hok, hr, List.zipIdx_cons, List.zipIdx_nil, ↓SP, SQ, Gam.add, stepM, callC, argC, lendO, nmBy, nmC, likeL, likeB, plainOb, offs, exL, X, F, trP, trO, stepD, stepW, newA, SV.tr, SV.trL, fz, allP, Ob.tr, loadA, cellsA, SV.cells, binA, binI, eqOut, isSl, isPt, natOf, callee, snap, SV.refsL, SV.refs, thaw, fzAll, loA, hiA, elemOf, partsA, buildA, putCells, ↓reduceIte, reduceCtorEq, okCell, Nat.reduceAdd, Nat.reduceEqDiff, Nat.reduceSub, Nat.reduceMul, Nat.reduceLeDiff, Nat.reduceLT, Nat.reduceBEq, PV.scal, PV.scalL, SV.scal, SV.scalL, Ob.scal, PV.isCell, pure', resO]
    exact finA_val (by simp [retA, rvA, mkE_cons, mk_nil, mkO_cons, mkO_nil, loadA, SV.tr, SV.trL, nmF, rn_nil, rn_cons1, rn_cons2, plainOb, SV.refsL, SV.refs, Ob.refs, X, F, List.range_succ, mkO, setO_mk]) (by simp [SV.tr, SV.trL])
  | true =>
    obtain ⟨n1, n2, l1, hd⟩ := okS_out hok
    obtain ⟨d1, d2, d3, d4⟩ := isD_out hd
    have hsm : isSm n l = true := by
      simp only [okS, Bool.and_eq_true] at hok; exact hok.1.1
    have l12 : (l.length : Int) ≤ 12 := by omega
    have l14 : l.length ≤ 14 := by omega
    have n0 : 0 ≤ n := by omega
    have hgd : gO (wdL l n.toNat) n.toNat = gapN n l := rfl
    have hgl : 0 ≤ gapN n l ∧ gapN n l ≤ l.length := gO_le l n.toNat (Nat.le_refl _)
    have hwl : (wdL l n.toNat).length = n.toNat := wdL_len _ _
    have hwl2 : (wdL l n.toNat).length ≤ 4096 := by omega
    have hn4 : n.toNat ≤ 4096 := by omega
    have hwf := wdL_fit l n.toNat l14
    by_cases hn1 : n = 1
    · have e1 : (n == 1) = true := beq_iff_eq.2 hn1
      have hr : saP n l s o = (1, 1) := by unfold saP; rw [if_pos hok, if_pos hn1]
      refine is.go hm hΓ k_s_ChanceSafe o_s_ChanceSafe (by simp [a_s_ChanceSafe]) ?_
      simp only [a_s_ChanceSafe, h_l7Scheme, c_isDrawnScheme, h_l5Words, c_trueWords, h_l5Gap, c_l5Gap, h_l7Within, c_l7Within, h_l7Power, c_power, h_l7Cut, c_fraction, hc, hsm, l12, hd, decide_true, Bool.and_self, hok, hr, l14, n0, n2, hgd, e1, hwl, hn4, hwf, ints_len, ofI_ints, isI_ints, List.zipIdx_cons, List.zipIdx_nil, ↓SP, SQ, Gam.add, stepM, callC, argC, lendO, nmBy, nmC, likeL, likeB, plainOb, offs, exL, X, F, trP, trO, stepD, stepW, newA, SV.tr, SV.trL, fz, allP, Ob.tr, loadA, cellsA, SV.cells, binA, binI, eqOut, isSl, isPt, natOf, callee, snap, SV.refsL, SV.refs, thaw, fzAll, loA, hiA, elemOf, partsA, buildA, putCells, ↓reduceIte, reduceCtorEq, okCell, Nat.reduceAdd, Nat.reduceEqDiff, Nat.reduceSub, Nat.reduceMul, Nat.reduceLeDiff, Nat.reduceLT, Nat.reduceBEq, PV.scal, PV.scalL, SV.scal, SV.scalL, Ob.scal, PV.isCell, pure', resO]
      exact finA_val (by simp [retA, rvA, mkE_cons, mk_nil, mkO_cons, mkO_nil, loadA, SV.tr, SV.trL, nmF, rn_nil, rn_cons1, rn_cons2, plainOb, SV.refsL, SV.refs, Ob.refs, X, F, List.range_succ, mkO, setO_mk]) (by simp [SV.tr, SV.trL])
    · have e1 : (n == 1) = false := beq_eq_false_iff_ne.2 hn1
      by_cases hg0 : gapN n l = 0
      · have e2 : (gapN n l == 0) = true := beq_iff_eq.2 hg0
        have hr : saP n l s o = (0, 1) := by simp only [saP, hok, hn1, hg0, if_true, if_false]
        refine is.go hm hΓ k_s_ChanceSafe o_s_ChanceSafe (by simp [a_s_ChanceSafe]) ?_
        simp only [a_s_ChanceSafe, h_l7Scheme, c_isDrawnScheme, h_l5Words, c_trueWords, h_l5Gap, c_l5Gap, h_l7Within, c_l7Within, h_l7Power, c_power, h_l7Cut, c_fraction, hc, hsm, l12, hd, decide_true, Bool.and_self, hok, hr, l14, n0, n2, hgd, e1, e2, hwl, hn4, hwf, ints_len, ofI_ints, isI_ints, List.zipIdx_cons, List.zipIdx_nil, ↓SP, SQ, Gam.add, stepM, callC, argC, lendO, nmBy, nmC, likeL, likeB, plainOb, offs, exL, X, F, trP, trO, stepD, stepW, newA, SV.tr, SV.trL, fz, allP, Ob.tr, loadA, cellsA, SV.cells, binA, binI, eqOut, isSl, isPt, natOf, callee, snap, SV.refsL, SV.refs, thaw, fzAll, loA, hiA, elemOf, partsA, buildA, putCells, ↓reduceIte, reduceCtorEq, okCell, Nat.reduceAdd, Nat.reduceEqDiff, Nat.reduceSub, Nat.reduceMul, Nat.reduceLeDiff, Nat.reduceLT, Nat.reduceBEq, PV.scal, PV.scalL, SV.scal, SV.scalL, Ob.scal, PV.isCell, pure', resO]
        exact finA_val (by simp [retA, rvA, mkE_cons, mk_nil, mkO_cons, mkO_nil, loadA, SV.tr, SV.trL, nmF, rn_nil, rn_cons1, rn_cons2, plainOb, SV.refsL, SV.refs, Ob.refs, X, F, List.range_succ, mkO, setO_mk]) (by simp [SV.tr, SV.trL])
      · have e2 : (gapN n l == 0) = false := beq_eq_false_iff_ne.2 hg0
        have hr : saP n l s o = (frN (saX n l s o) (o.toNat ^ l.length), frD (saX n l s o) (o.toNat ^ l.length)) := by simp only [saP, hok, hn1, hg0, if_true, if_false]
        have w1 : IntKind.i64.wrap (gapN n l - 1) = gapN n l - 1 := wrap64 (by omega) (by omega)
        have hq : 0 ≤ (gapN n l - 1).tdiv 2 ∧ (gapN n l - 1).tdiv 2 ≤ l.length := by
          rw [Int.tdiv_eq_ediv_of_nonneg (by omega)]; omega
        have w2 : IntKind.i64.wrap ((gapN n l - 1).tdiv 2) = (gapN n l - 1).tdiv 2 := wrap64 (by omega) (by omega)
        have hxd : inB s.toNat o.toNat l.length (((gapN n l - 1).tdiv 2).toNat + 1) = saX n l s o := rfl
        have hxb := inB_le (s := s.toNat) (o := o.toNat) (n := l.length) (by omega) (by omega) l1 (((gapN n l - 1).tdiv 2).toNat + 1) (by omega)
        rw [hxd] at hxb
        have x0 : (0 : Int) ≤ (saX n l s o : Int) := by omega
        have x1 : (saX n l s o : Int) ≤ 4000000000000000000 := by omega
        have l0 : (0 : Int) ≤ l.length := by omega
        have hp := pow_le (b := o.toNat) (e := l.length) (by omega) l1
        have hpos : 0 < o.toNat ^ l.length := Nat.pow_pos (by omega)
        have p1 : (0 : Int) < ((o.toNat ^ l.length : Nat) : Int) := by omega
        have p2 : ((o.toNat ^ l.length : Nat) : Int) ≤ 4000000000000000000 := by omega
        have o0 : 0 ≤ o := by omega
        refine is.go hm hΓ k_s_ChanceSafe o_s_ChanceSafe (by simp [a_s_ChanceSafe]) ?_
        simp only [a_s_ChanceSafe, h_l7Scheme, c_isDrawnScheme, h_l5Words, c_trueWords, h_l5Gap, c_l5Gap, h_l7Within, c_l7Within, h_l7Power, c_power, h_l7Cut, c_fraction, hc, hsm, l12, decide_true, Bool.and_self, hok, hr, hd, l14, n0, n2, o0, d2, hgd, e1, e2, hwl, hn4, hwf, w1, w2, hq.1, hq.2, hxd, x0, x1, l0, l12, p1, p2, ints_len, ofI_ints, isI_ints, Int.toNat_natCast, Int.reduceEq, List.zipIdx_cons, List.zipIdx_nil, ↓SP, SQ, Gam.add, stepM, callC, argC, lendO, nmBy, nmC, likeL, likeB, plainOb, offs, exL, X, F, trP, trO, stepD, stepW, newA, SV.tr, SV.trL, fz, allP, Ob.tr, loadA, cellsA, SV.cells, binA, binI, eqOut, isSl, isPt, natOf, callee, snap, SV.refsL, SV.refs, thaw, fzAll, loA, hiA, elemOf, partsA, buildA, putCells, ↓reduceIte, reduceCtorEq, okCell, Nat.reduceAdd, Nat.reduceEqDiff, Nat.reduceSub, Nat.reduceMul, Nat.reduceLeDiff, Nat.reduceLT, Nat.reduceBEq, PV.scal, PV.scalL, SV.scal, SV.scalL, Ob.scal, PV.isCell, pure', resO]
        exact finA_val (by simp [retA, rvA, mkE_cons, mk_nil, mkO_cons, mkO_nil, loadA, SV.tr, SV.trL, nmF, rn_nil, rn_cons1, rn_cons2, plainOb, SV.refsL, SV.refs, Ob.refs, X, F, List.range_succ, mkO, setO_mk]) (by simp [SV.tr, SV.trL])
def intOf : Option (SV × List Ob × List Ob) → Option Int
  | some (.p (.int .i64 x), [], []) => some x
  | _ => none
theorem intOf_out {o : Option (SV × List Ob × List Ob)} {x : Int} (h : intOf o = some x) : o = some (.p (.int .i64 x), [], []) := by
  unfold intOf at h
  split at h
  · simp only [Option.some.injEq] at h; rw [h]
  · cases h
/-- What a function handed on answers for the numbers below n. -/
def askI (Γ : Gam) (g : FuncId) (a b : List PV) (n : Nat) : Option (List Int) := (List.range n).mapM fun j : Nat => intOf (Γ g ((a ++ [PV.int .i64 (j : Nat)] ++ b).map .p) [])
theorem askI_len {Γ : Gam} {g : FuncId} {a b : List PV} {n : Nat} {ds : List Int} (h : askI Γ g a b n = some ds) : ds.length = n := by
  have := (mapM_some h).1
  simpa using this
theorem askI_get {Γ : Gam} {g : FuncId} {a b : List PV} {n : Nat} {ds : List Int} (h : askI Γ g a b n = some ds) {j : Nat} (hj : j < n) : Γ g ((a ++ [PV.int .i64 (j : Nat)] ++ b).map .p) [] = some (.p (.int .i64 (ds.getD j 0)), [], []) := by
  have hl := askI_len h
  have h2 := (mapM_some h).2 j (by simpa using hj) (by omega)
  rw [List.getElem_range] at h2
  rw [getD_lt (by omega)]
  exact intOf_out h2
theorem askI_eq {Γ : Gam} {g : FuncId} {a b : List PV} {q : Nat → Int} (n : Nat) (h : ∀ j, j < n → Γ g ((a ++ [PV.int .i64 (j : Nat)] ++ b).map .p) [] = some (.p (.int .i64 (q j)), [], [])) : askI Γ g a b n = some ((List.range n).map q) := by
  unfold askI
  have h' : ∀ j ∈ List.range n, Γ g ((a ++ [PV.int .i64 (j : Nat)] ++ b).map .p) [] = some (.p (.int .i64 (q j)), [], []) := fun j hj => h j (List.mem_range.1 hj)
  generalize List.range n = l at h'
  induction l with
  | nil => rfl
  | cons x r ih =>
    simp only [List.map_cons, List.mapM_cons]
    rw [h' x (by simp), ih fun y hy => h' y (by simp [hy])]
    rfl
/-- The least, and where it stands, of the first i. -/
def lsI (ds : List Int) : Nat → Int × List Int
  | 0 => (0, [])
  | i + 1 => if (lsI ds i).2.length = 0 ∨ ds.getD i 0 < (lsI ds i).1 then (ds.getD i 0, [(i : Int)]) else if ds.getD i 0 = (lsI ds i).1 then ((lsI ds i).1, (lsI ds i).2 ++ [(i : Int)]) else lsI ds i
theorem lsI_pos (ds : List Int) : ∀ i, 0 < (lsI ds (i + 1)).2.length
  | 0 => by simp [lsI]
  | i + 1 => by
    have := lsI_pos ds i
    rw [lsI]
    split
    · simp
    · split
      · simp
      · exact this
theorem lsI_len (ds : List Int) : ∀ i, (lsI ds i).2.length ≤ i
  | 0 => by simp [lsI]
  | i + 1 => by
    have := lsI_len ds i
    rw [lsI]
    split
    · simp
    · split
      · simp; omega
      · omega
def a_near1 (f_trueWord : FuncId) (f_apart : FuncId) : AFn := ⟨3, 
  .seq (.reg [⟨some 4, none, .d (.mv (.c (.int .i64 0)))⟩])
  (.seq (.dreg [] [([], ⟨some 5, none, .d (.load false 1 (.t 1))⟩),
    ([], ⟨some 6, none, .d (.mv (.t 0))⟩),
    ([], ⟨some 7, none, .d (.call (.f f_trueWord) [(.t 5), (.t 6)])⟩),
    ([], ⟨some 8, none, .d (.load false 1 (.t 2))⟩)] [⟨some 9, none, .d (.call (.f f_apart) [(.t 7), (.t 8)])⟩,
    ⟨some 4, none, .d (.mv (.t 9))⟩])
  (.ret)), [.tmp 4]⟩
def n_near1 : Nat → Option Ann := fun _ => none
abbrev k_near1 : List Nat := [0, 1, 2, 4]
abbrev o_near1 : List Nat := []
def c_near1 : Con := pure' fun
  | [.p (.int .i64 j), .p (.cp [.sl 1 ls]), .p (.cp [.int .i64 v])] => if isI ls = true ∧ ls.length ≤ 14 ∧ 0 ≤ j ∧ 0 ≤ v ∧ v < 16384 then some (.p (.int .i64 (pcN 14 (wdN (ofI ls) j ls.length ^^^ v.toNat) : Int)), []) else none
  | _ => none
theorem s_near1 {P : Program} (hm : P.follows .mixedOrders = true) {Γ : Gam} (hΓ : GS P Γ) {n : FuncId} {f_trueWord : FuncId} {f_apart : FuncId} (is : Is P n (a_near1 f_trueWord f_apart)) (h_trueWord : Γ f_trueWord = c_trueWord) (h_apart : Γ f_apart = c_l5Apart)  : Says P n c_near1 := by
  refine Says.pure fun args r fs h => ?_
  split at h
  case h_2 => cases h
  rename_i j ls v
  split at h
  case isFalse => cases h
  rename_i hc
  obtain ⟨hx, hl, hj, hv0, hv1⟩ := hc
  obtain ⟨l, rfl⟩ := isI_out hx
  rw [ints_len] at hl
  simp only [Option.some.injEq, Prod.mk.injEq, ofI_ints, ints_len] at h
  obtain ⟨rfl, rfl⟩ := h
  have hw := wdN_lt l j l.length
  have h14 := pow14 hl
  have g0 : (0 : Int) ≤ (wdN l j l.length : Int) := by omega
  have g1 : (wdN l j l.length : Int) < 16384 := by omega
  refine is.go hm hΓ k_near1 o_near1 (by simp [a_near1]) ?_
  simp only [a_near1, h_trueWord, c_trueWord, h_apart, c_l5Apart, hl, hj, hv0, hv1, g0, g1, Int.toNat_natCast, List.zipIdx_cons, List.zipIdx_nil, ↓SP, SQ, Gam.add, stepM, callC, argC, lendO, nmBy, nmC, likeL, likeB, plainOb, offs, exL, X, F, trP, trO, stepD, stepW, newA, SV.tr, SV.trL, fz, allP, Ob.tr, loadA, cellsA, SV.cells, binA, binI, eqOut, isSl, isPt, natOf, callee, snap, SV.refsL, SV.refs, thaw, fzAll, loA, hiA, elemOf, partsA, buildA, putCells, ↓reduceIte, reduceCtorEq, okCell, Nat.reduceAdd, Nat.reduceEqDiff, Nat.reduceSub, Nat.reduceMul, Nat.reduceLeDiff, Nat.reduceLT, Nat.reduceBEq, PV.scal, PV.scalL, SV.scal, SV.scalL, Ob.scal, PV.isCell, pure', resO]
  exact finA_val (by simp [retA, rvA, mkE_cons, mk_nil, mkO_cons, mkO_nil, loadA, SV.tr, SV.trL, nmF, rn_nil, rn_cons1, rn_cons2, plainOb, SV.refsL, SV.refs, Ob.refs, X, F, List.range_succ, mkO, setO_mk]) (by simp [SV.tr, SV.trL])
def a_leastOf : AFn := ⟨2, 
  .seq (.reg [⟨some 4, none, .d (.mv (.c (.int .i64 0)))⟩,
    ⟨some 5, none, .d (.mv (.c (.nilsl)))⟩])
  (.seq (.reg [⟨some 10, none, .w (.bslice 1 [] [])⟩,
    ⟨some 6, none, .d (.mv (.c (.int .i64 0)))⟩,
    ⟨some 7, none, .d (.mv (.t 10))⟩])
  (.seq (.seq (.reg [⟨some 11, none, .d (.mv (.t 0))⟩,
    ⟨some 12, none, .d (.mv (.c (.int .i64 0)))⟩])
  (.block 0 (.loop (.seq (.reg [⟨some 13, none, .d (.bin .arith .lss (.t 12) (.t 11))⟩])
    (.seq (.cond (.t 13) (.skip) (.exit 0))
    (.seq (.block 1 (.seq (.reg [⟨some 14, none, .d (.mv (.t 12))⟩,
       ⟨some 8, none, .d (.mv (.t 14))⟩])
     (.seq (.reg [⟨some 15, none, .d (.mv (.t 1))⟩,
       ⟨some 16, none, .d (.mv (.t 8))⟩,
       ⟨some 17, none, .d (.call (.t 15) [(.t 16)])⟩,
       ⟨some 9, none, .d (.mv (.t 17))⟩])
     (.seq (.seq (.reg [⟨some 18, none, .d (.mv (.t 7))⟩,
       ⟨some 19, none, .d (.len (.t 18))⟩,
       ⟨some 20, none, .d (.bin .arith .eql (.t 19) (.c (.int .i64 0)))⟩,
       ⟨some 21, none, .d (.mv (.t 20))⟩,
       ⟨some 22, some (21, false), .d (.mv (.t 9))⟩,
       ⟨some 23, some (21, false), .d (.mv (.t 6))⟩,
       ⟨some 24, some (21, false), .d (.bin .arith .lss (.t 22) (.t 23))⟩,
       ⟨some 25, none, .d (.pick (.t 21) (.c (.bool true)) (.t 24))⟩])
     (.cond (.t 25) (.reg [⟨some 26, none, .d (.mv (.t 9))⟩,
        ⟨some 6, none, .d (.mv (.t 26))⟩,
        ⟨some 7, none, .d (.mv (.c (.nilsl)))⟩]) (.skip)))
     (.seq (.reg [⟨some 27, none, .d (.mv (.t 9))⟩,
       ⟨some 28, none, .d (.mv (.t 6))⟩,
       ⟨some 29, none, .d (.bin .arith .eql (.t 27) (.t 28))⟩])
     (.cond (.t 29) (.reg [⟨some 30, none, .d (.mv (.t 7))⟩,
        ⟨some 31, none, .d (.mv (.t 8))⟩,
        ⟨some 32, none, .w (.bslice 1 [.int .i64 0] [(0, (.t 31))])⟩,
        ⟨some 33, none, .w (.append 1 (.t 30) (.t 32))⟩,
        ⟨some 7, none, .d (.mv (.t 33))⟩]) (.skip)))))))
    (.reg [⟨some 34, none, .d (.bin .arith .add (.t 12) (.c (.int .i64 1)))⟩,
      ⟨some 12, none, .d (.mv (.t 34))⟩])))))))
  (.seq (.reg [⟨some 35, none, .d (.mv (.t 6))⟩,
    ⟨some 36, none, .d (.mv (.t 7))⟩,
    ⟨some 4, none, .d (.mv (.t 35))⟩,
    ⟨some 5, none, .d (.mv (.t 36))⟩])
  (.ret)))), [.tmp 4, .tmp 5]⟩
def n_leastOf : Nat → Option Ann := fun _ => none
abbrev k_leastOf : List Nat := [0, 1, 4, 5, 6, 7, 8, 9, 11, 12, 13, 25, 29]
abbrev o_leastOf : List Nat := [10, 32, 33]
def c_leastOf (Γ0 : Gam) : Con := pure' fun
  | [.p (.int .i64 n), .p (.fn g a b)] => if 0 ≤ n ∧ n ≤ 12 then (match askI Γ0 g a b n.toNat with | some ds => some (.tp [.p (.int .i64 (lsI ds n.toNat).1), .ar 2000000], [.arr 1 (ints (lsI ds n.toNat).2)]) | none => none) else none
  | _ => none
theorem s_leastOf {P : Program} (hm : P.follows .mixedOrders = true) {Γ : Gam} (hΓ : GS P Γ) {n : FuncId} (is : Is P n a_leastOf)  : Says P n (c_leastOf Γ) := by
  refine Says.pure fun args r fs h => ?_
  split at h
  case h_2 => cases h
  rename_i n g a b
  split at h
  case isFalse => cases h
  rename_i hc
  obtain ⟨h0, h12⟩ := hc
  obtain ⟨n, rfl⟩ : ∃ j : Nat, n = j := ⟨n.toNat, by omega⟩
  simp only [Int.toNat_natCast] at h
  split at h
  case h_2 => cases h
  rename_i ds hds
  simp only [Option.some.injEq, Prod.mk.injEq] at h
  obtain ⟨rfl, rfl⟩ := h
  refine is.go hm hΓ k_leastOf o_leastOf (by simp [a_leastOf]) ?_
  simp only [a_leastOf, List.zipIdx_cons, List.zipIdx_nil, ↓SP, SQ, Gam.add, stepM, callC, argC, lendO, nmBy, nmC, likeL, likeB, plainOb, offs, exL, X, F, trP, trO, stepD, stepW, newA, SV.tr, SV.trL, fz, allP, Ob.tr, loadA, cellsA, SV.cells, binA, binI, eqOut, isSl, isPt, natOf, callee, snap, SV.refsL, SV.refs, thaw, fzAll, loA, hiA, elemOf, partsA, buildA, putCells, ↓reduceIte, reduceCtorEq, okCell, Nat.reduceAdd, Nat.reduceEqDiff, Nat.reduceSub, Nat.reduceMul, Nat.reduceLeDiff, Nat.reduceLT, Nat.reduceBEq, PV.scal, PV.scalL, SV.scal, SV.scalL, Ob.scal, PV.isCell, pure', resO]
  refine loop_at (fun s : Nat × SV × SV × SV × SV × SV × Option Ob => mkEnv [(0, si n), (1, .p (.fn g a b)), (4, si 0), (5, .p .nilsl), (6, si (lsI ds s.1).1), (7, match s.1 with | 0 => .ar 10 | _ + 1 => .ar 33), (8, s.2.1), (9, s.2.2.1), (11, si n), (12, si s.1), (13, s.2.2.2.1), (25, s.2.2.2.2.1), (29, s.2.2.2.2.2.1)]) (fun s => match s.1 with
    | 0 => mkO [(10, some (.arr 1 [])), (32, s.2.2.2.2.2.2), (33, none)]
    | k + 1 => mkO [(10, some (.arr 1 [])), (32, s.2.2.2.2.2.2), (33, some (.arr 1 (ints (lsI ds (k + 1)).2)))]) (fun s => s.1 ≤ n) (fun s => n - s.1) (0, .junk, .junk, .junk, .junk, .junk, none) (by simp) rfl rfl ?_
  rintro ⟨i, c1, c2, c3, c4, c5, ob⟩ hi R hR hN
  simp only at hi
  by_cases h : i < n
  · have h1 : (i : Int) < n := by omega
    have hw := wrap_one (i := i) (by omega)
    have hq := askI_get hds h
    have hself : (ds.getD i 0 == ds.getD i 0) = true := beq_self_eq_true _
    have hroom1 : 1 ≤ roomA := by unfold roomA; omega
    cases i with
    | zero =>
      have hnx : lsI ds (0 + 1) = (ds.getD 0 0, [((0 : Nat) : Int)]) := by simp [lsI]
      have hz : (((0 : Nat) : Int) == 0) = true := rfl
      simp only [h1, hw, hq, call_ps, refs_ps, hself, hz, hroom1, List.length_nil, ↓SP, SQ, Gam.add, stepM, callC, argC, lendO, nmBy, nmC, likeL, likeB, plainOb, offs, exL, X, F, trP, trO, stepD, stepW, newA, SV.tr, SV.trL, fz, allP, Ob.tr, loadA, cellsA, SV.cells, binA, binI, eqOut, isSl, isPt, natOf, callee, snap, SV.refsL, SV.refs, thaw, fzAll, loA, hiA, elemOf, partsA, buildA, putCells, ↓reduceIte, reduceCtorEq, okCell, Nat.reduceAdd, Nat.reduceEqDiff, Nat.reduceSub, Nat.reduceMul, Nat.reduceLeDiff, Nat.reduceLT, Nat.reduceBEq, PV.scal, PV.scalL, SV.scal, SV.scalL, Ob.scal, PV.isCell, pure', resO]
      exact hN (0 + 1, _, _, _, _, _, _) _ _ (by simp only; omega) (by simp only; omega) (by rw [hnx]) (by show mkO [_, _, (33, some (.arr 1 (ints (lsI ds (0 + 1)).2)))] = _; rw [hnx]; rfl)
    | succ k =>
      have hp := lsI_pos ds k
      have hle := lsI_len ds (k + 1)
      have hz : (((lsI ds (k + 1)).2.length : Int) == 0) = false := beq_eq_false_iff_ne.2 (by omega)
      have hr : (lsI ds (k + 1)).2.length + 1 ≤ roomA := by unfold roomA; omega
      by_cases hlt : ds.getD (k + 1) 0 < (lsI ds (k + 1)).1
      · have hnx : lsI ds (k + 1 + 1) = (ds.getD (k + 1) 0, [((k + 1 : Nat) : Int)]) := by
          rw [lsI, if_pos (.inr hlt)]
        simp only [h1, hw, hq, call_ps, refs_ps, hself, hz, hlt, hroom1, ints_len, ↓SP, SQ, Gam.add, stepM, callC, argC, lendO, nmBy, nmC, likeL, likeB, plainOb, offs, exL, X, F, trP, trO, stepD, stepW, newA, SV.tr, SV.trL, fz, allP, Ob.tr, loadA, cellsA, SV.cells, binA, binI, eqOut, isSl, isPt, natOf, callee, snap, SV.refsL, SV.refs, thaw, fzAll, loA, hiA, elemOf, partsA, buildA, putCells, ↓reduceIte, reduceCtorEq, okCell, Nat.reduceAdd, Nat.reduceEqDiff, Nat.reduceSub, Nat.reduceMul, Nat.reduceLeDiff, Nat.reduceLT, Nat.reduceBEq, PV.scal, PV.scalL, SV.scal, SV.scalL, Ob.scal, PV.isCell, pure', resO]
        exact hN (k + 1 + 1, _, _, _, _, _, _) _ _ (by simp only; omega) (by simp only; omega) (by rw [hnx]) (by show mkO [_, _, (33, some (.arr 1 (ints (lsI ds (k + 1 + 1)).2)))] = _; rw [hnx]; rfl)
      · have hno : ¬ ((lsI ds (k + 1)).2.length = 0 ∨ ds.getD (k + 1) 0 < (lsI ds (k + 1)).1) := by
          rintro (e | e)
          · omega
          · exact hlt e
        by_cases heq : ds.getD (k + 1) 0 = (lsI ds (k + 1)).1
        · have hnx : lsI ds (k + 1 + 1) = ((lsI ds (k + 1)).1, (lsI ds (k + 1)).2 ++ [((k + 1 : Nat) : Int)]) := by
            rw [lsI, if_neg hno, if_pos heq]
          have he' : (ds.getD (k + 1) 0 == (lsI ds (k + 1)).1) = true := beq_iff_eq.2 heq
          simp only [h1, hw, hq, call_ps, refs_ps, he', hz, hlt, hr, ints_len, ints_app1, ints_cell, ↓SP, SQ, Gam.add, stepM, callC, argC, lendO, nmBy, nmC, likeL, likeB, plainOb, offs, exL, X, F, trP, trO, stepD, stepW, newA, SV.tr, SV.trL, fz, allP, Ob.tr, loadA, cellsA, SV.cells, binA, binI, eqOut, isSl, isPt, natOf, callee, snap, SV.refsL, SV.refs, thaw, fzAll, loA, hiA, elemOf, partsA, buildA, putCells, ↓reduceIte, reduceCtorEq, okCell, Nat.reduceAdd, Nat.reduceEqDiff, Nat.reduceSub, Nat.reduceMul, Nat.reduceLeDiff, Nat.reduceLT, Nat.reduceBEq, PV.scal, PV.scalL, SV.scal, SV.scalL, Ob.scal, PV.isCell, pure', resO]
          exact hN (k + 1 + 1, _, _, _, _, _, _) _ _ (by simp only; omega) (by simp only; omega) (by rw [hnx]) (by show mkO [_, _, (33, some (.arr 1 (ints (lsI ds (k + 1 + 1)).2)))] = _; rw [hnx])
        · have hnx : lsI ds (k + 1 + 1) = lsI ds (k + 1) := by
            rw [lsI, if_neg hno, if_neg heq]
          have he' : (ds.getD (k + 1) 0 == (lsI ds (k + 1)).1) = false := beq_eq_false_iff_ne.2 heq
          simp only [h1, hw, hq, call_ps, refs_ps, he', hz, hlt, ints_len, ↓SP, SQ, Gam.add, stepM, callC, argC, lendO, nmBy, nmC, likeL, likeB, plainOb, offs, exL, X, F, trP, trO, stepD, stepW, newA, SV.tr, SV.trL, fz, allP, Ob.tr, loadA, cellsA, SV.cells, binA, binI, eqOut, isSl, isPt, natOf, callee, snap, SV.refsL, SV.refs, thaw, fzAll, loA, hiA, elemOf, partsA, buildA, putCells, ↓reduceIte, reduceCtorEq, okCell, Nat.reduceAdd, Nat.reduceEqDiff, Nat.reduceSub, Nat.reduceMul, Nat.reduceLeDiff, Nat.reduceLT, Nat.reduceBEq, PV.scal, PV.scalL, SV.scal, SV.scalL, Ob.scal, PV.isCell, pure', resO]
          exact hN (k + 1 + 1, _, _, _, _, _, _) _ _ (by simp only; omega) (by simp only; omega) (by rw [hnx]) (by show mkO [_, _, (33, some (.arr 1 (ints (lsI ds (k + 1 + 1)).2)))] = _; rw [hnx])
  · have he : i = n := by omega
    have h1 : ¬ (i : Int) < n := by omega
    subst he
    cases i with
    | zero =>
      simp only [h1, ↓SP, SQ, Gam.add, stepM, callC, argC, lendO, nmBy, nmC, likeL, likeB, plainOb, offs, exL, X, F, trP, trO, stepD, stepW, newA, SV.tr, SV.trL, fz, allP, Ob.tr, loadA, cellsA, SV.cells, binA, binI, eqOut, isSl, isPt, natOf, callee, snap, SV.refsL, SV.refs, thaw, fzAll, loA, hiA, elemOf, partsA, buildA, putCells, ↓reduceIte, reduceCtorEq, okCell, Nat.reduceAdd, Nat.reduceEqDiff, Nat.reduceSub, Nat.reduceMul, Nat.reduceLeDiff, Nat.reduceLT, Nat.reduceBEq, PV.scal, PV.scalL, SV.scal, SV.scalL, Ob.scal, PV.isCell, pure', resO]
      refine hR _ _ _ (by intro h; cases h) ?_
      simp only [↓SP, SQ, Gam.add, stepM, callC, argC, lendO, nmBy, nmC, likeL, likeB, plainOb, offs, exL, X, F, trP, trO, stepD, stepW, newA, SV.tr, SV.trL, fz, allP, Ob.tr, loadA, cellsA, SV.cells, binA, binI, eqOut, isSl, isPt, natOf, callee, snap, SV.refsL, SV.refs, thaw, fzAll, loA, hiA, elemOf, partsA, buildA, putCells, ↓reduceIte, reduceCtorEq, okCell, Nat.reduceAdd, Nat.reduceEqDiff, Nat.reduceSub, Nat.reduceMul, Nat.reduceLeDiff, Nat.reduceLT, Nat.reduceBEq, PV.scal, PV.scalL, SV.scal, SV.scalL, Ob.scal, PV.isCell, pure', resO]
      refine finA_gen [10] trivial (by simp [retA, rvA, mkE_cons, mk_nil, mkO_cons, mkO_nil, loadA, SV.tr, SV.trL, nmF, rn_nil, rn_cons1, rn_cons2, plainOb, SV.refsL, SV.refs, Ob.refs, X, F, List.range_succ, mkO, setO_mk]; rfl) ?_ ?_ ?_ ?_ ?_ ?_ ?_ <;> simp [lsI, ints, retA, rvA, mkE_cons, mk_nil, mkO_cons, mkO_nil, loadA, SV.tr, SV.trL, nmF, rn_nil, rn_cons1, rn_cons2, plainOb, SV.refsL, SV.refs, Ob.refs, X, F, List.range_succ, mkO, setO_mk]
    | succ k =>
      simp only [h1, ↓SP, SQ, Gam.add, stepM, callC, argC, lendO, nmBy, nmC, likeL, likeB, plainOb, offs, exL, X, F, trP, trO, stepD, stepW, newA, SV.tr, SV.trL, fz, allP, Ob.tr, loadA, cellsA, SV.cells, binA, binI, eqOut, isSl, isPt, natOf, callee, snap, SV.refsL, SV.refs, thaw, fzAll, loA, hiA, elemOf, partsA, buildA, putCells, ↓reduceIte, reduceCtorEq, okCell, Nat.reduceAdd, Nat.reduceEqDiff, Nat.reduceSub, Nat.reduceMul, Nat.reduceLeDiff, Nat.reduceLT, Nat.reduceBEq, PV.scal, PV.scalL, SV.scal, SV.scalL, Ob.scal, PV.isCell, pure', resO]
      refine hR _ _ _ (by intro h; cases h) ?_
      simp only [↓SP, SQ, Gam.add, stepM, callC, argC, lendO, nmBy, nmC, likeL, likeB, plainOb, offs, exL, X, F, trP, trO, stepD, stepW, newA, SV.tr, SV.trL, fz, allP, Ob.tr, loadA, cellsA, SV.cells, binA, binI, eqOut, isSl, isPt, natOf, callee, snap, SV.refsL, SV.refs, thaw, fzAll, loA, hiA, elemOf, partsA, buildA, putCells, ↓reduceIte, reduceCtorEq, okCell, Nat.reduceAdd, Nat.reduceEqDiff, Nat.reduceSub, Nat.reduceMul, Nat.reduceLeDiff, Nat.reduceLT, Nat.reduceBEq, PV.scal, PV.scalL, SV.scal, SV.scalL, Ob.scal, PV.isCell, pure', resO]
      refine finA_gen [33] trivial (by simp [retA, rvA, mkE_cons, mk_nil, mkO_cons, mkO_nil, loadA, SV.tr, SV.trL, nmF, rn_nil, rn_cons1, rn_cons2, plainOb, SV.refsL, SV.refs, Ob.refs, X, F, List.range_succ, mkO, setO_mk]; rfl) ?_ ?_ ?_ ?_ ?_ ?_ ?_ <;> simp [retA, rvA, mkE_cons, mk_nil, mkO_cons, mkO_nil, loadA, SV.tr, SV.trL, nmF, rn_nil, rn_cons1, rn_cons2, plainOb, SV.refsL, SV.refs, Ob.refs, X, F, List.range_succ, mkO, setO_mk]
/-- How far the words of the numbers lie from a word. -/
def apL (l : List Int) (v : Int) (n : Nat) : List Int := (List.range n).map fun j : Nat => (pcN 14 (wdN l j l.length ^^^ v.toNat) : Int)
def a_near (f_near1 : FuncId) (f_leastOf : FuncId) : AFn := ⟨3, 
  .seq (.reg [⟨some 4, none, .w (.box 1 (.t 1))⟩,
    ⟨some 5, none, .w (.box 1 (.t 2))⟩,
    ⟨some 6, none, .d (.mv (.c (.int .i64 0)))⟩,
    ⟨some 7, none, .d (.mv (.c (.nilsl)))⟩])
  (.seq (.reg [⟨some 8, none, .d (.mv (.t 0))⟩,
    ⟨some 9, none, .d (.mkfn f_near1 [] [(.t 4), (.t 5)])⟩,
    ⟨some 10, none, .d (.call (.f f_leastOf) [(.t 8), (.t 9)])⟩,
    ⟨some 11, none, .d (.extract (.t 10) 0)⟩,
    ⟨some 12, none, .d (.extract (.t 10) 1)⟩,
    ⟨some 6, none, .d (.mv (.t 11))⟩,
    ⟨some 7, none, .d (.mv (.t 12))⟩])
  (.ret)), [.tmp 6, .tmp 7]⟩
def n_near : Nat → Option Ann := fun _ => none
abbrev k_near : List Nat := [0, 1, 2, 4, 5, 6, 7]
abbrev o_near : List Nat := [4, 5]
def c_near : Con := pure' fun
  | [.p (.int .i64 n), .p (.sl 1 l_), .p (.int .i64 v)] => if isI l_ = true ∧ ((ofI l_).length ≤ 14 ∧ 0 ≤ n ∧ n ≤ 12 ∧ 0 ≤ v ∧ v < 16384) then some (.tp [.p (.int .i64 (lsI (apL (ofI l_) v n.toNat) n.toNat).1), .p (.sl 1 (ints (lsI (apL (ofI l_) v n.toNat) n.toNat).2))], []) else none
  | _ => none
theorem s_near {P : Program} (hm : P.follows .mixedOrders = true) {Γ : Gam} (hΓ : GS P Γ) {n : FuncId} {f_near1 : FuncId} {f_leastOf : FuncId} (is : Is P n (a_near f_near1 f_leastOf)) {Γ0 : Gam} (h_leastOf : Γ f_leastOf = c_leastOf Γ0) (h_near1 : Γ0 f_near1 = c_near1) : Says P n c_near := by
  refine Says.pure fun args r fs h => ?_
  split at h
  case h_2 => cases h
  rename_i n l_ v
  split at h
  case isFalse => cases h
  rename_i hc
  obtain ⟨hl_, hc⟩ := hc
  obtain ⟨l, rfl⟩ := isI_out hl_
  simp only [ofI_ints, ofBo_bools, ofAs_asks, Option.some.injEq, Prod.mk.injEq] at h hc
  obtain ⟨rfl, rfl⟩ := h
  obtain ⟨hl, h0, h12, hv0, hv1⟩ := hc
  have hask : askI Γ0 f_near1 [] [.cp [.sl 1 (ints l)], .cp [.int .i64 v]] n.toNat = some (apL l v n.toNat) := askI_eq n.toNat fun j hj => by
    rw [h_near1]
    have : (0 : Int) ≤ j := by omega
    simp [c_near1, pure', isI_ints, ints_len, ofI_ints, hl, hv0, hv1]
  refine is.go hm hΓ k_near o_near (by simp [a_near]) ?_
  simp only [a_near, h_leastOf, c_leastOf, h0, h12, hask, List.zipIdx_cons, List.zipIdx_nil, ↓SP, SQ, Gam.add, stepM, callC, argC, lendO, nmBy, nmC, likeL, likeB, plainOb, offs, exL, X, F, trP, trO, stepD, stepW, newA, SV.tr, SV.trL, fz, allP, Ob.tr, loadA, cellsA, SV.cells, binA, binI, eqOut, isSl, isPt, natOf, callee, snap, SV.refsL, SV.refs, thaw, fzAll, loA, hiA, elemOf, partsA, buildA, putCells, ↓reduceIte, reduceCtorEq, okCell, Nat.reduceAdd, Nat.reduceEqDiff, Nat.reduceSub, Nat.reduceMul, Nat.reduceLeDiff, Nat.reduceLT, Nat.reduceBEq, PV.scal, PV.scalL, SV.scal, SV.scalL, Ob.scal, PV.isCell, pure', resO]
  exact finA_val (by simp [retA, rvA, mkE_cons, mk_nil, mkO_cons, mkO_nil, loadA, SV.tr, SV.trL, nmF, rn_nil, rn_cons1, rn_cons2, plainOb, SV.refsL, SV.refs, Ob.refs, X, F, List.range_succ, mkO, setO_mk]) (by simp [SV.tr, SV.trL])
def dsW (w : List Int) (v : Int) : List Int := (List.range w.length).map fun j : Nat => (pcN 14 ((w.getD j 0).toNat ^^^ v.toNat) : Int)
theorem dsW_get (w : List Int) (v : Int) {j : Nat} (h : j < w.length) : (dsW w v).getD j 0 = (pcN 14 ((w.getD j 0).toNat ^^^ v.toNat) : Int) := by
  rw [getD_lt (by simp [dsW, h])]; simp [dsW]
def a_l5Near (f_l5Apart : FuncId) : AFn := ⟨2, 
  .seq (.reg [⟨some 4, none, .d (.mv (.c (.nilsl)))⟩,
    ⟨some 5, none, .d (.mv (.c (.int .i64 0)))⟩])
  (.seq (.reg [⟨some 10, none, .w (.bslice 1 [] [])⟩,
    ⟨some 6, none, .d (.mv (.t 10))⟩,
    ⟨some 7, none, .d (.mv (.c (.int .i64 15)))⟩])
  (.seq (.seq (.reg [⟨some 8, none, .d (.mv (.c (.int .i64 0)))⟩])
  (.block 0 (.loop (.seq (.seq (.reg [⟨some 11, none, .d (.mv (.t 8))⟩,
      ⟨some 12, none, .d (.mv (.t 0))⟩,
      ⟨some 13, none, .d (.len (.t 12))⟩,
      ⟨some 14, none, .d (.bin .arith .lss (.t 11) (.t 13))⟩])
    (.cond (.t 14) (.skip) (.exit 0)))
    (.seq (.block 1 (.seq (.reg [⟨some 17, none, .d (.mv (.t 0))⟩,
       ⟨some 18, none, .d (.mv (.t 8))⟩,
       ⟨some 19, none, .d (.ia 1 (.t 17) (.t 18))⟩,
       ⟨some 20, none, .d (.load false 1 (.t 19))⟩,
       ⟨some 21, none, .d (.mv (.t 1))⟩,
       ⟨some 22, none, .d (.call (.f f_l5Apart) [(.t 20), (.t 21)])⟩,
       ⟨some 9, none, .d (.mv (.t 22))⟩])
     (.seq (.seq (.reg [⟨some 23, none, .d (.mv (.t 9))⟩,
       ⟨some 24, none, .d (.mv (.t 7))⟩,
       ⟨some 25, none, .d (.bin .arith .lss (.t 23) (.t 24))⟩])
     (.cond (.t 25) (.seq (.reg [⟨some 26, none, .d (.mv (.t 9))⟩,
        ⟨some 7, none, .d (.mv (.t 26))⟩])
      (.reg [⟨some 27, none, .w (.bslice 1 [] [])⟩,
        ⟨some 6, none, .d (.mv (.t 27))⟩])) (.skip)))
     (.seq (.reg [⟨some 28, none, .d (.mv (.t 9))⟩,
       ⟨some 29, none, .d (.mv (.t 7))⟩,
       ⟨some 30, none, .d (.bin .arith .eql (.t 28) (.t 29))⟩])
     (.cond (.t 30) (.reg [⟨some 31, none, .d (.mv (.t 6))⟩,
        ⟨some 32, none, .d (.mv (.t 8))⟩,
        ⟨some 33, none, .w (.bslice 1 [.int .i64 0] [(0, (.t 32))])⟩,
        ⟨some 34, none, .w (.append 1 (.t 31) (.t 33))⟩,
        ⟨some 6, none, .d (.mv (.t 34))⟩]) (.skip))))))
    (.reg [⟨some 15, none, .d (.mv (.t 8))⟩,
      ⟨some 16, none, .d (.bin .arith .add (.t 15) (.c (.int .i64 1)))⟩,
      ⟨some 8, none, .d (.mv (.t 16))⟩]))))))
  (.seq (.reg [⟨some 35, none, .d (.mv (.t 6))⟩,
    ⟨some 36, none, .d (.mv (.t 7))⟩,
    ⟨some 4, none, .d (.mv (.t 35))⟩,
    ⟨some 5, none, .d (.mv (.t 36))⟩])
  (.ret)))), [.tmp 4, .tmp 5]⟩
def n_l5Near : Nat → Option Ann := fun _ => none
abbrev k_l5Near : List Nat := [0, 1, 4, 5, 6, 7, 8, 9, 14, 25, 30]
abbrev o_l5Near : List Nat := [10, 27, 33, 34]
def c_l5Near : Con := pure' fun
  | [.p (.sl 1 w_), .p (.int .i64 v)] => if isI w_ = true ∧ ((ofI w_).length ≤ 4096 ∧ fitW (ofI w_) ∧ 0 ≤ v ∧ v < 16384) then some (.tp [.ar 2000000, .p (.int .i64 (if (ofI w_).length = 0 then 15 else (lsI (dsW (ofI w_) v) (ofI w_).length).1))], [.arr 1 (ints (lsI (dsW (ofI w_) v) (ofI w_).length).2)]) else none
  | _ => none
theorem s_l5Near {P : Program} (hm : P.follows .mixedOrders = true) {Γ : Gam} (hΓ : GS P Γ) {n : FuncId} {f_l5Apart : FuncId} (is : Is P n (a_l5Near f_l5Apart)) (h_l5Apart : Γ f_l5Apart = c_l5Apart)  : Says P n c_l5Near := by
  refine Says.pure fun args r fs h => ?_
  split at h
  case h_2 => cases h
  rename_i w_ v
  split at h
  case isFalse => cases h
  rename_i hc
  obtain ⟨hw_, hc⟩ := hc
  obtain ⟨w, rfl⟩ := isI_out hw_
  simp only [ofI_ints, ofBo_bools, ofAs_asks, Option.some.injEq, Prod.mk.injEq] at h hc
  obtain ⟨rfl, rfl⟩ := h
  obtain ⟨hl, hf, hv0, hv1⟩ := hc
  generalize hgd : dsW w v = ds
  refine is.go hm hΓ k_l5Near o_l5Near (by simp [a_l5Near]) ?_
  simp only [a_l5Near, h_l5Apart, c_l5Apart, List.zipIdx_cons, List.zipIdx_nil, ↓SP, SQ, Gam.add, stepM, callC, argC, lendO, nmBy, nmC, likeL, likeB, plainOb, offs, exL, X, F, trP, trO, stepD, stepW, newA, SV.tr, SV.trL, fz, allP, Ob.tr, loadA, cellsA, SV.cells, binA, binI, eqOut, isSl, isPt, natOf, callee, snap, SV.refsL, SV.refs, thaw, fzAll, loA, hiA, elemOf, partsA, buildA, putCells, ↓reduceIte, reduceCtorEq, okCell, Nat.reduceAdd, Nat.reduceEqDiff, Nat.reduceSub, Nat.reduceMul, Nat.reduceLeDiff, Nat.reduceLT, Nat.reduceBEq, PV.scal, PV.scalL, SV.scal, SV.scalL, Ob.scal, PV.isCell, pure', resO]
  refine loop_at (fun s : Nat × SV × SV × SV × SV × Option Ob => mkEnv [(0, .p (.sl 1 (ints w))), (1, si v), (4, .p .nilsl), (5, si 0), (6, match s.1 with | 0 => .ar 10 | _ + 1 => .ar 27), (7, match s.1 with | 0 => si 15 | k + 1 => si (lsI ds (k + 1)).1), (8, si s.1), (9, s.2.1), (14, s.2.2.1), (25, s.2.2.2.1), (30, s.2.2.2.2.1)]) (fun s => match s.1 with
    | 0 => mkO [(10, some (.arr 1 [])), (27, none), (33, s.2.2.2.2.2), (34, none)]
    | k + 1 => mkO [(10, some (.arr 1 [])), (27, some (.arr 1 (ints (lsI ds (k + 1)).2))), (33, s.2.2.2.2.2), (34, none)]) (fun s => s.1 ≤ w.length) (fun s => w.length - s.1) (0, .junk, .junk, .junk, .junk, none) (by simp) rfl rfl ?_
  rintro ⟨i, c1, c2, c3, c4, ob⟩ hi R hR hN
  simp only at hi
  by_cases h : i < w.length
  · have h1 : (i : Int) < w.length := by omega
    have hw := wrap_one (i := i) (by omega)
    have hgi := ints_get h
    have hfi := fitW_get hf h
    have hds : (pcN 14 ((w.getD i 0).toNat ^^^ v.toNat) : Int) = ds.getD i 0 := by rw [← hgd, dsW_get w v h]
    have hd14 : ds.getD i 0 ≤ 14 := by rw [← hds]; have := pcN_le 14 ((w.getD i 0).toNat ^^^ v.toNat); omega
    have hself : (ds.getD i 0 == ds.getD i 0) = true := beq_self_eq_true _
    have hroom1 : 0 + 1 ≤ roomA := by unfold roomA; omega
    cases i with
    | zero =>
      have hnx : lsI ds (0 + 1) = (ds.getD 0 0, [((0 : Nat) : Int)]) := by simp [lsI]
      have hlt : ds.getD 0 0 < 15 := by omega
      simp only [h1, hw, hgi, hfi.1, hfi.2, hv0, hv1, hds, hlt, hself, hroom1, List.length_nil, List.nil_append, h_l5Apart, c_l5Apart, ↓SP, SQ, Gam.add, stepM, callC, argC, lendO, nmBy, nmC, likeL, likeB, plainOb, offs, exL, X, F, trP, trO, stepD, stepW, newA, SV.tr, SV.trL, fz, allP, Ob.tr, loadA, cellsA, SV.cells, binA, binI, eqOut, isSl, isPt, natOf, callee, snap, SV.refsL, SV.refs, thaw, fzAll, loA, hiA, elemOf, partsA, buildA, putCells, ↓reduceIte, reduceCtorEq, okCell, Nat.reduceAdd, Nat.reduceEqDiff, Nat.reduceSub, Nat.reduceMul, Nat.reduceLeDiff, Nat.reduceLT, Nat.reduceBEq, PV.scal, PV.scalL, SV.scal, SV.scalL, Ob.scal, PV.isCell, pure', resO]
      exact hN (0 + 1, _, _, _, _, _) _ _ (by simp only; omega) (by simp only; omega) (by show mkEnv [_, _, _, _, _, (7, si (lsI ds (0 + 1)).1), _, _, _, _, _] = _; rw [hnx]) (by show mkO [_, (27, some (.arr 1 (ints (lsI ds (0 + 1)).2))), _, _] = _; rw [hnx]; rfl)
    | succ k =>
      have hp := lsI_pos ds k
      have hle := lsI_len ds (k + 1)
      have hr : (lsI ds (k + 1)).2.length + 1 ≤ roomA := by unfold roomA; omega
      by_cases hlt : ds.getD (k + 1) 0 < (lsI ds (k + 1)).1
      · have hnx : lsI ds (k + 1 + 1) = (ds.getD (k + 1) 0, [((k + 1 : Nat) : Int)]) := by
          rw [lsI, if_pos (.inr hlt)]
        simp only [h1, hw, hgi, hfi.1, hfi.2, hv0, hv1, hds, hlt, hself, hroom1, List.length_nil, List.nil_append, h_l5Apart, c_l5Apart, ↓SP, SQ, Gam.add, stepM, callC, argC, lendO, nmBy, nmC, likeL, likeB, plainOb, offs, exL, X, F, trP, trO, stepD, stepW, newA, SV.tr, SV.trL, fz, allP, Ob.tr, loadA, cellsA, SV.cells, binA, binI, eqOut, isSl, isPt, natOf, callee, snap, SV.refsL, SV.refs, thaw, fzAll, loA, hiA, elemOf, partsA, buildA, putCells, ↓reduceIte, reduceCtorEq, okCell, Nat.reduceAdd, Nat.reduceEqDiff, Nat.reduceSub, Nat.reduceMul, Nat.reduceLeDiff, Nat.reduceLT, Nat.reduceBEq, PV.scal, PV.scalL, SV.scal, SV.scalL, Ob.scal, PV.isCell, pure', resO]
        exact hN (k + 1 + 1, _, _, _, _, _) _ _ (by simp only; omega) (by simp only; omega) (by show mkEnv [_, _, _, _, _, (7, si (lsI ds (k + 1 + 1)).1), _, _, _, _, _] = _; rw [hnx]) (by show mkO [_, (27, some (.arr 1 (ints (lsI ds (k + 1 + 1)).2))), _, _] = _; rw [hnx]; rfl)
      · have hno : ¬ ((lsI ds (k + 1)).2.length = 0 ∨ ds.getD (k + 1) 0 < (lsI ds (k + 1)).1) := by
          rintro (e | e)
          · omega
          · exact hlt e
        by_cases heq : ds.getD (k + 1) 0 = (lsI ds (k + 1)).1
        · have hnx : lsI ds (k + 1 + 1) = ((lsI ds (k + 1)).1, (lsI ds (k + 1)).2 ++ [((k + 1 : Nat) : Int)]) := by
            rw [lsI, if_neg hno, if_pos heq]
          have he' : (ds.getD (k + 1) 0 == (lsI ds (k + 1)).1) = true := beq_iff_eq.2 heq
          simp only [h1, hw, hgi, hfi.1, hfi.2, hv0, hv1, hds, hlt, he', hr, ints_len, ints_app1, ints_cell, h_l5Apart, c_l5Apart, ↓SP, SQ, Gam.add, stepM, callC, argC, lendO, nmBy, nmC, likeL, likeB, plainOb, offs, exL, X, F, trP, trO, stepD, stepW, newA, SV.tr, SV.trL, fz, allP, Ob.tr, loadA, cellsA, SV.cells, binA, binI, eqOut, isSl, isPt, natOf, callee, snap, SV.refsL, SV.refs, thaw, fzAll, loA, hiA, elemOf, partsA, buildA, putCells, ↓reduceIte, reduceCtorEq, okCell, Nat.reduceAdd, Nat.reduceEqDiff, Nat.reduceSub, Nat.reduceMul, Nat.reduceLeDiff, Nat.reduceLT, Nat.reduceBEq, PV.scal, PV.scalL, SV.scal, SV.scalL, Ob.scal, PV.isCell, pure', resO]
          exact hN (k + 1 + 1, _, _, _, _, _) _ _ (by simp only; omega) (by simp only; omega) (by show mkEnv [_, _, _, _, _, (7, si (lsI ds (k + 1 + 1)).1), _, _, _, _, _] = _; rw [hnx]) (by show mkO [_, (27, some (.arr 1 (ints (lsI ds (k + 1 + 1)).2))), _, _] = _; rw [hnx])
        · have hnx : lsI ds (k + 1 + 1) = lsI ds (k + 1) := by
            rw [lsI, if_neg hno, if_neg heq]
          have he' : (ds.getD (k + 1) 0 == (lsI ds (k + 1)).1) = false := beq_eq_false_iff_ne.2 heq
          simp only [h1, hw, hgi, hfi.1, hfi.2, hv0, hv1, hds, hlt, he', ints_len, h_l5Apart, c_l5Apart, ↓SP, SQ, Gam.add, stepM, callC, argC, lendO, nmBy, nmC, likeL, likeB, plainOb, offs, exL, X, F, trP, trO, stepD, stepW, newA, SV.tr, SV.trL, fz, allP, Ob.tr, loadA, cellsA, SV.cells, binA, binI, eqOut, isSl, isPt, natOf, callee, snap, SV.refsL, SV.refs, thaw, fzAll, loA, hiA, elemOf, partsA, buildA, putCells, ↓reduceIte, reduceCtorEq, okCell, Nat.reduceAdd, Nat.reduceEqDiff, Nat.reduceSub, Nat.reduceMul, Nat.reduceLeDiff, Nat.reduceLT, Nat.reduceBEq, PV.scal, PV.scalL, SV.scal, SV.scalL, Ob.scal, PV.isCell, pure', resO]
          exact hN (k + 1 + 1, _, _, _, _, _) _ _ (by simp only; omega) (by simp only; omega) (by show mkEnv [_, _, _, _, _, (7, si (lsI ds (k + 1 + 1)).1), _, _, _, _, _] = _; rw [hnx]) (by show mkO [_, (27, some (.arr 1 (ints (lsI ds (k + 1 + 1)).2))), _, _] = _; rw [hnx])
  · have he : i = w.length := by omega
    have h1 : ¬ (i : Int) < w.length := by omega
    cases i with
    | zero =>
      have hw0 : w.length = 0 := he.symm
      simp only [h1, ↓SP, SQ, Gam.add, stepM, callC, argC, lendO, nmBy, nmC, likeL, likeB, plainOb, offs, exL, X, F, trP, trO, stepD, stepW, newA, SV.tr, SV.trL, fz, allP, Ob.tr, loadA, cellsA, SV.cells, binA, binI, eqOut, isSl, isPt, natOf, callee, snap, SV.refsL, SV.refs, thaw, fzAll, loA, hiA, elemOf, partsA, buildA, putCells, ↓reduceIte, reduceCtorEq, okCell, Nat.reduceAdd, Nat.reduceEqDiff, Nat.reduceSub, Nat.reduceMul, Nat.reduceLeDiff, Nat.reduceLT, Nat.reduceBEq, PV.scal, PV.scalL, SV.scal, SV.scalL, Ob.scal, PV.isCell, pure', resO]
      refine hR _ _ _ (by intro h; cases h) ?_
      simp only [hw0, ↓SP, SQ, Gam.add, stepM, callC, argC, lendO, nmBy, nmC, likeL, likeB, plainOb, offs, exL, X, F, trP, trO, stepD, stepW, newA, SV.tr, SV.trL, fz, allP, Ob.tr, loadA, cellsA, SV.cells, binA, binI, eqOut, isSl, isPt, natOf, callee, snap, SV.refsL, SV.refs, thaw, fzAll, loA, hiA, elemOf, partsA, buildA, putCells, ↓reduceIte, reduceCtorEq, okCell, Nat.reduceAdd, Nat.reduceEqDiff, Nat.reduceSub, Nat.reduceMul, Nat.reduceLeDiff, Nat.reduceLT, Nat.reduceBEq, PV.scal, PV.scalL, SV.scal, SV.scalL, Ob.scal, PV.isCell, pure', resO]
      refine finA_gen [10] trivial (by simp [retA, rvA, mkE_cons, mk_nil, mkO_cons, mkO_nil, loadA, SV.tr, SV.trL, nmF, rn_nil, rn_cons1, rn_cons2, plainOb, SV.refsL, SV.refs, Ob.refs, X, F, List.range_succ, mkO, setO_mk]; rfl) ?_ ?_ ?_ ?_ ?_ ?_ ?_ <;> simp [lsI, ints, hw0, retA, rvA, mkE_cons, mk_nil, mkO_cons, mkO_nil, loadA, SV.tr, SV.trL, nmF, rn_nil, rn_cons1, rn_cons2, plainOb, SV.refsL, SV.refs, Ob.refs, X, F, List.range_succ, mkO, setO_mk]
    | succ k =>
      have hwk : w.length = k + 1 := he.symm
      have hwn : ¬ k + 1 = 0 := by omega
      simp only [h1, ↓SP, SQ, Gam.add, stepM, callC, argC, lendO, nmBy, nmC, likeL, likeB, plainOb, offs, exL, X, F, trP, trO, stepD, stepW, newA, SV.tr, SV.trL, fz, allP, Ob.tr, loadA, cellsA, SV.cells, binA, binI, eqOut, isSl, isPt, natOf, callee, snap, SV.refsL, SV.refs, thaw, fzAll, loA, hiA, elemOf, partsA, buildA, putCells, ↓reduceIte, reduceCtorEq, okCell, Nat.reduceAdd, Nat.reduceEqDiff, Nat.reduceSub, Nat.reduceMul, Nat.reduceLeDiff, Nat.reduceLT, Nat.reduceBEq, PV.scal, PV.scalL, SV.scal, SV.scalL, Ob.scal, PV.isCell, pure', resO]
      refine hR _ _ _ (by intro h; cases h) ?_
      simp only [hwk, hwn, ↓SP, SQ, Gam.add, stepM, callC, argC, lendO, nmBy, nmC, likeL, likeB, plainOb, offs, exL, X, F, trP, trO, stepD, stepW, newA, SV.tr, SV.trL, fz, allP, Ob.tr, loadA, cellsA, SV.cells, binA, binI, eqOut, isSl, isPt, natOf, callee, snap, SV.refsL, SV.refs, thaw, fzAll, loA, hiA, elemOf, partsA, buildA, putCells, ↓reduceIte, reduceCtorEq, okCell, Nat.reduceAdd, Nat.reduceEqDiff, Nat.reduceSub, Nat.reduceMul, Nat.reduceLeDiff, Nat.reduceLT, Nat.reduceBEq, PV.scal, PV.scalL, SV.scal, SV.scalL, Ob.scal, PV.isCell, pure', resO]
      refine finA_gen [27] trivial (by simp [retA, rvA, mkE_cons, mk_nil, mkO_cons, mkO_nil, loadA, SV.tr, SV.trL, nmF, rn_nil, rn_cons1, rn_cons2, plainOb, SV.refsL, SV.refs, Ob.refs, X, F, List.range_succ, mkO, setO_mk]; rfl) ?_ ?_ ?_ ?_ ?_ ?_ ?_ <;> simp [hwk, retA, rvA, mkE_cons, mk_nil, mkO_cons, mkO_nil, loadA, SV.tr, SV.trL, nmF, rn_nil, rn_cons1, rn_cons2, plainOb, SV.refsL, SV.refs, Ob.refs, X, F, List.range_succ, mkO, setO_mk]
theorem lsI_in (ds : List Int) : ∀ i, ∃ j, j ≤ i ∧ (lsI ds (i + 1)).1 = ds.getD j 0
  | 0 => ⟨0, Nat.le_refl _, by simp [lsI]⟩
  | i + 1 => by
    obtain ⟨j, hj, e⟩ := lsI_in ds i
    rw [lsI]
    split
    · exact ⟨i + 1, Nat.le_refl _, rfl⟩
    · split
      · exact ⟨j, by omega, e⟩
      · exact ⟨j, by omega, e⟩
theorem apL_get (l : List Int) (v : Int) {n j : Nat} (h : j < n) : (apL l v n).getD j 0 = (pcN 14 (wdN l j l.length ^^^ v.toNat) : Int) := by
  rw [getD_lt (by simp [apL, h])]; simp [apL]
/-- How far the nearest word is. -/
def neN (l : List Int) (n : Nat) (v : Nat) : Int := (lsI (apL l v n) n).1
theorem neN_le (l : List Int) {n v : Nat} (hn : 1 ≤ n) (hv : v < 2 ^ l.length) : 0 ≤ neN l n v ∧ neN l n v ≤ l.length := by
  obtain ⟨k, rfl⟩ : ∃ k, n = k + 1 := ⟨n - 1, by omega⟩
  obtain ⟨j, hj, e⟩ := lsI_in (apL l v (k + 1)) k
  have := pcN_le2 14 (wdN l j l.length ^^^ v) l.length (Nat.xor_lt_two_pow (wdN_lt _ _ _) hv)
  unfold neN
  rw [e, apL_get l v (by omega), Int.toNat_natCast]
  omega
theorem dsW_apL (l : List Int) (v : Int) (n : Nat) : dsW (wdL l n) v = apL l v n := by
  unfold dsW apL
  rw [wdL_len]
  apply List.map_congr_left
  intro j hj
  rw [wdL_get l (List.mem_range.1 hj), Int.toNat_natCast]
/-- The shares of the words that are read right, of the first k. -/
def dcN (s o : Int) (l : List Int) (n : Nat) : Nat → Nat
  | 0 => 0
  | v + 1 => dcN s o l n v + partN s.toNat o.toNat l.length (neN l n v).toNat
theorem dcN_step {s o : Int} {l : List Int} {n v : Nat} (hd : isD s o = true) (hl : l.length ≤ 12) (hn : 1 ≤ n) (hv : v < 2 ^ l.length) : partN s.toNat o.toNat l.length (neN l n v).toNat ≤ 1000000000000 := by
  obtain ⟨d1, d2, d3, d4⟩ := isD_out hd
  have h := neN_le l hn hv
  exact partN_le (by omega) (by omega) (by omega) hl
theorem dcN_le {s o : Int} {l : List Int} {n : Nat} (hd : isD s o = true) (hl : l.length ≤ 12) (hn : 1 ≤ n) : ∀ v, v ≤ 2 ^ l.length → dcN s o l n v ≤ 1000000000000 * v
  | 0, _ => by simp [dcN]
  | v + 1, h => by
    have a := dcN_le hd hl hn v (by omega)
    have b := dcN_step (l := l) (n := n) (v := v) hd hl hn (by omega)
    simp only [dcN]; omega
def deP (n : Int) (l : List Int) (s o : Int) : Int × Int := if okS n l s o = true then (frN (dcN s o l n.toNat (2 ^ l.length)) (n * ((o.toNat ^ l.length : Nat) : Int)).toNat, frD (dcN s o l n.toNat (2 ^ l.length)) (n * ((o.toNat ^ l.length : Nat) : Int)).toNat) else (0, 0)
def a_ChanceDecoded (f_isDrawnScheme : FuncId) (f_near : FuncId) (f_ofThese : FuncId) (f_power : FuncId) (f_fraction : FuncId) : AFn := ⟨3, 
  .seq (.reg [⟨some 5, none, .w (.box 2 (.t 2))⟩,
    ⟨some 6, none, .w (.alloc [.int .i64 0, .int .i64 0])⟩,
    ⟨some 7, none, .d (.mv (.c (.bool false)))⟩])
  (.seq (.seq (.reg [⟨some 12, none, .d (.mv (.t 0))⟩,
    ⟨some 13, none, .d (.mv (.t 1))⟩,
    ⟨some 14, none, .d (.load true 2 (.t 5))⟩,
    ⟨some 15, none, .d (.call (.f f_isDrawnScheme) [(.t 12), (.t 13), (.t 14)])⟩,
    ⟨some 16, none, .d (.not (.t 15))⟩])
  (.cond (.t 16) (.seq (.reg [⟨some 17, none, .d (.build [.int .i64 0, .int .i64 0] [])⟩,
     ⟨none, none, .w (.store 2 (.t 6) (.t 17))⟩,
     ⟨some 7, none, .d (.mv (.c (.bool false)))⟩])
   (.ret)) (.skip)))
  (.seq (.reg [⟨some 8, none, .d (.mv (.c (.int .i64 0)))⟩])
  (.seq (.seq (.reg [⟨some 18, none, .d (.mv (.t 1))⟩,
    ⟨some 19, none, .d (.len (.t 18))⟩,
    ⟨some 20, none, .d (.bin .arith .shl (.c (.int .i64 1)) (.t 19))⟩,
    ⟨some 21, none, .d (.mv (.c (.int .i64 0)))⟩])
  (.block 0 (.loop (.seq (.reg [⟨some 22, none, .d (.bin .arith .lss (.t 21) (.t 20))⟩])
    (.seq (.cond (.t 22) (.skip) (.exit 0))
    (.seq (.block 1 (.seq (.reg [⟨some 23, none, .d (.mv (.t 21))⟩,
       ⟨some 9, none, .d (.mv (.t 23))⟩])
     (.seq (.reg [⟨some 25, none, .d (.mv (.t 0))⟩,
       ⟨some 26, none, .d (.mv (.t 1))⟩,
       ⟨some 27, none, .d (.mv (.t 9))⟩,
       ⟨some 28, none, .d (.call (.f f_near) [(.t 25), (.t 26), (.t 27)])⟩,
       ⟨some 24, none, .d (.mv (.t 28))⟩,
       ⟨some 29, none, .d (.extract (.t 24) 0)⟩,
       ⟨some 30, none, .d (.extract (.t 24) 1)⟩,
       ⟨some 10, none, .d (.mv (.t 29))⟩,
       ⟨some 11, none, .d (.mv (.t 30))⟩])
     (.reg [⟨some 31, none, .d (.mv (.t 8))⟩,
       ⟨some 32, none, .d (.load true 2 (.t 5))⟩,
       ⟨some 33, none, .d (.mv (.t 1))⟩,
       ⟨some 34, none, .d (.len (.t 33))⟩,
       ⟨some 35, none, .d (.mv (.t 10))⟩,
       ⟨some 36, none, .d (.call (.f f_ofThese) [(.t 32), (.t 34), (.t 35)])⟩,
       ⟨some 37, none, .d (.bin .arith .add (.t 31) (.t 36))⟩,
       ⟨some 8, none, .d (.mv (.t 37))⟩]))))
    (.reg [⟨some 38, none, .d (.bin .arith .add (.t 21) (.c (.int .i64 1)))⟩,
      ⟨some 21, none, .d (.mv (.t 38))⟩])))))))
  (.seq (.reg [⟨some 39, none, .d (.mv (.t 8))⟩,
    ⟨some 40, none, .d (.mv (.t 0))⟩,
    ⟨some 41, none, .d (.fa 1 (.t 5))⟩,
    ⟨some 42, none, .d (.load false 1 (.t 41))⟩,
    ⟨some 43, none, .d (.mv (.t 1))⟩,
    ⟨some 44, none, .d (.len (.t 43))⟩,
    ⟨some 45, none, .d (.call (.f f_power) [(.t 42), (.t 44)])⟩,
    ⟨some 46, none, .d (.bin .arith .mul (.t 40) (.t 45))⟩,
    ⟨some 47, none, .d (.call (.f f_fraction) [(.t 39), (.t 46)])⟩,
    ⟨none, none, .w (.store 2 (.t 6) (.t 47))⟩,
    ⟨some 7, none, .d (.mv (.c (.bool true)))⟩])
  (.ret))))), [.cell 6 2 true, .tmp 7]⟩
def n_ChanceDecoded : Nat → Option Ann := fun _ => none
abbrev k_ChanceDecoded : List Nat := [0, 1, 2, 5, 6, 7, 8, 9, 10, 16, 20, 21, 22]
abbrev o_ChanceDecoded : List Nat := [5, 6]
def a_s_ChanceDecoded (f_l7Scheme : FuncId) (f_l5Words : FuncId) (f_l5Near : FuncId) (f_l7Parts : FuncId) (f_l7Power : FuncId) (f_l7Cut : FuncId) : AFn := ⟨3, 
  .seq (.reg [⟨some 5, none, .w (.box 2 (.t 2))⟩,
    ⟨some 6, none, .w (.alloc [.int .i64 0, .int .i64 0])⟩,
    ⟨some 7, none, .d (.mv (.c (.bool false)))⟩])
  (.seq (.seq (.reg [⟨some 14, none, .d (.mv (.t 0))⟩,
    ⟨some 15, none, .d (.mv (.t 1))⟩,
    ⟨some 16, none, .d (.load true 2 (.t 5))⟩,
    ⟨some 17, none, .d (.call (.f f_l7Scheme) [(.t 14), (.t 15), (.t 16)])⟩,
    ⟨some 18, none, .d (.not (.t 17))⟩])
  (.cond (.t 18) (.seq (.reg [⟨some 19, none, .d (.build [.int .i64 0, .int .i64 0] [])⟩,
     ⟨none, none, .w (.store 2 (.t 6) (.t 19))⟩,
     ⟨some 7, none, .d (.mv (.c (.bool false)))⟩])
   (.ret)) (.skip)))
  (.seq (.reg [⟨some 20, none, .d (.mv (.t 1))⟩,
    ⟨some 21, none, .d (.len (.t 20))⟩,
    ⟨some 22, none, .d (.mv (.t 0))⟩,
    ⟨some 23, none, .d (.mv (.t 1))⟩,
    ⟨some 24, none, .d (.call (.f f_l5Words) [(.t 22), (.t 23)])⟩,
    ⟨some 8, none, .d (.mv (.c (.int .i64 0)))⟩,
    ⟨some 9, none, .d (.mv (.t 21))⟩,
    ⟨some 10, none, .d (.mv (.t 24))⟩])
  (.seq (.seq (.reg [⟨some 11, none, .d (.mv (.c (.int .i64 0)))⟩])
  (.block 0 (.loop (.seq (.seq (.reg [⟨some 25, none, .d (.mv (.t 11))⟩,
      ⟨some 26, none, .d (.mv (.t 9))⟩,
      ⟨some 27, none, .d (.bin .arith .shl (.c (.int .i64 1)) (.t 26))⟩,
      ⟨some 28, none, .d (.bin .arith .lss (.t 25) (.t 27))⟩])
    (.cond (.t 28) (.skip) (.exit 0)))
    (.seq (.block 1 (.seq (.reg [⟨some 32, none, .d (.mv (.t 10))⟩,
       ⟨some 33, none, .d (.mv (.t 11))⟩,
       ⟨some 34, none, .d (.call (.f f_l5Near) [(.t 32), (.t 33)])⟩,
       ⟨some 31, none, .d (.mv (.t 34))⟩,
       ⟨some 35, none, .d (.extract (.t 31) 0)⟩,
       ⟨some 36, none, .d (.extract (.t 31) 1)⟩,
       ⟨some 12, none, .d (.mv (.t 35))⟩,
       ⟨some 13, none, .d (.mv (.t 36))⟩])
     (.seq (.reg [⟨some 37, none, .d (.mv (.t 12))⟩,
       ⟨some 38, none, .d (.len (.t 37))⟩,
       ⟨some 39, none, .d (.bin .arith .gtr (.t 38) (.c (.int .i64 0)))⟩])
     (.cond (.t 39) (.reg [⟨some 40, none, .d (.mv (.t 8))⟩,
        ⟨some 41, none, .d (.mv (.t 9))⟩,
        ⟨some 42, none, .d (.mv (.t 13))⟩,
        ⟨some 43, none, .d (.load true 2 (.t 5))⟩,
        ⟨some 44, none, .d (.call (.f f_l7Parts) [(.t 41), (.t 42), (.t 43)])⟩,
        ⟨some 45, none, .d (.bin .arith .add (.t 40) (.t 44))⟩,
        ⟨some 8, none, .d (.mv (.t 45))⟩]) (.skip)))))
    (.reg [⟨some 29, none, .d (.mv (.t 11))⟩,
      ⟨some 30, none, .d (.bin .arith .add (.t 29) (.c (.int .i64 1)))⟩,
      ⟨some 11, none, .d (.mv (.t 30))⟩]))))))
  (.seq (.reg [⟨some 46, none, .d (.mv (.t 8))⟩,
    ⟨some 47, none, .d (.mv (.t 0))⟩,
    ⟨some 48, none, .d (.fa 1 (.t 5))⟩,
    ⟨some 49, none, .d (.load false 1 (.t 48))⟩,
    ⟨some 50, none, .d (.mv (.t 9))⟩,
    ⟨some 51, none, .d (.call (.f f_l7Power) [(.t 49), (.t 50)])⟩,
    ⟨some 52, none, .d (.bin .arith .mul (.t 47) (.t 51))⟩,
    ⟨some 53, none, .d (.call (.f f_l7Cut) [(.t 46), (.t 52)])⟩,
    ⟨none, none, .w (.store 2 (.t 6) (.t 53))⟩,
    ⟨some 7, none, .d (.mv (.c (.bool true)))⟩])
  (.ret))))), [.cell 6 2 true, .tmp 7]⟩
def n_s_ChanceDecoded : Nat → Option Ann := fun _ => none
abbrev k_s_ChanceDecoded : List Nat := [0, 1, 2, 5, 6, 7, 8, 9, 10, 11, 12, 13, 18, 28, 39]
abbrev o_s_ChanceDecoded : List Nat := [5, 6]
def c_ChanceDecoded : Con := pure' fun
  | [.p (.int .i64 n), .p (.sl 1 l_), .p (.agg [.int .i64 s, .int .i64 o])] => if isI l_ = true ∧ ((ofI l_).length ≤ 1100000) then some (.tp [.ag [.p (.int .i64 (deP n (ofI l_) s o).1), .p (.int .i64 (deP n (ofI l_) s o).2)], .p (.bool (okS n (ofI l_) s o))], []) else none
  | _ => none
theorem s_ChanceDecoded {P : Program} (hm : P.follows .mixedOrders = true) {Γ : Gam} (hΓ : GS P Γ) {n : FuncId} {f_isDrawnScheme : FuncId} {f_near : FuncId} {f_ofThese : FuncId} {f_power : FuncId} {f_fraction : FuncId} (is : Is P n (a_ChanceDecoded f_isDrawnScheme f_near f_ofThese f_power f_fraction)) (h_isDrawnScheme : Γ f_isDrawnScheme = c_isDrawnScheme) (h_near : Γ f_near = c_near) (h_ofThese : Γ f_ofThese = c_ofThese) (h_power : Γ f_power = c_power) (h_fraction : Γ f_fraction = c_fraction)  : Says P n c_ChanceDecoded := by
  refine Says.pure fun args r fs h => ?_
  split at h
  case h_2 => cases h
  rename_i n l_ s o
  split at h
  case isFalse => cases h
  rename_i hc
  obtain ⟨hl_, hc⟩ := hc
  obtain ⟨l, rfl⟩ := isI_out hl_
  simp only [ofI_ints, ofBo_bools, ofAs_asks, Option.some.injEq, Prod.mk.injEq] at h hc
  obtain ⟨rfl, rfl⟩ := h
  have hokd : (isSm n l && decide ((l.length : Int) ≤ 12) && isD s o) = okS n l s o := rfl
  cases hok : okS n l s o with
  | false =>
    have hr : deP n l s o = (0, 0) := by simp only [deP, hok, Bool.false_eq_true, if_false]
    refine is.go hm hΓ k_ChanceDecoded o_ChanceDecoded (by simp [a_ChanceDecoded]) ?_
    simp only [a_ChanceDecoded, h_isDrawnScheme, c_isDrawnScheme, h_near, c_near, h_ofThese, c_ofThese, h_power, c_power, h_fraction, c_fraction, hc, hokd, hok, hr, List.zipIdx_cons, List.zipIdx_nil, ↓SP, SQ, Gam.add, stepM, callC, argC, lendO, nmBy, nmC, likeL, likeB, plainOb, offs, exL, X, F, trP, trO, stepD, stepW, newA, SV.tr, SV.trL, fz, allP, Ob.tr, loadA, cellsA, SV.cells, binA, binI, eqOut, isSl, isPt, natOf, callee, snap, SV.refsL, SV.refs, thaw, fzAll, loA, hiA, elemOf, partsA, buildA, putCells, ↓reduceIte, reduceCtorEq, okCell, Nat.reduceAdd, Nat.reduceEqDiff, Nat.reduceSub, Nat.reduceMul, Nat.reduceLeDiff, Nat.reduceLT, Nat.reduceBEq, PV.scal, PV.scalL, SV.scal, SV.scalL, Ob.scal, PV.isCell, pure', resO]
    exact finA_val (by simp [retA, rvA, mkE_cons, mk_nil, mkO_cons, mkO_nil, loadA, SV.tr, SV.trL, nmF, rn_nil, rn_cons1, rn_cons2, plainOb, SV.refsL, SV.refs, Ob.refs, X, F, List.range_succ, mkO, setO_mk]) (by simp [SV.tr, SV.trL])
  | true =>
    obtain ⟨n1, n2, l1, hd⟩ := okS_out hok
    obtain ⟨d1, d2, d3, d4⟩ := isD_out hd
    have hr : deP n l s o = (frN (dcN s o l n.toNat (2 ^ l.length)) (n * ((o.toNat ^ l.length : Nat) : Int)).toNat, frD (dcN s o l n.toNat (2 ^ l.length)) (n * ((o.toNat ^ l.length : Nat) : Int)).toNat) := by unfold deP; rw [if_pos hok]
    have n0 : 0 ≤ n := by omega
    have nn : 1 ≤ n.toNat := by omega
    have l14 : l.length ≤ 14 := by omega
    have l12 : (l.length : Int) ≤ 12 := by omega
    have l0 : (0 : Int) ≤ l.length := by omega
    have l00 : ¬ (l.length : Int) < 0 := by omega
    have hsh := shlM l1
    have hp12 := pow12 l1
    have o0 : 0 ≤ o := by omega
    have hp := pow_le (b := o.toNat) (e := l.length) (by omega) l1
    have hpos : 0 < o.toNat ^ l.length := Nat.pow_pos (by omega)
    have hmb := mulB (a := n) (b := ((o.toNat ^ l.length : Nat) : Int)) (A := 12) (B := 1000000000000) n0 n2 (by omega) (by omega)
    have hmp : 0 < n * ((o.toNat ^ l.length : Nat) : Int) := Int.mul_pos (by omega) (by omega)
    have wm : IntKind.i64.wrap (n * ((o.toNat ^ l.length : Nat) : Int)) = n * ((o.toNat ^ l.length : Nat) : Int) := wrap64 (by omega) (by omega)
    have m2 : n * ((o.toNat ^ l.length : Nat) : Int) ≤ 4000000000000000000 := by omega
    have hdl := dcN_le (l := l) (n := n.toNat) hd l1 nn
    rw [hr]
    refine is.go hm hΓ k_ChanceDecoded o_ChanceDecoded (by simp [a_ChanceDecoded]) ?_
    simp only [a_ChanceDecoded, h_isDrawnScheme, c_isDrawnScheme, h_near, c_near, h_ofThese, c_ofThese, h_power, c_power, h_fraction, c_fraction, hc, hokd, hok, l00, hsh, List.zipIdx_cons, List.zipIdx_nil, ↓SP, SQ, Gam.add, stepM, callC, argC, lendO, nmBy, nmC, likeL, likeB, plainOb, offs, exL, X, F, trP, trO, stepD, stepW, newA, SV.tr, SV.trL, fz, allP, Ob.tr, loadA, cellsA, SV.cells, binA, binI, eqOut, isSl, isPt, natOf, callee, snap, SV.refsL, SV.refs, thaw, fzAll, loA, hiA, elemOf, partsA, buildA, putCells, ↓reduceIte, reduceCtorEq, okCell, Nat.reduceAdd, Nat.reduceEqDiff, Nat.reduceSub, Nat.reduceMul, Nat.reduceLeDiff, Nat.reduceLT, Nat.reduceBEq, PV.scal, PV.scalL, SV.scal, SV.scalL, Ob.scal, PV.isCell, pure', resO]
    refine loop_at (fun s' : Nat × SV × SV × SV => mkEnv [(0, si n), (1, .p (.sl 1 (ints l))), (2, .p (.agg [.int .i64 s, .int .i64 o])), (5, .bx 5 0), (6, .bx 6 0), (7, sb false), (8, si (dcN s o l n.toNat s'.1)), (9, s'.2.1), (10, s'.2.2.1), (16, sb false), (20, si ((2 ^ l.length : Nat) : Int)), (21, si s'.1), (22, s'.2.2.2)]) (fun s' => mkO [(5, some (.box [si s, si o])), (6, some (.box [si 0, si 0]))]) (fun s' => s'.1 ≤ 2 ^ l.length) (fun s' => 2 ^ l.length - s'.1) (0, .junk, .junk, .junk) (by simp) rfl rfl ?_
    rintro ⟨v, c1, c2, c3⟩ hi R hR hN
    simp only at hi
    by_cases h : v < 2 ^ l.length
    · have h1 : (v : Int) < ((2 ^ l.length : Nat) : Int) := Int.ofNat_lt.2 h
      have hw := wrap_one (i := v) (by omega)
      have v0 : (0 : Int) ≤ v := by omega
      have v1 : (v : Int) < 16384 := by omega
      have hne := neN_le l nn h
      have hnd : (lsI (apL l v n.toNat) n.toNat).1 = neN l n.toNat v := rfl
      have b1 := hdl (v + 1) (by omega)
      have hadd : IntKind.i64.wrap ((dcN s o l n.toNat v : Int) + (partN s.toNat o.toNat l.length (neN l n.toNat v).toNat : Int)) = (dcN s o l n.toNat (v + 1) : Int) := by
        rw [← Int.natCast_add]
        show IntKind.i64.wrap ((dcN s o l n.toNat (v + 1) : Nat) : Int) = _
        exact wrap_nat (by omega)
      simp only [h1, hw, l14, n0, n2, v0, v1, hnd, hne.1, hne.2, hd, l12, h_near, c_near, h_ofThese, c_ofThese, Int.toNat_natCast, hadd, ↓SP, SQ, Gam.add, stepM, callC, argC, lendO, nmBy, nmC, likeL, likeB, plainOb, offs, exL, X, F, trP, trO, stepD, stepW, newA, SV.tr, SV.trL, fz, allP, Ob.tr, loadA, cellsA, SV.cells, binA, binI, eqOut, isSl, isPt, natOf, callee, snap, SV.refsL, SV.refs, thaw, fzAll, loA, hiA, elemOf, partsA, buildA, putCells, ↓reduceIte, reduceCtorEq, okCell, Nat.reduceAdd, Nat.reduceEqDiff, Nat.reduceSub, Nat.reduceMul, Nat.reduceLeDiff, Nat.reduceLT, Nat.reduceBEq, PV.scal, PV.scalL, SV.scal, SV.scalL, Ob.scal, PV.isCell, pure', resO]
      exact hN (v + 1, _, _, _) _ _ (by simp only; omega) (by simp only; omega) rfl rfl
    · have he : v = 2 ^ l.length := by omega
      have h1 : ¬ (v : Int) < ((2 ^ l.length : Nat) : Int) := by omega
      have b1 := hdl (2 ^ l.length) (Nat.le_refl _)
      have x0 : (0 : Int) ≤ (dcN s o l n.toNat (2 ^ l.length) : Int) := by omega
      have x1 : (dcN s o l n.toNat (2 ^ l.length) : Int) ≤ 4000000000000000000 := by omega
      simp only [h1, ↓SP, SQ, Gam.add, stepM, callC, argC, lendO, nmBy, nmC, likeL, likeB, plainOb, offs, exL, X, F, trP, trO, stepD, stepW, newA, SV.tr, SV.trL, fz, allP, Ob.tr, loadA, cellsA, SV.cells, binA, binI, eqOut, isSl, isPt, natOf, callee, snap, SV.refsL, SV.refs, thaw, fzAll, loA, hiA, elemOf, partsA, buildA, putCells, ↓reduceIte, reduceCtorEq, okCell, Nat.reduceAdd, Nat.reduceEqDiff, Nat.reduceSub, Nat.reduceMul, Nat.reduceLeDiff, Nat.reduceLT, Nat.reduceBEq, PV.scal, PV.scalL, SV.scal, SV.scalL, Ob.scal, PV.isCell, pure', resO]
      refine hR _ _ _ (by intro h; cases h) ?_
      subst he
      simp only [o0, d2, l0, l12, h_power, c_power, h_fraction, c_fraction, wm, x0, x1, hmp, m2, Int.toNat_natCast, ↓SP, SQ, Gam.add, stepM, callC, argC, lendO, nmBy, nmC, likeL, likeB, plainOb, offs, exL, X, F, trP, trO, stepD, stepW, newA, SV.tr, SV.trL, fz, allP, Ob.tr, loadA, cellsA, SV.cells, binA, binI, eqOut, isSl, isPt, natOf, callee, snap, SV.refsL, SV.refs, thaw, fzAll, loA, hiA, elemOf, partsA, buildA, putCells, ↓reduceIte, reduceCtorEq, okCell, Nat.reduceAdd, Nat.reduceEqDiff, Nat.reduceSub, Nat.reduceMul, Nat.reduceLeDiff, Nat.reduceLT, Nat.reduceBEq, PV.scal, PV.scalL, SV.scal, SV.scalL, Ob.scal, PV.isCell, pure', resO]
      exact finA_val (by simp [retA, rvA, mkE_cons, mk_nil, mkO_cons, mkO_nil, loadA, SV.tr, SV.trL, nmF, rn_nil, rn_cons1, rn_cons2, plainOb, SV.refsL, SV.refs, Ob.refs, X, F, List.range_succ, mkO, setO_mk]) (by simp [SV.tr, SV.trL])
theorem s_s_ChanceDecoded {P : Program} (hm : P.follows .mixedOrders = true) {Γ : Gam} (hΓ : GS P Γ) {n : FuncId} {f_l7Scheme : FuncId} {f_l5Words : FuncId} {f_l5Near : FuncId} {f_l7Parts : FuncId} {f_l7Power : FuncId} {f_l7Cut : FuncId} (is : Is P n (a_s_ChanceDecoded f_l7Scheme f_l5Words f_l5Near f_l7Parts f_l7Power f_l7Cut)) (h_l7Scheme : Γ f_l7Scheme = c_isDrawnScheme) (h_l5Words : Γ f_l5Words = c_trueWords) (h_l5Near : Γ f_l5Near = c_l5Near) (h_l7Parts : Γ f_l7Parts = c_l7Parts) (h_l7Power : Γ f_l7Power = c_power) (h_l7Cut : Γ f_l7Cut = c_fraction)  : Says P n c_ChanceDecoded := by
  refine Says.pure fun args r fs h => ?_
  split at h
  case h_2 => cases h
  rename_i n l_ s o
  split at h
  case isFalse => cases h
  rename_i hc
  obtain ⟨hl_, hc⟩ := hc
  obtain ⟨l, rfl⟩ := isI_out hl_
  simp only [ofI_ints, ofBo_bools, ofAs_asks, Option.some.injEq, Prod.mk.injEq] at h hc
  obtain ⟨rfl, rfl⟩ := h
  have hokd : (isSm n l && decide ((l.length : Int) ≤ 12) && isD s o) = okS n l s o := rfl
  cases hok : okS n l s o with
  | false =>
    have hr : deP n l s o = (0, 0) := by simp only [deP, hok, Bool.false_eq_true, if_false]
    refine is.go hm hΓ k_s_ChanceDecoded o_s_ChanceDecoded (by simp [a_s_ChanceDecoded]) ?_
    simp only [a_s_ChanceDecoded, h_l7Scheme, c_isDrawnScheme, h_l5Words, c_trueWords, h_l5Near, c_l5Near, h_l7Parts, c_l7Parts, h_l7Power, c_power, h_l7Cut, c_fraction, hc, hokd, hok, hr, List.zipIdx_cons, List.zipIdx_nil, ↓SP, SQ, Gam.add, stepM, callC, argC, lendO, nmBy, nmC, likeL, likeB, plainOb, offs, exL, X, F, trP, trO, stepD, stepW, newA, SV.tr, SV.trL, fz, allP, Ob.tr, loadA, cellsA, SV.cells, binA, binI, eqOut, isSl, isPt, natOf, callee, snap, SV.refsL, SV.refs, thaw, fzAll, loA, hiA, elemOf, partsA, buildA, putCells, ↓reduceIte, reduceCtorEq, okCell, Nat.reduceAdd, Nat.reduceEqDiff, Nat.reduceSub, Nat.reduceMul, Nat.reduceLeDiff, Nat.reduceLT, Nat.reduceBEq, PV.scal, PV.scalL, SV.scal, SV.scalL, Ob.scal, PV.isCell, pure', resO]
    exact finA_val (by simp [retA, rvA, mkE_cons, mk_nil, mkO_cons, mkO_nil, loadA, SV.tr, SV.trL, nmF, rn_nil, rn_cons1, rn_cons2, plainOb, SV.refsL, SV.refs, Ob.refs, X, F, List.range_succ, mkO, setO_mk]) (by simp [SV.tr, SV.trL])
  | true =>
    obtain ⟨n1, n2, l1, hd⟩ := okS_out hok
    obtain ⟨d1, d2, d3, d4⟩ := isD_out hd
    have hr : deP n l s o = (frN (dcN s o l n.toNat (2 ^ l.length)) (n * ((o.toNat ^ l.length : Nat) : Int)).toNat, frD (dcN s o l n.toNat (2 ^ l.length)) (n * ((o.toNat ^ l.length : Nat) : Int)).toNat) := by unfold deP; rw [if_pos hok]
    have n0 : 0 ≤ n := by omega
    have nn : 1 ≤ n.toNat := by omega
    have l14 : l.length ≤ 14 := by omega
    have l12 : (l.length : Int) ≤ 12 := by omega
    have l0 : (0 : Int) ≤ l.length := by omega
    have l00 : ¬ (l.length : Int) < 0 := by omega
    have hsh := shlM l1
    have hp12 := pow12 l1
    have o0 : 0 ≤ o := by omega
    have hp := pow_le (b := o.toNat) (e := l.length) (by omega) l1
    have hpos : 0 < o.toNat ^ l.length := Nat.pow_pos (by omega)
    have hmb := mulB (a := n) (b := ((o.toNat ^ l.length : Nat) : Int)) (A := 12) (B := 1000000000000) n0 n2 (by omega) (by omega)
    have hmp : 0 < n * ((o.toNat ^ l.length : Nat) : Int) := Int.mul_pos (by omega) (by omega)
    have wm : IntKind.i64.wrap (n * ((o.toNat ^ l.length : Nat) : Int)) = n * ((o.toNat ^ l.length : Nat) : Int) := wrap64 (by omega) (by omega)
    have m2 : n * ((o.toNat ^ l.length : Nat) : Int) ≤ 4000000000000000000 := by omega
    have hdl := dcN_le (l := l) (n := n.toNat) hd l1 nn
    rw [hr]
    have hwl : (wdL l n.toNat).length = n.toNat := wdL_len _ _
    have hwf := wdL_fit l n.toNat l14
    have hn4 : n.toNat ≤ 4096 := by omega
    have hnz : ¬ n.toNat = 0 := by omega
    refine is.go hm hΓ k_s_ChanceDecoded o_s_ChanceDecoded (by simp [a_s_ChanceDecoded]) ?_
    simp only [a_s_ChanceDecoded, h_l7Scheme, c_isDrawnScheme, h_l5Words, c_trueWords, h_l5Near, c_l5Near, h_l7Parts, c_l7Parts, h_l7Power, c_power, h_l7Cut, c_fraction, hc, hokd, hok, l14, n0, n2, List.zipIdx_cons, List.zipIdx_nil, ↓SP, SQ, Gam.add, stepM, callC, argC, lendO, nmBy, nmC, likeL, likeB, plainOb, offs, exL, X, F, trP, trO, stepD, stepW, newA, SV.tr, SV.trL, fz, allP, Ob.tr, loadA, cellsA, SV.cells, binA, binI, eqOut, isSl, isPt, natOf, callee, snap, SV.refsL, SV.refs, thaw, fzAll, loA, hiA, elemOf, partsA, buildA, putCells, ↓reduceIte, reduceCtorEq, okCell, Nat.reduceAdd, Nat.reduceEqDiff, Nat.reduceSub, Nat.reduceMul, Nat.reduceLeDiff, Nat.reduceLT, Nat.reduceBEq, PV.scal, PV.scalL, SV.scal, SV.scalL, Ob.scal, PV.isCell, pure', resO]
    refine loop_at (fun s' : Nat × SV × SV × SV × SV => mkEnv [(0, si n), (1, .p (.sl 1 (ints l))), (2, .p (.agg [.int .i64 s, .int .i64 o])), (5, .bx 5 0), (6, .bx 6 0), (7, sb false), (8, si (dcN s o l n.toNat s'.1)), (9, si l.length), (10, .p (.sl 1 (ints (wdL l n.toNat)))), (11, si s'.1), (12, s'.2.1), (13, s'.2.2.1), (18, sb false), (28, s'.2.2.2.1), (39, s'.2.2.2.2)]) (fun s' => mkO [(5, some (.box [si s, si o])), (6, some (.box [si 0, si 0]))]) (fun s' => s'.1 ≤ 2 ^ l.length) (fun s' => 2 ^ l.length - s'.1) (0, .junk, .junk, .junk, .junk) (by simp) rfl rfl ?_
    rintro ⟨v, c1, c2, c3, c4⟩ hi R hR hN
    simp only at hi
    by_cases h : v < 2 ^ l.length
    · have h1 : (v : Int) < ((2 ^ l.length : Nat) : Int) := Int.ofNat_lt.2 h
      have hw := wrap_one (i := v) (by omega)
      have v0 : (0 : Int) ≤ v := by omega
      have v1 : (v : Int) < 16384 := by omega
      have hne := neN_le l nn h
      have hnd : (lsI (apL l v n.toNat) n.toNat).1 = neN l n.toNat v := rfl
      have hda := dsW_apL l v n.toNat
      have hgt : ((lsI (apL l v n.toNat) n.toNat).2.length : Int) > 0 := by
        obtain ⟨k, hk⟩ : ∃ k, n.toNat = k + 1 := ⟨n.toNat - 1, by omega⟩
        rw [hk]
        have := lsI_pos (apL l v (k + 1)) k
        omega
      have b1 := hdl (v + 1) (by omega)
      have hadd : IntKind.i64.wrap ((dcN s o l n.toNat v : Int) + (partN s.toNat o.toNat l.length (neN l n.toNat v).toNat : Int)) = (dcN s o l n.toNat (v + 1) : Int) := by
        rw [← Int.natCast_add]
        show IntKind.i64.wrap ((dcN s o l n.toNat (v + 1) : Nat) : Int) = _
        exact wrap_nat (by omega)
      simp only [l00, hsh, h1, hw, v0, v1, hwl, hwf, hn4, hnz, hda, hnd, hgt, hne.1, hne.2, hd, l12, h_l5Near, c_l5Near, h_l7Parts, c_l7Parts, ints_len, ofI_ints, isI_ints, Int.toNat_natCast, hadd, ↓SP, SQ, Gam.add, stepM, callC, argC, lendO, nmBy, nmC, likeL, likeB, plainOb, offs, exL, X, F, trP, trO, stepD, stepW, newA, SV.tr, SV.trL, fz, allP, Ob.tr, loadA, cellsA, SV.cells, binA, binI, eqOut, isSl, isPt, natOf, callee, snap, SV.refsL, SV.refs, thaw, fzAll, loA, hiA, elemOf, partsA, buildA, putCells, ↓reduceIte, reduceCtorEq, okCell, Nat.reduceAdd, Nat.reduceEqDiff, Nat.reduceSub, Nat.reduceMul, Nat.reduceLeDiff, Nat.reduceLT, Nat.reduceBEq, PV.scal, PV.scalL, SV.scal, SV.scalL, Ob.scal, PV.isCell, pure', resO]
      exact hN (v + 1, _, _, _, _) _ _ (by simp only; omega) (by simp only; omega) rfl rfl
    · have he : v = 2 ^ l.length := by omega
      have h1 : ¬ (v : Int) < ((2 ^ l.length : Nat) : Int) := by omega
      have b1 := hdl (2 ^ l.length) (Nat.le_refl _)
      have x0 : (0 : Int) ≤ (dcN s o l n.toNat (2 ^ l.length) : Int) := by omega
      have x1 : (dcN s o l n.toNat (2 ^ l.length) : Int) ≤ 4000000000000000000 := by omega
      simp only [l00, hsh, h1, ↓SP, SQ, Gam.add, stepM, callC, argC, lendO, nmBy, nmC, likeL, likeB, plainOb, offs, exL, X, F, trP, trO, stepD, stepW, newA, SV.tr, SV.trL, fz, allP, Ob.tr, loadA, cellsA, SV.cells, binA, binI, eqOut, isSl, isPt, natOf, callee, snap, SV.refsL, SV.refs, thaw, fzAll, loA, hiA, elemOf, partsA, buildA, putCells, ↓reduceIte, reduceCtorEq, okCell, Nat.reduceAdd, Nat.reduceEqDiff, Nat.reduceSub, Nat.reduceMul, Nat.reduceLeDiff, Nat.reduceLT, Nat.reduceBEq, PV.scal, PV.scalL, SV.scal, SV.scalL, Ob.scal, PV.isCell, pure', resO]
      refine hR _ _ _ (by intro h; cases h) ?_
      subst he
      simp only [o0, d2, l0, l12, h_l7Power, c_power, h_l7Cut, c_fraction, wm, x0, x1, hmp, m2, Int.toNat_natCast, ↓SP, SQ, Gam.add, stepM, callC, argC, lendO, nmBy, nmC, likeL, likeB, plainOb, offs, exL, X, F, trP, trO, stepD, stepW, newA, SV.tr, SV.trL, fz, allP, Ob.tr, loadA, cellsA, SV.cells, binA, binI, eqOut, isSl, isPt, natOf, callee, snap, SV.refsL, SV.refs, thaw, fzAll, loA, hiA, elemOf, partsA, buildA, putCells, ↓reduceIte, reduceCtorEq, okCell, Nat.reduceAdd, Nat.reduceEqDiff, Nat.reduceSub, Nat.reduceMul, Nat.reduceLeDiff, Nat.reduceLT, Nat.reduceBEq, PV.scal, PV.scalL, SV.scal, SV.scalL, Ob.scal, PV.isCell, pure', resO]
      exact finA_val (by simp [retA, rvA, mkE_cons, mk_nil, mkO_cons, mkO_nil, loadA, SV.tr, SV.trL, nmF, rn_nil, rn_cons1, rn_cons2, plainOb, SV.refsL, SV.refs, Ob.refs, X, F, List.range_succ, mkO, setO_mk]) (by simp [SV.tr, SV.trL])
end Go.Proofs.Ytmbljmolegalhaa.Pam
