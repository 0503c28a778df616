/- A part of the proof that stands in this folder: a small machine whose steps are shown to be the steps of the model, or walks of functions by it. No condition of its own. -/
import Derived.Test.YtmbljmolegalhaaGdLV
set_option linter.unusedVariables false
set_option linter.unusedSimpArgs false
namespace Go.Proofs.Ytmbljmolegalhaa.Pam
open Go
theorem pcN_le2 : ∀ f x k, x < 2 ^ k → pcN f x ≤ k
  | 0, _, _, _ => by simp [pcN]
  | f + 1, x, 0, h => by
    have : x = 0 := by simp at h; omega
    rw [this, pcN_zero]; omega
  | f + 1, x, k + 1, h => by
    have h2 : x / 2 < 2 ^ k := by rw [Nat.pow_succ] at h; omega
    have := pcN_le2 f (x / 2) k h2
    have := Nat.mod_lt x (y := 2) (by omega)
    simp only [pcN]; omega
theorem wdL_get (l : List Int) {n i : Nat} (h : i < n) : (wdL l n).getD i 0 = (wdN l i l.length : Int) := by
  rw [getD_lt (by rw [wdL_len]; exact h)]; simp [wdL]
theorem apD_le (l : List Int) {n i j : Nat} (hi : i < n) (hj : j < n) : 0 ≤ apD (wdL l n) i j ∧ apD (wdL l n) i j ≤ l.length := by
  have := pcN_le2 14 (wdN l i l.length ^^^ wdN l j l.length) l.length (Nat.xor_lt_two_pow (wdN_lt _ _ _) (wdN_lt _ _ _))
  simp only [apD, wdL_get l hi, wdL_get l hj, Int.toNat_natCast]
  omega
theorem gI_le (l : List Int) {n i : Nat} (hi : i < n) {g : Int} (hg : 0 ≤ g ∧ g ≤ l.length) : ∀ j, j ≤ i → 0 ≤ gI (wdL l n) i g j ∧ gI (wdL l n) i g j ≤ l.length
  | 0, _ => hg
  | j + 1, h => by
    have h1 := gI_le l hi hg j (by omega)
    have h2 := apD_le l hi (show j < n by omega)
    simp only [gI]
    split
    · exact h2
    · exact h1
theorem gO_le (l : List Int) {n : Nat} : ∀ i, i ≤ n → 0 ≤ gO (wdL l n) i ∧ gO (wdL l n) i ≤ l.length
  | 0, _ => by simp [gO]
  | i + 1, h => gI_le l (by omega) (gO_le l i (by omega)) i (Nat.le_refl _)
/-- Whether a scheme's chances are asked. -/
def okS (n : Int) (l : List Int) (s o : Int) : Bool := isSm n l && decide ((l.length : Int) ≤ 12) && isD s o
def gapN (n : Int) (l : List Int) : Int := gO (wdL l n.toNat) n.toNat
def saX (n : Int) (l : List Int) (s o : Int) : Nat := inB s.toNat o.toNat l.length (((gapN n l - 1).tdiv 2).toNat + 1)
def saP (n : Int) (l : List Int) (s o : Int) : Int × Int := if okS n l s o = true then (if n = 1 then (1, 1) else if gapN n l = 0 then (0, 1) else (frN (saX n l s o) (o.toNat ^ l.length), frD (saX n l s o) (o.toNat ^ l.length))) else (0, 0)
theorem okS_out {n : Int} {l : List Int} {s o : Int} (h : okS n l s o = true) : 1 ≤ n ∧ n ≤ 12 ∧ l.length ≤ 12 ∧ isD s o = true := by
  simp only [okS, isSm, Bool.and_eq_true, decide_eq_true_eq] at h
  exact ⟨h.1.1.1.1.1, h.1.1.1.1.2, by omega, h.2⟩
def a_ChanceSafe (f_isDrawnScheme : FuncId) (f_gap : FuncId) (f_dWithin : FuncId) (f_dOf : FuncId) : AFn := ⟨3, 
  .seq (.reg [⟨some 5, none, .w (.box 2 (.t 2))⟩,
    ⟨some 6, none, .w (.alloc [.int .i64 0, .int .i64 0])⟩,
    ⟨some 7, none, .d (.mv (.c (.bool false)))⟩])
  (.seq (.seq (.reg [⟨some 9, none, .d (.mv (.t 0))⟩,
    ⟨some 10, none, .d (.mv (.t 1))⟩,
    ⟨some 11, none, .d (.load true 2 (.t 5))⟩,
    ⟨some 12, none, .d (.call (.f f_isDrawnScheme) [(.t 9), (.t 10), (.t 11)])⟩,
    ⟨some 13, none, .d (.not (.t 12))⟩])
  (.cond (.t 13) (.seq (.reg [⟨some 14, none, .d (.build [.int .i64 0, .int .i64 0] [])⟩,
     ⟨none, none, .w (.store 2 (.t 6) (.t 14))⟩,
     ⟨some 7, none, .d (.mv (.c (.bool false)))⟩])
   (.ret)) (.skip)))
  (.seq (.reg [⟨some 15, none, .d (.mv (.t 0))⟩,
    ⟨some 16, none, .d (.mv (.t 1))⟩,
    ⟨some 17, none, .d (.call (.f f_gap) [(.t 15), (.t 16)])⟩,
    ⟨some 8, none, .d (.mv (.t 17))⟩])
  (.seq (.block 0 (.seq (.reg [⟨some 19, none, .d (.mv (.t 0))⟩,
     ⟨some 20, none, .d (.bin .arith .eql (.t 19) (.c (.int .i64 1)))⟩,
     ⟨some 18, none, .d (.mv (.t 20))⟩])
   (.cond (.t 18) (.seq (.reg [⟨some 21, none, .d (.build [.int .i64 0, .int .i64 0] [(0, 1, (.c (.int .i64 1))), (1, 1, (.c (.int .i64 1)))])⟩,
      ⟨none, none, .w (.store 2 (.t 6) (.t 21))⟩,
      ⟨some 7, none, .d (.mv (.c (.bool true)))⟩])
    (.ret)) (.seq (.reg [⟨some 23, none, .d (.mv (.t 8))⟩,
      ⟨some 24, none, .d (.bin .arith .eql (.t 23) (.c (.int .i64 0)))⟩,
      ⟨some 22, none, .d (.mv (.t 24))⟩])
    (.cond (.t 22) (.seq (.reg [⟨some 25, none, .d (.build [.int .i64 0, .int .i64 0] [(0, 1, (.c (.int .i64 0))), (1, 1, (.c (.int .i64 1)))])⟩,
       ⟨none, none, .w (.store 2 (.t 6) (.t 25))⟩,
       ⟨some 7, none, .d (.mv (.c (.bool true)))⟩])
     (.ret)) (.skip))))))
  (.seq (.dreg [] [([], ⟨some 26, none, .d (.load true 2 (.t 5))⟩),
    ([], ⟨some 27, none, .d (.mv (.t 1))⟩),
    ([], ⟨some 28, none, .d (.len (.t 27))⟩),
    ([], ⟨some 29, none, .d (.load true 2 (.t 5))⟩),
    ([], ⟨some 30, none, .d (.mv (.t 1))⟩),
    ([], ⟨some 31, none, .d (.len (.t 30))⟩),
    ([], ⟨some 32, none, .d (.mv (.t 8))⟩),
    ([], ⟨some 33, none, .d (.bin .arith .sub (.t 32) (.c (.int .i64 1)))⟩),
    ([], ⟨some 34, none, .d (.bin .arith .quo (.t 33) (.c (.int .i64 2)))⟩),
    ([], ⟨some 35, none, .d (.call (.f f_dWithin) [(.t 29), (.t 31), (.t 34)])⟩)] [⟨some 36, none, .d (.call (.f f_dOf) [(.t 26), (.t 28), (.t 35)])⟩,
    ⟨none, none, .w (.store 2 (.t 6) (.t 36))⟩,
    ⟨some 7, none, .d (.mv (.c (.bool true)))⟩])
  (.ret))))), [.cell 6 2 true, .tmp 7]⟩
def n_ChanceSafe : Nat → Option Ann := fun _ => none
abbrev k_ChanceSafe : List Nat := [0, 1, 2, 5, 6, 7, 8, 13, 18, 22]
abbrev o_ChanceSafe : List Nat := [5, 6]
def a_s_ChanceSafe (f_l7Scheme : FuncId) (f_l5Words : FuncId) (f_l5Gap : FuncId) (f_l7Within : FuncId) (f_l7Power : FuncId) (f_l7Cut : FuncId) : AFn := ⟨3, 
  .seq (.reg [⟨some 5, none, .w (.box 2 (.t 2))⟩,
    ⟨some 6, none, .w (.alloc [.int .i64 0, .int .i64 0])⟩,
    ⟨some 7, none, .d (.mv (.c (.bool false)))⟩])
  (.seq (.seq (.reg [⟨some 10, none, .d (.mv (.t 0))⟩,
    ⟨some 11, none, .d (.mv (.t 1))⟩,
    ⟨some 12, none, .d (.load true 2 (.t 5))⟩,
    ⟨some 13, none, .d (.call (.f f_l7Scheme) [(.t 10), (.t 11), (.t 12)])⟩,
    ⟨some 14, none, .d (.not (.t 13))⟩])
  (.cond (.t 14) (.seq (.reg [⟨some 15, none, .d (.build [.int .i64 0, .int .i64 0] [])⟩,
     ⟨none, none, .w (.store 2 (.t 6) (.t 15))⟩,
     ⟨some 7, none, .d (.mv (.c (.bool false)))⟩])
   (.ret)) (.skip)))
  (.seq (.reg [⟨some 16, none, .d (.mv (.t 1))⟩,
    ⟨some 17, none, .d (.len (.t 16))⟩,
    ⟨some 18, none, .d (.mv (.t 0))⟩,
    ⟨some 19, none, .d (.mv (.t 1))⟩,
    ⟨some 20, none, .d (.call (.f f_l5Words) [(.t 18), (.t 19)])⟩,
    ⟨some 21, none, .d (.call (.f f_l5Gap) [(.t 20)])⟩,
    ⟨some 8, none, .d (.mv (.t 17))⟩,
    ⟨some 9, none, .d (.mv (.t 21))⟩])
  (.seq (.block 0 (.seq (.reg [⟨some 23, none, .d (.mv (.t 0))⟩,
     ⟨some 24, none, .d (.bin .arith .eql (.t 23) (.c (.int .i64 1)))⟩,
     ⟨some 22, none, .d (.mv (.t 24))⟩])
   (.cond (.t 22) (.seq (.reg [⟨some 25, none, .d (.build [.int .i64 0, .int .i64 0] [(0, 1, (.c (.int .i64 1))), (1, 1, (.c (.int .i64 1)))])⟩,
      ⟨none, none, .w (.store 2 (.t 6) (.t 25))⟩,
      ⟨some 7, none, .d (.mv (.c (.bool true)))⟩])
    (.ret)) (.seq (.reg [⟨some 27, none, .d (.mv (.t 9))⟩,
      ⟨some 28, none, .d (.bin .arith .eql (.t 27) (.c (.int .i64 0)))⟩,
      ⟨some 26, none, .d (.mv (.t 28))⟩])
    (.cond (.t 26) (.seq (.reg [⟨some 29, none, .d (.build [.int .i64 0, .int .i64 0] [(0, 1, (.c (.int .i64 0))), (1, 1, (.c (.int .i64 1)))])⟩,
       ⟨none, none, .w (.store 2 (.t 6) (.t 29))⟩,
       ⟨some 7, none, .d (.mv (.c (.bool true)))⟩])
     (.ret)) (.skip))))))
  (.seq (.dreg [] [([], ⟨some 30, none, .d (.mv (.t 8))⟩),
    ([], ⟨some 31, none, .d (.mv (.t 9))⟩),
    ([], ⟨some 32, none, .d (.bin .arith .sub (.t 31) (.c (.int .i64 1)))⟩),
    ([], ⟨some 33, none, .d (.bin .arith .quo (.t 32) (.c (.int .i64 2)))⟩),
    ([], ⟨some 34, none, .d (.load true 2 (.t 5))⟩),
    ([], ⟨some 35, none, .d (.call (.f f_l7Within) [(.t 30), (.t 33), (.t 34)])⟩),
    ([], ⟨some 36, none, .d (.fa 1 (.t 5))⟩),
    ([], ⟨some 37, none, .d (.load false 1 (.t 36))⟩),
    ([], ⟨some 38, none, .d (.mv (.t 8))⟩)] [⟨some 39, none, .d (.call (.f f_l7Power) [(.t 37), (.t 38)])⟩,
    ⟨some 40, none, .d (.call (.f f_l7Cut) [(.t 35), (.t 39)])⟩,
    ⟨none, none, .w (.store 2 (.t 6) (.t 40))⟩,
    ⟨some 7, none, .d (.mv (.c (.bool true)))⟩])
  (.ret))))), [.cell 6 2 true, .tmp 7]⟩
def n_s_ChanceSafe : Nat → Option Ann := fun _ => none
abbrev k_s_ChanceSafe : List Nat := [0, 1, 2, 5, 6, 7, 8, 9, 14, 22, 26]
abbrev o_s_ChanceSafe : List Nat := [5, 6]
def c_ChanceSafe : Con := pure' fun
  | [.p (.int .i64 n), .p (.sl 1 l_), .p (.agg [.int .i64 s, .int .i64 o])] => if isI l_ = true ∧ ((ofI l_).length ≤ 1100000) then some (.tp [.ag [.p (.int .i64 (saP n (ofI l_) s o).1), .p (.int .i64 (saP n (ofI l_) s o).2)], .p (.bool (okS n (ofI l_) s o))], []) else none
  | _ => none
theorem s_ChanceSafe {P : Program} (hm : P.follows .mixedOrders = true) {Γ : Gam} (hΓ : GS P Γ) {n : FuncId} {f_isDrawnScheme : FuncId} {f_gap : FuncId} {f_dWithin : FuncId} {f_dOf : FuncId} (is : Is P n (a_ChanceSafe f_isDrawnScheme f_gap f_dWithin f_dOf)) (h_isDrawnScheme : Γ f_isDrawnScheme = c_isDrawnScheme) (h_gap : Γ f_gap = c_gap) (h_dWithin : Γ f_dWithin = c_dWithin) (h_dOf : Γ f_dOf = c_dOf)  : Says P n c_ChanceSafe := by
  refine Says.pure fun args r fs h => ?_
  split at h
  case h_2 => cases h
  rename_i n l_ s o
  split at h
  case isFalse => cases h
  rename_i hc
  obtain ⟨hl_, hc⟩ := hc
  obtain ⟨l, rfl⟩ := isI_out hl_
  simp only [ofI_ints, ofBo_bools, ofAs_asks, Option.some.injEq, Prod.mk.injEq] at h hc
  obtain ⟨rfl, rfl⟩ := h
  have hokd : (isSm n l && decide ((l.length : Int) ≤ 12) && isD s o) = okS n l s o := rfl
  cases hok : okS n l s o with
  | false =>
    have hr : saP n l s o = (0, 0) := by simp only [saP, hok, Bool.false_eq_true, if_false]
    refine is.go hm hΓ k_ChanceSafe o_ChanceSafe (by simp [a_ChanceSafe]) ?_
    simp only [a_ChanceSafe, h_isDrawnScheme, c_isDrawnScheme, h_gap, c_gap, h_dWithin, c_dWithin, h_dOf, c_dOf, hc, hokd, hok, hr, List.zipIdx_cons, List.zipIdx_nil, ↓SP, SQ, Gam.add, stepM, callC, argC, lendO, nmBy, nmC, likeL, likeB, plainOb, offs, X, F, trP, trO, stepD, stepW, newA, SV.tr, SV.trL, fz, allP, Ob.tr, loadA, cellsA, SV.cells, binA, binI, eqOut, isSl, isPt, natOf, callee, snap, SV.refsL, SV.refs, thaw, fzAll, loA, hiA, elemOf, partsA, buildA, putCells, ↓reduceIte, reduceCtorEq, okCell, Nat.reduceAdd, Nat.reduceEqDiff, Nat.reduceSub, Nat.reduceMul, Nat.reduceLeDiff, Nat.reduceLT, Nat.reduceBEq, PV.scal, PV.scalL, SV.scal, SV.scalL, Ob.scal, PV.isCell, pure', resO]
    exact finA_val (by simp [retA, rvA, List.mapM_cons, List.mapM_nil, Option.pure_def, Option.bind_eq_bind, Option.bind_some, Option.map_some, mkE_cons, mk_nil, mkO_cons, mkO_nil, loadA, ↓reduceIte, List.take_succ_cons, List.take_zero, List.drop_zero, List.drop_succ_cons, List.length_cons, List.length_nil, Nat.reduceAdd, Nat.reduceEqDiff, Nat.reduceLeDiff, Nat.zero_add, Nat.le_refl, reduceCtorEq, SV.tr, SV.trL, nmF, rn_nil, rn_cons1, rn_cons2, List.map_cons, List.map_nil, List.all_cons, List.all_nil, plainOb, SV.refsL, SV.refs, Ob.refs, X, F, List.range_succ, List.range_zero, List.nil_append, List.cons_append, List.isEmpty_nil, decide_true, Nat.reduceLT, Bool.and_self, Bool.and_true, and_self, and_true, List.getElem?_cons_zero, List.getElem?_cons_succ, List.nodup_cons, List.nodup_nil, List.mem_cons, List.not_mem_nil, not_false_eq_true, or_false, List.append_nil, mkO, setO_mk, List.mem_singleton]) (by simp [SV.tr, SV.trL])
  | true =>
    obtain ⟨n1, n2, l1, hd⟩ := okS_out hok
    obtain ⟨d1, d2, d3, d4⟩ := isD_out hd
    have hsm : isSm n l = true := by
      simp only [okS, Bool.and_eq_true] at hok; exact hok.1.1
    have l12 : (l.length : Int) ≤ 12 := by omega
    have l14 : l.length ≤ 14 := by omega
    have n0 : 0 ≤ n := by omega
    have hgd : gO (wdL l n.toNat) n.toNat = gapN n l := rfl
    have hgl : 0 ≤ gapN n l ∧ gapN n l ≤ l.length := gO_le l n.toNat (Nat.le_refl _)
    have hwl : (wdL l n.toNat).length = n.toNat := wdL_len _ _
    have hwl2 : (wdL l n.toNat).length ≤ 4096 := by omega
    have hn4 : n.toNat ≤ 4096 := by omega
    have hwf := wdL_fit l n.toNat l14
    by_cases hn1 : n = 1
    · have e1 : (n == 1) = true := beq_iff_eq.2 hn1
      have hr : saP n l s o = (1, 1) := by unfold saP; rw [if_pos hok, if_pos hn1]
      refine is.go hm hΓ k_ChanceSafe o_ChanceSafe (by simp [a_ChanceSafe]) ?_
      simp only [a_ChanceSafe, h_isDrawnScheme, c_isDrawnScheme, h_gap, c_gap, h_dWithin, c_dWithin, h_dOf, c_dOf, hc, hsm, l12, hd, decide_true, Bool.and_self, hok, hr, l14, n0, n2, hgd, e1, hwl, hn4, hwf, ints_len, ofI_ints, isI_ints, List.zipIdx_cons, List.zipIdx_nil, ↓SP, SQ, Gam.add, stepM, callC, argC, lendO, nmBy, nmC, likeL, likeB, plainOb, offs, X, F, trP, trO, stepD, stepW, newA, SV.tr, SV.trL, fz, allP, Ob.tr, loadA, cellsA, SV.cells, binA, binI, eqOut, isSl, isPt, natOf, callee, snap, SV.refsL, SV.refs, thaw, fzAll, loA, hiA, elemOf, partsA, buildA, putCells, ↓reduceIte, reduceCtorEq, okCell, Nat.reduceAdd, Nat.reduceEqDiff, Nat.reduceSub, Nat.reduceMul, Nat.reduceLeDiff, Nat.reduceLT, Nat.reduceBEq, PV.scal, PV.scalL, SV.scal, SV.scalL, Ob.scal, PV.isCell, pure', resO]
      exact finA_val (by simp [retA, rvA, List.mapM_cons, List.mapM_nil, Option.pure_def, Option.bind_eq_bind, Option.bind_some, Option.map_some, mkE_cons, mk_nil, mkO_cons, mkO_nil, loadA, ↓reduceIte, List.take_succ_cons, List.take_zero, List.drop_zero, List.drop_succ_cons, List.length_cons, List.length_nil, Nat.reduceAdd, Nat.reduceEqDiff, Nat.reduceLeDiff, Nat.zero_add, Nat.le_refl, reduceCtorEq, SV.tr, SV.trL, nmF, rn_nil, rn_cons1, rn_cons2, List.map_cons, List.map_nil, List.all_cons, List.all_nil, plainOb, SV.refsL, SV.refs, Ob.refs, X, F, List.range_succ, List.range_zero, List.nil_append, List.cons_append, List.isEmpty_nil, decide_true, Nat.reduceLT, Bool.and_self, Bool.and_true, and_self, and_true, List.getElem?_cons_zero, List.getElem?_cons_succ, List.nodup_cons, List.nodup_nil, List.mem_cons, List.not_mem_nil, not_false_eq_true, or_false, List.append_nil, mkO, setO_mk, List.mem_singleton]) (by simp [SV.tr, SV.trL])
    · have e1 : (n == 1) = false := beq_eq_false_iff_ne.2 hn1
      by_cases hg0 : gapN n l = 0
      · have e2 : (gapN n l == 0) = true := beq_iff_eq.2 hg0
        have hr : saP n l s o = (0, 1) := by simp only [saP, hok, hn1, hg0, if_true, if_false]
        refine is.go hm hΓ k_ChanceSafe o_ChanceSafe (by simp [a_ChanceSafe]) ?_
        simp only [a_ChanceSafe, h_isDrawnScheme, c_isDrawnScheme, h_gap, c_gap, h_dWithin, c_dWithin, h_dOf, c_dOf, hc, hsm, l12, hd, decide_true, Bool.and_self, hok, hr, l14, n0, n2, hgd, e1, e2, hwl, hn4, hwf, ints_len, ofI_ints, isI_ints, List.zipIdx_cons, List.zipIdx_nil, ↓SP, SQ, Gam.add, stepM, callC, argC, lendO, nmBy, nmC, likeL, likeB, plainOb, offs, X, F, trP, trO, stepD, stepW, newA, SV.tr, SV.trL, fz, allP, Ob.tr, loadA, cellsA, SV.cells, binA, binI, eqOut, isSl, isPt, natOf, callee, snap, SV.refsL, SV.refs, thaw, fzAll, loA, hiA, elemOf, partsA, buildA, putCells, ↓reduceIte, reduceCtorEq, okCell, Nat.reduceAdd, Nat.reduceEqDiff, Nat.reduceSub, Nat.reduceMul, Nat.reduceLeDiff, Nat.reduceLT, Nat.reduceBEq, PV.scal, PV.scalL, SV.scal, SV.scalL, Ob.scal, PV.isCell, pure', resO]
        exact finA_val (by simp [retA, rvA, List.mapM_cons, List.mapM_nil, Option.pure_def, Option.bind_eq_bind, Option.bind_some, Option.map_some, mkE_cons, mk_nil, mkO_cons, mkO_nil, loadA, ↓reduceIte, List.take_succ_cons, List.take_zero, List.drop_zero, List.drop_succ_cons, List.length_cons, List.length_nil, Nat.reduceAdd, Nat.reduceEqDiff, Nat.reduceLeDiff, Nat.zero_add, Nat.le_refl, reduceCtorEq, SV.tr, SV.trL, nmF, rn_nil, rn_cons1, rn_cons2, List.map_cons, List.map_nil, List.all_cons, List.all_nil, plainOb, SV.refsL, SV.refs, Ob.refs, X, F, List.range_succ, List.range_zero, List.nil_append, List.cons_append, List.isEmpty_nil, decide_true, Nat.reduceLT, Bool.and_self, Bool.and_true, and_self, and_true, List.getElem?_cons_zero, List.getElem?_cons_succ, List.nodup_cons, List.nodup_nil, List.mem_cons, List.not_mem_nil, not_false_eq_true, or_false, List.append_nil, mkO, setO_mk, List.mem_singleton]) (by simp [SV.tr, SV.trL])
      · have e2 : (gapN n l == 0) = false := beq_eq_false_iff_ne.2 hg0
        have hr : saP n l s o = (frN (saX n l s o) (o.toNat ^ l.length), frD (saX n l s o) (o.toNat ^ l.length)) := by simp only [saP, hok, hn1, hg0, if_true, if_false]
        have w1 : IntKind.i64.wrap (gapN n l - 1) = gapN n l - 1 := wrap64 (by omega) (by omega)
        have hq : 0 ≤ (gapN n l - 1).tdiv 2 ∧ (gapN n l - 1).tdiv 2 ≤ l.length := by
          rw [Int.tdiv_eq_ediv_of_nonneg (by omega)]; omega
        have w2 : IntKind.i64.wrap ((gapN n l - 1).tdiv 2) = (gapN n l - 1).tdiv 2 := wrap64 (by omega) (by omega)
        have hxd : inB s.toNat o.toNat l.length (((gapN n l - 1).tdiv 2).toNat + 1) = saX n l s o := rfl
        have hxb := inB_le (s := s.toNat) (o := o.toNat) (n := l.length) (by omega) (by omega) l1 (((gapN n l - 1).tdiv 2).toNat + 1) (by omega)
        rw [hxd] at hxb
        have x0 : (0 : Int) ≤ (saX n l s o : Int) := by omega
        have x1 : (saX n l s o : Int) ≤ 4000000000000000000 := by omega
        have l0 : (0 : Int) ≤ l.length := by omega
        have hp := pow_le (b := o.toNat) (e := l.length) (by omega) l1
        have hpos : 0 < o.toNat ^ l.length := Nat.pow_pos (by omega)
        have p1 : (0 : Int) < ((o.toNat ^ l.length : Nat) : Int) := by omega
        have p2 : ((o.toNat ^ l.length : Nat) : Int) ≤ 4000000000000000000 := by omega
        have o0 : 0 ≤ o := by omega
        refine is.go hm hΓ k_ChanceSafe o_ChanceSafe (by simp [a_ChanceSafe]) ?_
        simp only [a_ChanceSafe, h_isDrawnScheme, c_isDrawnScheme, h_gap, c_gap, h_dWithin, c_dWithin, h_dOf, c_dOf, hc, hsm, l12, decide_true, Bool.and_self, hok, hr, hd, l14, n0, n2, o0, d2, hgd, e1, e2, hwl, hn4, hwf, w1, w2, hq.1, hq.2, hxd, x0, x1, l0, l12, p1, p2, ints_len, ofI_ints, isI_ints, Int.toNat_natCast, Int.reduceEq, List.zipIdx_cons, List.zipIdx_nil, ↓SP, SQ, Gam.add, stepM, callC, argC, lendO, nmBy, nmC, likeL, likeB, plainOb, offs, X, F, trP, trO, stepD, stepW, newA, SV.tr, SV.trL, fz, allP, Ob.tr, loadA, cellsA, SV.cells, binA, binI, eqOut, isSl, isPt, natOf, callee, snap, SV.refsL, SV.refs, thaw, fzAll, loA, hiA, elemOf, partsA, buildA, putCells, ↓reduceIte, reduceCtorEq, okCell, Nat.reduceAdd, Nat.reduceEqDiff, Nat.reduceSub, Nat.reduceMul, Nat.reduceLeDiff, Nat.reduceLT, Nat.reduceBEq, PV.scal, PV.scalL, SV.scal, SV.scalL, Ob.scal, PV.isCell, pure', resO]
        exact finA_val (by simp [retA, rvA, List.mapM_cons, List.mapM_nil, Option.pure_def, Option.bind_eq_bind, Option.bind_some, Option.map_some, mkE_cons, mk_nil, mkO_cons, mkO_nil, loadA, ↓reduceIte, List.take_succ_cons, List.take_zero, List.drop_zero, List.drop_succ_cons, List.length_cons, List.length_nil, Nat.reduceAdd, Nat.reduceEqDiff, Nat.reduceLeDiff, Nat.zero_add, Nat.le_refl, reduceCtorEq, SV.tr, SV.trL, nmF, rn_nil, rn_cons1, rn_cons2, List.map_cons, List.map_nil, List.all_cons, List.all_nil, plainOb, SV.refsL, SV.refs, Ob.refs, X, F, List.range_succ, List.range_zero, List.nil_append, List.cons_append, List.isEmpty_nil, decide_true, Nat.reduceLT, Bool.and_self, Bool.and_true, and_self, and_true, List.getElem?_cons_zero, List.getElem?_cons_succ, List.nodup_cons, List.nodup_nil, List.mem_cons, List.not_mem_nil, not_false_eq_true, or_false, List.append_nil, mkO, setO_mk, List.mem_singleton]) (by simp [SV.tr, SV.trL])
theorem s_s_ChanceSafe {P : Program} (hm : P.follows .mixedOrders = true) {Γ : Gam} (hΓ : GS P Γ) {n : FuncId} {f_l7Scheme : FuncId} {f_l5Words : FuncId} {f_l5Gap : FuncId} {f_l7Within : FuncId} {f_l7Power : FuncId} {f_l7Cut : FuncId} (is : Is P n (a_s_ChanceSafe f_l7Scheme f_l5Words f_l5Gap f_l7Within f_l7Power f_l7Cut)) (h_l7Scheme : Γ f_l7Scheme = c_isDrawnScheme) (h_l5Words : Γ f_l5Words = c_trueWords) (h_l5Gap : Γ f_l5Gap = c_l5Gap) (h_l7Within : Γ f_l7Within = c_l7Within) (h_l7Power : Γ f_l7Power = c_power) (h_l7Cut : Γ f_l7Cut = c_fraction)  : Says P n c_ChanceSafe := by
  refine Says.pure fun args r fs h => ?_
  split at h
  case h_2 => cases h
  rename_i n l_ s o
  split at h
  case isFalse => cases h
  rename_i hc
  obtain ⟨hl_, hc⟩ := hc
  obtain ⟨l, rfl⟩ := isI_out hl_
  simp only [ofI_ints, ofBo_bools, ofAs_asks, Option.some.injEq, Prod.mk.injEq] at h hc
  obtain ⟨rfl, rfl⟩ := h
  have hokd : (isSm n l && decide ((l.length : Int) ≤ 12) && isD s o) = okS n l s o := rfl
  cases hok : okS n l s o with
  | false =>
    have hr : saP n l s o = (0, 0) := by simp only [saP, hok, Bool.false_eq_true, if_false]
    refine is.go hm hΓ k_s_ChanceSafe o_s_ChanceSafe (by simp [a_s_ChanceSafe]) ?_
    simp only [a_s_ChanceSafe, h_l7Scheme, c_isDrawnScheme, h_l5Words, c_trueWords, h_l5Gap, c_l5Gap, h_l7Within, c_l7Within, h_l7Power, c_power, h_l7Cut, c_fraction, hc, hokd, hok, hr, List.zipIdx_cons, List.zipIdx_nil, ↓SP, SQ, Gam.add, stepM, callC, argC, lendO, nmBy, nmC, likeL, likeB, plainOb, offs, X, F, trP, trO, stepD, stepW, newA, SV.tr, SV.trL, fz, allP, Ob.tr, loadA, cellsA, SV.cells, binA, binI, eqOut, isSl, isPt, natOf, callee, snap, SV.refsL, SV.refs, thaw, fzAll, loA, hiA, elemOf, partsA, buildA, putCells, ↓reduceIte, reduceCtorEq, okCell, Nat.reduceAdd, Nat.reduceEqDiff, Nat.reduceSub, Nat.reduceMul, Nat.reduceLeDiff, Nat.reduceLT, Nat.reduceBEq, PV.scal, PV.scalL, SV.scal, SV.scalL, Ob.scal, PV.isCell, pure', resO]
    exact finA_val (by simp [retA, rvA, List.mapM_cons, List.mapM_nil, Option.pure_def, Option.bind_eq_bind, Option.bind_some, Option.map_some, mkE_cons, mk_nil, mkO_cons, mkO_nil, loadA, ↓reduceIte, List.take_succ_cons, List.take_zero, List.drop_zero, List.drop_succ_cons, List.length_cons, List.length_nil, Nat.reduceAdd, Nat.reduceEqDiff, Nat.reduceLeDiff, Nat.zero_add, Nat.le_refl, reduceCtorEq, SV.tr, SV.trL, nmF, rn_nil, rn_cons1, rn_cons2, List.map_cons, List.map_nil, List.all_cons, List.all_nil, plainOb, SV.refsL, SV.refs, Ob.refs, X, F, List.range_succ, List.range_zero, List.nil_append, List.cons_append, List.isEmpty_nil, decide_true, Nat.reduceLT, Bool.and_self, Bool.and_true, and_self, and_true, List.getElem?_cons_zero, List.getElem?_cons_succ, List.nodup_cons, List.nodup_nil, List.mem_cons, List.not_mem_nil, not_false_eq_true, or_false, List.append_nil, mkO, setO_mk, List.mem_singleton]) (by simp [SV.tr, SV.trL])
  | true =>
    obtain ⟨n1, n2, l1, hd⟩ := okS_out hok
    obtain ⟨d1, d2, d3, d4⟩ := isD_out hd
    have hsm : isSm n l = true := by
      simp only [okS, Bool.and_eq_true] at hok; exact hok.1.1
    have l12 : (l.length : Int) ≤ 12 := by omega
    have l14 : l.length ≤ 14 := by omega
    have n0 : 0 ≤ n := by omega
    have hgd : gO (wdL l n.toNat) n.toNat = gapN n l := rfl
    have hgl : 0 ≤ gapN n l ∧ gapN n l ≤ l.length := gO_le l n.toNat (Nat.le_refl _)
    have hwl : (wdL l n.toNat).length = n.toNat := wdL_len _ _
    have hwl2 : (wdL l n.toNat).length ≤ 4096 := by omega
    have hn4 : n.toNat ≤ 4096 := by omega
    have hwf := wdL_fit l n.toNat l14
    by_cases hn1 : n = 1
    · have e1 : (n == 1) = true := beq_iff_eq.2 hn1
      have hr : saP n l s o = (1, 1) := by unfold saP; rw [if_pos hok, if_pos hn1]
      refine is.go hm hΓ k_s_ChanceSafe o_s_ChanceSafe (by simp [a_s_ChanceSafe]) ?_
      simp only [a_s_ChanceSafe, h_l7Scheme, c_isDrawnScheme, h_l5Words, c_trueWords, h_l5Gap, c_l5Gap, h_l7Within, c_l7Within, h_l7Power, c_power, h_l7Cut, c_fraction, hc, hsm, l12, hd, decide_true, Bool.and_self, hok, hr, l14, n0, n2, hgd, e1, hwl, hn4, hwf, ints_len, ofI_ints, isI_ints, List.zipIdx_cons, List.zipIdx_nil, ↓SP, SQ, Gam.add, stepM, callC, argC, lendO, nmBy, nmC, likeL, likeB, plainOb, offs, X, F, trP, trO, stepD, stepW, newA, SV.tr, SV.trL, fz, allP, Ob.tr, loadA, cellsA, SV.cells, binA, binI, eqOut, isSl, isPt, natOf, callee, snap, SV.refsL, SV.refs, thaw, fzAll, loA, hiA, elemOf, partsA, buildA, putCells, ↓reduceIte, reduceCtorEq, okCell, Nat.reduceAdd, Nat.reduceEqDiff, Nat.reduceSub, Nat.reduceMul, Nat.reduceLeDiff, Nat.reduceLT, Nat.reduceBEq, PV.scal, PV.scalL, SV.scal, SV.scalL, Ob.scal, PV.isCell, pure', resO]
      exact finA_val (by simp [retA, rvA, List.mapM_cons, List.mapM_nil, Option.pure_def, Option.bind_eq_bind, Option.bind_some, Option.map_some, mkE_cons, mk_nil, mkO_cons, mkO_nil, loadA, ↓reduceIte, List.take_succ_cons, List.take_zero, List.drop_zero, List.drop_succ_cons, List.length_cons, List.length_nil, Nat.reduceAdd, Nat.reduceEqDiff, Nat.reduceLeDiff, Nat.zero_add, Nat.le_refl, reduceCtorEq, SV.tr, SV.trL, nmF, rn_nil, rn_cons1, rn_cons2, List.map_cons, List.map_nil, List.all_cons, List.all_nil, plainOb, SV.refsL, SV.refs, Ob.refs, X, F, List.range_succ, List.range_zero, List.nil_append, List.cons_append, List.isEmpty_nil, decide_true, Nat.reduceLT, Bool.and_self, Bool.and_true, and_self, and_true, List.getElem?_cons_zero, List.getElem?_cons_succ, List.nodup_cons, List.nodup_nil, List.mem_cons, List.not_mem_nil, not_false_eq_true, or_false, List.append_nil, mkO, setO_mk, List.mem_singleton]) (by simp [SV.tr, SV.trL])
    · have e1 : (n == 1) = false := beq_eq_false_iff_ne.2 hn1
      by_cases hg0 : gapN n l = 0
      · have e2 : (gapN n l == 0) = true := beq_iff_eq.2 hg0
        have hr : saP n l s o = (0, 1) := by simp only [saP, hok, hn1, hg0, if_true, if_false]
        refine is.go hm hΓ k_s_ChanceSafe o_s_ChanceSafe (by simp [a_s_ChanceSafe]) ?_
        simp only [a_s_ChanceSafe, h_l7Scheme, c_isDrawnScheme, h_l5Words, c_trueWords, h_l5Gap, c_l5Gap, h_l7Within, c_l7Within, h_l7Power, c_power, h_l7Cut, c_fraction, hc, hsm, l12, hd, decide_true, Bool.and_self, hok, hr, l14, n0, n2, hgd, e1, e2, hwl, hn4, hwf, ints_len, ofI_ints, isI_ints, List.zipIdx_cons, List.zipIdx_nil, ↓SP, SQ, Gam.add, stepM, callC, argC, lendO, nmBy, nmC, likeL, likeB, plainOb, offs, X, F, trP, trO, stepD, stepW, newA, SV.tr, SV.trL, fz, allP, Ob.tr, loadA, cellsA, SV.cells, binA, binI, eqOut, isSl, isPt, natOf, callee, snap, SV.refsL, SV.refs, thaw, fzAll, loA, hiA, elemOf, partsA, buildA, putCells, ↓reduceIte, reduceCtorEq, okCell, Nat.reduceAdd, Nat.reduceEqDiff, Nat.reduceSub, Nat.reduceMul, Nat.reduceLeDiff, Nat.reduceLT, Nat.reduceBEq, PV.scal, PV.scalL, SV.scal, SV.scalL, Ob.scal, PV.isCell, pure', resO]
        exact finA_val (by simp [retA, rvA, List.mapM_cons, List.mapM_nil, Option.pure_def, Option.bind_eq_bind, Option.bind_some, Option.map_some, mkE_cons, mk_nil, mkO_cons, mkO_nil, loadA, ↓reduceIte, List.take_succ_cons, List.take_zero, List.drop_zero, List.drop_succ_cons, List.length_cons, List.length_nil, Nat.reduceAdd, Nat.reduceEqDiff, Nat.reduceLeDiff, Nat.zero_add, Nat.le_refl, reduceCtorEq, SV.tr, SV.trL, nmF, rn_nil, rn_cons1, rn_cons2, List.map_cons, List.map_nil, List.all_cons, List.all_nil, plainOb, SV.refsL, SV.refs, Ob.refs, X, F, List.range_succ, List.range_zero, List.nil_append, List.cons_append, List.isEmpty_nil, decide_true, Nat.reduceLT, Bool.and_self, Bool.and_true, and_self, and_true, List.getElem?_cons_zero, List.getElem?_cons_succ, List.nodup_cons, List.nodup_nil, List.mem_cons, List.not_mem_nil, not_false_eq_true, or_false, List.append_nil, mkO, setO_mk, List.mem_singleton]) (by simp [SV.tr, SV.trL])
      · have e2 : (gapN n l == 0) = false := beq_eq_false_iff_ne.2 hg0
        have hr : saP n l s o = (frN (saX n l s o) (o.toNat ^ l.length), frD (saX n l s o) (o.toNat ^ l.length)) := by simp only [saP, hok, hn1, hg0, if_true, if_false]
        have w1 : IntKind.i64.wrap (gapN n l - 1) = gapN n l - 1 := wrap64 (by omega) (by omega)
        have hq : 0 ≤ (gapN n l - 1).tdiv 2 ∧ (gapN n l - 1).tdiv 2 ≤ l.length := by
          rw [Int.tdiv_eq_ediv_of_nonneg (by omega)]; omega
        have w2 : IntKind.i64.wrap ((gapN n l - 1).tdiv 2) = (gapN n l - 1).tdiv 2 := wrap64 (by omega) (by omega)
        have hxd : inB s.toNat o.toNat l.length (((gapN n l - 1).tdiv 2).toNat + 1) = saX n l s o := rfl
        have hxb := inB_le (s := s.toNat) (o := o.toNat) (n := l.length) (by omega) (by omega) l1 (((gapN n l - 1).tdiv 2).toNat + 1) (by omega)
        rw [hxd] at hxb
        have x0 : (0 : Int) ≤ (saX n l s o : Int) := by omega
        have x1 : (saX n l s o : Int) ≤ 4000000000000000000 := by omega
        have l0 : (0 : Int) ≤ l.length := by omega
        have hp := pow_le (b := o.toNat) (e := l.length) (by omega) l1
        have hpos : 0 < o.toNat ^ l.length := Nat.pow_pos (by omega)
        have p1 : (0 : Int) < ((o.toNat ^ l.length : Nat) : Int) := by omega
        have p2 : ((o.toNat ^ l.length : Nat) : Int) ≤ 4000000000000000000 := by omega
        have o0 : 0 ≤ o := by omega
        refine is.go hm hΓ k_s_ChanceSafe o_s_ChanceSafe (by simp [a_s_ChanceSafe]) ?_
        simp only [a_s_ChanceSafe, h_l7Scheme, c_isDrawnScheme, h_l5Words, c_trueWords, h_l5Gap, c_l5Gap, h_l7Within, c_l7Within, h_l7Power, c_power, h_l7Cut, c_fraction, hc, hsm, l12, decide_true, Bool.and_self, hok, hr, hd, l14, n0, n2, o0, d2, hgd, e1, e2, hwl, hn4, hwf, w1, w2, hq.1, hq.2, hxd, x0, x1, l0, l12, p1, p2, ints_len, ofI_ints, isI_ints, Int.toNat_natCast, Int.reduceEq, List.zipIdx_cons, List.zipIdx_nil, ↓SP, SQ, Gam.add, stepM, callC, argC, lendO, nmBy, nmC, likeL, likeB, plainOb, offs, X, F, trP, trO, stepD, stepW, newA, SV.tr, SV.trL, fz, allP, Ob.tr, loadA, cellsA, SV.cells, binA, binI, eqOut, isSl, isPt, natOf, callee, snap, SV.refsL, SV.refs, thaw, fzAll, loA, hiA, elemOf, partsA, buildA, putCells, ↓reduceIte, reduceCtorEq, okCell, Nat.reduceAdd, Nat.reduceEqDiff, Nat.reduceSub, Nat.reduceMul, Nat.reduceLeDiff, Nat.reduceLT, Nat.reduceBEq, PV.scal, PV.scalL, SV.scal, SV.scalL, Ob.scal, PV.isCell, pure', resO]
        exact finA_val (by simp [retA, rvA, List.mapM_cons, List.mapM_nil, Option.pure_def, Option.bind_eq_bind, Option.bind_some, Option.map_some, mkE_cons, mk_nil, mkO_cons, mkO_nil, loadA, ↓reduceIte, List.take_succ_cons, List.take_zero, List.drop_zero, List.drop_succ_cons, List.length_cons, List.length_nil, Nat.reduceAdd, Nat.reduceEqDiff, Nat.reduceLeDiff, Nat.zero_add, Nat.le_refl, reduceCtorEq, SV.tr, SV.trL, nmF, rn_nil, rn_cons1, rn_cons2, List.map_cons, List.map_nil, List.all_cons, List.all_nil, plainOb, SV.refsL, SV.refs, Ob.refs, X, F, List.range_succ, List.range_zero, List.nil_append, List.cons_append, List.isEmpty_nil, decide_true, Nat.reduceLT, Bool.and_self, Bool.and_true, and_self, and_true, List.getElem?_cons_zero, List.getElem?_cons_succ, List.nodup_cons, List.nodup_nil, List.mem_cons, List.not_mem_nil, not_false_eq_true, or_false, List.append_nil, mkO, setO_mk, List.mem_singleton]) (by simp [SV.tr, SV.trL])
def a_x_ChanceSafe (f_toIntS : FuncId) (f_toDoubt : FuncId) (f_s_ChanceSafe : FuncId) (f_ChanceSafe : FuncId) (f_eqIntA2 : FuncId) (f_eqIntS : FuncId) : AFn := ⟨3, 
  .seq (.reg [⟨some 5, none, .w (.box 2 (.t 2))⟩,
    ⟨some 6, none, .d (.mv (.c (.bool false)))⟩])
  (.seq (.seq (.reg [⟨some 12, none, .d (.mv (.t 1))⟩,
    ⟨some 13, none, .d (.len (.t 12))⟩,
    ⟨some 14, none, .d (.bin .arith .gtr (.t 13) (.c (.int .i64 1048576)))⟩])
  (.cond (.t 14) (.seq (.reg [⟨some 6, none, .d (.mv (.c (.bool true)))⟩])
   (.ret)) (.skip)))
  (.seq (.dreg [7] [([7], ⟨some 16, none, .d (.mv (.t 0))⟩),
    ([7], ⟨some 17, none, .d (.mv (.t 1))⟩),
    ([7], ⟨some 18, none, .d (.call (.f f_toIntS) [(.t 17)])⟩),
    ([7], ⟨some 19, none, .d (.load true 2 (.t 5))⟩),
    ([7], ⟨some 20, none, .d (.call (.f f_toDoubt) [(.t 19)])⟩),
    ([7], ⟨some 21, none, .d (.call (.f f_s_ChanceSafe) [(.t 16), (.t 18), (.t 20)])⟩),
    ([7], ⟨some 15, none, .d (.mv (.t 21))⟩),
    ([7], ⟨some 22, none, .d (.extract (.t 15) 0)⟩),
    ([7], ⟨some 23, none, .d (.extract (.t 15) 1)⟩),
    ([], ⟨some 7, none, .w (.alloc [.int .i64 0, .int .i64 0])⟩),
    ([], ⟨none, none, .w (.store 2 (.t 7) (.t 22))⟩)] [⟨some 8, none, .d (.mv (.t 23))⟩])
  (.seq (.reg [⟨some 24, none, .d (.mv (.t 1))⟩,
    ⟨some 25, none, .d (.call (.f f_toIntS) [(.t 24)])⟩,
    ⟨some 9, none, .d (.mv (.t 25))⟩])
  (.seq (.reg [⟨some 27, none, .d (.mv (.t 0))⟩,
    ⟨some 28, none, .d (.mv (.t 9))⟩,
    ⟨some 29, none, .d (.load true 2 (.t 5))⟩,
    ⟨some 30, none, .d (.call (.f f_toDoubt) [(.t 29)])⟩,
    ⟨some 31, none, .d (.call (.f f_ChanceSafe) [(.t 27), (.t 28), (.t 30)])⟩,
    ⟨some 26, none, .d (.mv (.t 31))⟩,
    ⟨some 32, none, .d (.extract (.t 26) 0)⟩,
    ⟨some 33, none, .d (.extract (.t 26) 1)⟩,
    ⟨some 10, none, .w (.alloc [.int .i64 0, .int .i64 0])⟩,
    ⟨none, none, .w (.store 2 (.t 10) (.t 32))⟩,
    ⟨some 11, none, .d (.mv (.t 33))⟩])
  (.seq (.seq (.reg [⟨some 34, none, .d (.load true 2 (.t 10))⟩,
    ⟨some 35, none, .d (.load true 2 (.t 7))⟩,
    ⟨some 36, none, .d (.call (.f f_eqIntA2) [(.t 34), (.t 35)])⟩,
    ⟨some 37, none, .d (.not (.t 36))⟩,
    ⟨some 38, none, .d (.mv (.t 37))⟩,
    ⟨some 39, some (38, false), .d (.mv (.t 11))⟩,
    ⟨some 40, some (38, false), .d (.mv (.t 8))⟩,
    ⟨some 41, some (38, false), .d (.bin .bool .neq (.t 39) (.t 40))⟩,
    ⟨some 42, none, .d (.pick (.t 38) (.c (.bool true)) (.t 41))⟩])
  (.cond (.t 42) (.seq (.reg [⟨some 6, none, .d (.mv (.c (.bool false)))⟩])
   (.ret)) (.skip)))
  (.seq (.seq (.reg [⟨some 43, none, .d (.mv (.t 9))⟩,
    ⟨some 44, none, .d (.mv (.t 1))⟩,
    ⟨some 45, none, .d (.call (.f f_toIntS) [(.t 44)])⟩,
    ⟨some 46, none, .d (.call (.f f_eqIntS) [(.t 43), (.t 45)])⟩,
    ⟨some 47, none, .d (.not (.t 46))⟩])
  (.cond (.t 47) (.seq (.reg [⟨some 6, none, .d (.mv (.c (.bool false)))⟩])
   (.ret)) (.skip)))
  (.seq (.reg [⟨some 6, none, .d (.mv (.c (.bool true)))⟩])
  (.ret)))))))), [.tmp 6]⟩
def n_x_ChanceSafe : Nat → Option Ann := fun _ => none
abbrev k_x_ChanceSafe : List Nat := [0, 1, 2, 5, 6, 7, 8, 9, 10, 11, 14, 42, 47]
abbrev o_x_ChanceSafe : List Nat := [5, 7, 10]
def c_x_ChanceSafe : Con := pure' fun
  | [.p (.int .i64 n), .p v, .p (.agg [.int .i64 s, .int .i64 o])] => match slI v with
    | some l => if l.length ≤ 9223372036854775807 then some (.p (.bool true), []) else none
    | none => none
  | _ => none
set_option maxRecDepth 100000 in
theorem s_x_ChanceSafe {P : Program} (hm : P.follows .mixedOrders = true) {Γ : Gam} (hΓ : GS P Γ) {n : FuncId} {f_toIntS : FuncId} {f_toDoubt : FuncId} {f_s_ChanceSafe : FuncId} {f_ChanceSafe : FuncId} {f_eqIntA2 : FuncId} {f_eqIntS : FuncId} (is : Is P n (a_x_ChanceSafe f_toIntS f_toDoubt f_s_ChanceSafe f_ChanceSafe f_eqIntA2 f_eqIntS)) (h_toIntS : Γ f_toIntS = c_toIntS) (h_toDoubt : Γ f_toDoubt = c_toDoubt) (h_s_ChanceSafe : Γ f_s_ChanceSafe = c_ChanceSafe) (h_ChanceSafe : Γ f_ChanceSafe = c_ChanceSafe) (h_eqIntA2 : Γ f_eqIntA2 = c_eqIntA2) (h_eqIntS : Γ f_eqIntS = c_eqIntS)  : Says P n c_x_ChanceSafe := by
  refine Says.pure fun args r fs h => ?_
  split at h
  case h_2 => cases h
  rename_i n v s o
  split at h
  case h_2 => cases h
  rename_i l hl
  split at h
  case isFalse => cases h
  rename_i hc
  simp only [Option.some.injEq, Prod.mk.injEq] at h
  obtain ⟨rfl, rfl⟩ := h
  have hlu := slI_len hl
  by_cases hku : (l.length : Int) > 1048576
  · refine is.go hm hΓ k_x_ChanceSafe o_x_ChanceSafe (by simp [a_x_ChanceSafe]) ?_
    simp only [a_x_ChanceSafe, h_toIntS, c_toIntS, h_toDoubt, c_toDoubt, h_s_ChanceSafe, c_ChanceSafe, h_ChanceSafe, c_ChanceSafe, h_eqIntA2, c_eqIntA2, h_eqIntS, c_eqIntS, hlu, hc, hku, Int.reduceLE, Int.reduceNeg, Int.reduceLT, List.zipIdx_cons, List.zipIdx_nil, ↓SP, SQ, Gam.add, stepM, callC, argC, lendO, nmBy, nmC, likeL, likeB, plainOb, offs, X, F, trP, trO, stepD, stepW, newA, SV.tr, SV.trL, fz, allP, Ob.tr, loadA, cellsA, SV.cells, binA, binI, eqOut, isSl, isPt, natOf, callee, snap, SV.refsL, SV.refs, thaw, fzAll, loA, hiA, elemOf, partsA, buildA, putCells, ↓reduceIte, reduceCtorEq, okCell, Nat.reduceAdd, Nat.reduceEqDiff, Nat.reduceSub, Nat.reduceMul, Nat.reduceLeDiff, Nat.reduceLT, Nat.reduceBEq, PV.scal, PV.scalL, SV.scal, SV.scalL, Ob.scal, PV.isCell, pure', resO]
    exact finA_val (by simp [retA, rvA, List.mapM_cons, List.mapM_nil, Option.pure_def, Option.bind_eq_bind, Option.bind_some, Option.map_some, mkE_cons, mk_nil, mkO_cons, mkO_nil, loadA, ↓reduceIte, List.take_succ_cons, List.take_zero, List.drop_zero, List.drop_succ_cons, List.length_cons, List.length_nil, Nat.reduceAdd, Nat.reduceEqDiff, Nat.reduceLeDiff, Nat.zero_add, Nat.le_refl, reduceCtorEq, SV.tr, SV.trL, nmF, rn_nil, rn_cons1, rn_cons2, List.map_cons, List.map_nil, List.all_cons, List.all_nil, plainOb, SV.refsL, SV.refs, Ob.refs, X, F, List.range_succ, List.range_zero, List.nil_append, List.cons_append, List.isEmpty_nil, decide_true, Nat.reduceLT, Bool.and_self, Bool.and_true, and_self, and_true, List.getElem?_cons_zero, List.getElem?_cons_succ, List.nodup_cons, List.nodup_nil, List.mem_cons, List.not_mem_nil, not_false_eq_true, or_false, List.append_nil, mkO, setO_mk, List.mem_singleton]) (by simp [SV.tr, SV.trL])
  · have hlen : l.length ≤ 1048576 := by omega
    have hlen2 : l.length ≤ 1100000 := by omega
    generalize hg1 : (saP n l s o).1 = b1 at *
    generalize hg3 : (saP n l s o).2 = b3 at *
    generalize hg2 : okS n l s o = b2 at *
    refine is.go hm hΓ k_x_ChanceSafe o_x_ChanceSafe (by simp [a_x_ChanceSafe]) ?_
    simp only [a_x_ChanceSafe, h_toIntS, c_toIntS, h_toDoubt, c_toDoubt, h_s_ChanceSafe, c_ChanceSafe, h_ChanceSafe, c_ChanceSafe, h_eqIntA2, c_eqIntA2, h_eqIntS, c_eqIntS, hl, hlu, hc, hku, hlen, hlen2, hg1, hg2, hg3, slI_sl, beq_self_eq_true, decide_true, Bool.and_self, Bool.not_true, Int.reduceLE, Int.reduceNeg, Int.reduceLT, bne_self_eq_false, List.zipIdx_cons, List.zipIdx_nil, ↓SP, SQ, Gam.add, stepM, callC, argC, lendO, nmBy, nmC, likeL, likeB, plainOb, offs, X, F, trP, trO, stepD, stepW, newA, SV.tr, SV.trL, fz, allP, Ob.tr, loadA, cellsA, SV.cells, binA, binI, eqOut, isSl, isPt, natOf, callee, snap, SV.refsL, SV.refs, thaw, fzAll, loA, hiA, elemOf, partsA, buildA, putCells, ↓reduceIte, reduceCtorEq, okCell, Nat.reduceAdd, Nat.reduceEqDiff, Nat.reduceSub, Nat.reduceMul, Nat.reduceLeDiff, Nat.reduceLT, Nat.reduceBEq, PV.scal, PV.scalL, SV.scal, SV.scalL, Ob.scal, PV.isCell, pure', resO]
    exact finA_val (by simp [retA, rvA, List.mapM_cons, List.mapM_nil, Option.pure_def, Option.bind_eq_bind, Option.bind_some, Option.map_some, mkE_cons, mk_nil, mkO_cons, mkO_nil, loadA, ↓reduceIte, List.take_succ_cons, List.take_zero, List.drop_zero, List.drop_succ_cons, List.length_cons, List.length_nil, Nat.reduceAdd, Nat.reduceEqDiff, Nat.reduceLeDiff, Nat.zero_add, Nat.le_refl, reduceCtorEq, SV.tr, SV.trL, nmF, rn_nil, rn_cons1, rn_cons2, List.map_cons, List.map_nil, List.all_cons, List.all_nil, plainOb, SV.refsL, SV.refs, Ob.refs, X, F, List.range_succ, List.range_zero, List.nil_append, List.cons_append, List.isEmpty_nil, decide_true, Nat.reduceLT, Bool.and_self, Bool.and_true, and_self, and_true, List.getElem?_cons_zero, List.getElem?_cons_succ, List.nodup_cons, List.nodup_nil, List.mem_cons, List.not_mem_nil, not_false_eq_true, or_false, List.append_nil, mkO, setO_mk, List.mem_singleton]) (by simp [SV.tr, SV.trL])
end Go.Proofs.Ytmbljmolegalhaa.Pam
