/- A part of the proof that stands in this folder: a small machine whose steps are shown to be the steps of the model, or walks of functions by it. No condition of its own. -/
import Derived.Test.YtmncbkkpchmjhaaGdMJ
set_option linter.unusedVariables false
set_option linter.unusedSimpArgs false
namespace Go.Proofs.Ytmncbkkpchmjhaa.Pam
open Go
def keyN (c : List Int) : Nat := (keyL c).toNat
theorem keyN_bd {c : List Int} {p : Nat} (hl : c.length = p) (h8 : in8 c = true) : 0 ≤ keyL c ∧ keyN c < 9 ^ p := by
  have h := keyI_bd h8 c.length
  subst hl
  refine ⟨h.1, ?_⟩
  have h2 : keyL c < ((9 ^ c.length : Nat) : Int) := h.2
  have h1 : 0 ≤ keyL c := h.1
  simp only [keyN]; omega
/-- Counts whose splits lead to counts. -/
def isOKw (c : List Int) : Bool := decide (1 ≤ c.length) && decide (c.length ≤ 3) && in8 c && (splL c).all fun s => in8 (yesL c s) && in8 (noL c s)
theorem isOKw_out {c : List Int} (h : isOKw c = true) : 1 ≤ c.length ∧ c.length ≤ 3 ∧ in8 c = true ∧ ∀ s ∈ splL c, in8 (yesL c s) = true ∧ in8 (noL c s) = true := by
  simp only [isOKw, Bool.and_eq_true, decide_eq_true_eq, List.all_eq_true] at h
  exact ⟨h.1.1.1, h.1.1.2, h.1.2, h.2⟩
def wiQ (tab c s : List Int) : Bool := decide (0 ≤ tab.getD (keyN (yesL c s)) 0) && decide (0 ≤ tab.getD (keyN (noL c s)) 0)
def a_l4Within (f_l4Splits : FuncId) (f_l4Yes : FuncId) (f_l4Key : FuncId) (f_l4No : FuncId) : AFn := ⟨2, 
  .seq (.reg [⟨some 4, none, .d (.mv (.c (.bool false)))⟩])
  (.seq (.reg [⟨some 7, none, .d (.mv (.t 0))⟩,
    ⟨some 8, none, .d (.call (.f f_l4Splits) [(.t 7)])⟩,
    ⟨some 5, none, .d (.mv (.t 8))⟩])
  (.seq (.seq (.reg [⟨some 6, none, .d (.mv (.c (.int .i64 0)))⟩])
  (.block 0 (.loop (.seq (.seq (.reg [⟨some 9, none, .d (.mv (.t 6))⟩,
      ⟨some 10, none, .d (.mv (.t 5))⟩,
      ⟨some 11, none, .d (.len (.t 10))⟩,
      ⟨some 12, none, .d (.bin .arith .lss (.t 9) (.t 11))⟩])
    (.cond (.t 12) (.skip) (.exit 0)))
    (.seq (.block 1 (.seq (.reg [⟨some 15, none, .d (.mv (.t 1))⟩,
       ⟨some 16, none, .d (.mv (.t 0))⟩,
       ⟨some 17, none, .d (.mv (.t 5))⟩,
       ⟨some 18, none, .d (.mv (.t 6))⟩,
       ⟨some 19, none, .d (.ia 1 (.t 17) (.t 18))⟩,
       ⟨some 20, none, .d (.load false 1 (.t 19))⟩,
       ⟨some 21, none, .d (.call (.f f_l4Yes) [(.t 16), (.t 20)])⟩,
       ⟨some 22, none, .d (.call (.f f_l4Key) [(.t 21)])⟩,
       ⟨some 23, none, .d (.ia 1 (.t 15) (.t 22))⟩,
       ⟨some 24, none, .d (.load false 1 (.t 23))⟩,
       ⟨some 25, none, .d (.bin .arith .geq (.t 24) (.c (.int .i64 0)))⟩,
       ⟨some 26, none, .d (.mv (.t 25))⟩,
       ⟨some 27, some (26, true), .d (.mv (.t 1))⟩,
       ⟨some 28, some (26, true), .d (.mv (.t 0))⟩,
       ⟨some 29, some (26, true), .d (.mv (.t 5))⟩,
       ⟨some 30, some (26, true), .d (.mv (.t 6))⟩,
       ⟨some 31, some (26, true), .d (.ia 1 (.t 29) (.t 30))⟩,
       ⟨some 32, some (26, true), .d (.load false 1 (.t 31))⟩,
       ⟨some 33, some (26, true), .d (.call (.f f_l4No) [(.t 28), (.t 32)])⟩,
       ⟨some 34, some (26, true), .d (.call (.f f_l4Key) [(.t 33)])⟩,
       ⟨some 35, some (26, true), .d (.ia 1 (.t 27) (.t 34))⟩,
       ⟨some 36, some (26, true), .d (.load false 1 (.t 35))⟩,
       ⟨some 37, some (26, true), .d (.bin .arith .geq (.t 36) (.c (.int .i64 0)))⟩,
       ⟨some 38, none, .d (.pick (.t 26) (.t 37) (.c (.bool false)))⟩])
     (.cond (.t 38) (.seq (.reg [⟨some 4, none, .d (.mv (.c (.bool true)))⟩])
      (.ret)) (.skip))))
    (.reg [⟨some 13, none, .d (.mv (.t 6))⟩,
      ⟨some 14, none, .d (.bin .arith .add (.t 13) (.c (.int .i64 1)))⟩,
      ⟨some 6, none, .d (.mv (.t 14))⟩]))))))
  (.seq (.reg [⟨some 4, none, .d (.mv (.c (.bool false)))⟩])
  (.ret)))), [.tmp 4]⟩
def n_l4Within : Nat → Option Ann := fun _ => none
abbrev k_l4Within : List Nat := [0, 1, 4, 5, 6, 12, 38]
abbrev o_l4Within : List Nat := []
def c_l4Within : Con := pure' fun
  | [.p (.sl 1 c_), .p (.sl 1 tab_)] => if isI c_ = true ∧ isI tab_ = true ∧ (isOKw (ofI c_) = true ∧ (ofI tab_).length = 9 ^ (ofI c_).length) then some (.p (.bool ((splL (ofI c_)).any (wiQ (ofI tab_) (ofI c_)))), []) else none
  | _ => none
theorem s_l4Within {P : Program} (hm : P.follows .mixedOrders = true) {Γ : Gam} (hΓ : GS P Γ) {n : FuncId} {f_l4Splits : FuncId} {f_l4Yes : FuncId} {f_l4Key : FuncId} {f_l4No : FuncId} (is : Is P n (a_l4Within f_l4Splits f_l4Yes f_l4Key f_l4No)) (h_l4Splits : Γ f_l4Splits = c_splits) (h_l4Yes : Γ f_l4Yes = c_l4Yes) (h_l4Key : Γ f_l4Key = c_l4Key) (h_l4No : Γ f_l4No = c_l4No)  : Says P n c_l4Within := by
  refine Says.pure fun args r fs h => ?_
  split at h
  case h_2 => cases h
  rename_i c_ tab_
  split at h
  case isFalse => cases h
  rename_i hc
  obtain ⟨hc_, hc⟩ := hc
  obtain ⟨c, rfl⟩ := isI_out hc_
  obtain ⟨htab_, hc⟩ := hc
  obtain ⟨tab, rfl⟩ := isI_out htab_
  simp only [ofI_ints, ofBo_bools, ofAs_asks, Option.some.injEq, Prod.mk.injEq] at h hc
  obtain ⟨rfl, rfl⟩ := h
  obtain ⟨hok, htl⟩ := hc
  obtain ⟨h1l, hl3, h8, hin⟩ := isOKw_out hok
  have hp := pow9 hl3
  have hb3 : bd 1000 c = true := bd_in8 h8 (by omega)
  have hb4 : bd 10000 c = true := bd_in8 h8 (by omega)
  have hcl : c.length ≤ 1100000 := by omega
  have hsl := spI_len3 h8 hl3
  have hsl2 : (splL c).length ≤ 729 := hsl
  refine is.go hm hΓ k_l4Within o_l4Within (by simp [a_l4Within]) ?_
  simp only [a_l4Within, h_l4Splits, c_splits, h_l4Yes, c_l4Yes, h_l4Key, c_l4Key, h_l4No, c_l4No, hl3, h8, List.zipIdx_cons, List.zipIdx_nil, ↓SP, SQ, Gam.add, stepM, callC, argC, lendO, nmBy, nmC, likeL, likeB, plainOb, offs, X, F, trP, trO, stepD, stepW, newA, SV.tr, SV.trL, fz, allP, Ob.tr, loadA, cellsA, SV.cells, binA, binI, eqOut, isSl, isPt, natOf, callee, snap, SV.refsL, SV.refs, thaw, fzAll, loA, hiA, elemOf, partsA, buildA, putCells, ↓reduceIte, reduceCtorEq, okCell, Nat.reduceAdd, Nat.reduceEqDiff, Nat.reduceSub, Nat.reduceMul, Nat.reduceLeDiff, Nat.reduceLT, Nat.reduceBEq, PV.scal, PV.scalL, SV.scal, SV.scalL, Ob.scal, PV.isCell, pure', resO]
  refine loop_at (fun s : J => mkEnv [(0, .p (.sl 1 (ints c))), (1, .p (.sl 1 (ints tab))), (4, sb false), (5, .p (.sl 1 (sls (splL c)))), (6, si s.i), (12, s.a), (38, s.b)]) (fun s => mkO []) (fun s => s.i ≤ (splL c).length ∧ ∀ j, j < s.i → wiQ tab c ((splL c).getD j []) = false) (fun s => (splL c).length - s.i) ⟨0, .junk, .junk, .junk, .junk, .junk, .junk, .junk, .junk, .junk, .junk, .junk, .junk, none, none, none⟩ (by simp) rfl rfl ?_
  rintro ⟨i, c1, c2, c3, c4, c5, c6, c7, c8, c9, c10, c11, c12, o1, o2, o3⟩ ⟨hi, hq⟩ R hR hN
  simp only at hi hq
  by_cases h : i < (splL c).length
  · have h1 : (i : Int) < (splL c).length := by omega
    have hw := wrap_one (i := i) (by omega)
    have hg := sls_get h
    obtain ⟨s, hs⟩ : ∃ s, (splL c).getD i [] = s := ⟨_, rfl⟩
    have hsm : s ∈ splL c := by rw [← hs, getD_lt h]; exact List.getElem_mem h
    rw [hs] at hg
    have hslen := spl_len hsm
    have hs8 := spl_in8 h8 hsm
    have hbs3 : bd 1000 s = true := bd_in8 hs8 (by omega)
    have hbs4 : bd 10000 s = true := bd_in8 hs8 (by omega)
    obtain ⟨hy8, hn8⟩ := hin s hsm
    have hyl : (yesL c s).length = c.length := by rw [yesL_len, hslen]
    have hnl : (noL c s).length = c.length := by rw [noL_len, hslen]
    have hyl3 : (yesL c s).length ≤ 3 := by omega
    have hnl3 : (noL c s).length ≤ 3 := by omega
    obtain ⟨y0, y1⟩ := keyN_bd (p := c.length) hyl hy8
    obtain ⟨n0, n1⟩ := keyN_bd (p := c.length) hnl hn8
    have hgy := ints_get (l := tab) (i := keyN (yesL c s)) (by omega)
    have hgn := ints_get (l := tab) (i := keyN (noL c s)) (by omega)
    have ey : (keyL (yesL c s)).toNat = keyN (yesL c s) := rfl
    have en : (keyL (noL c s)).toNat = keyN (noL c s) := rfl
    by_cases a1 : tab.getD (keyN (yesL c s)) 0 ≥ 0
    · by_cases a2 : tab.getD (keyN (noL c s)) 0 ≥ 0
      · have hwq : wiQ tab c s = true := by simp only [wiQ, dec_t (show 0 ≤ tab.getD (keyN (yesL c s)) 0 from a1), dec_t (show 0 ≤ tab.getD (keyN (noL c s)) 0 from a2), Bool.and_self]
        have hres : ((splL c).any (wiQ tab c)) = true := List.any_eq_true.2 ⟨s, hsm, hwq⟩
        simp only [h1, hw, hg, hcl, h1l, hslen, hb3, hb4, hbs3, hbs4, hy8, hn8, hyl3, hnl3, y0, n0, ey, en, hgy, hgn, a1, a2, sls_len, h_l4Yes, c_l4Yes, h_l4No, c_l4No, h_l4Key, c_l4Key, ints_len, isI_ints, ofI_ints, ↓SP, SQ, Gam.add, stepM, callC, argC, lendO, nmBy, nmC, likeL, likeB, plainOb, offs, X, F, trP, trO, stepD, stepW, newA, SV.tr, SV.trL, fz, allP, Ob.tr, loadA, cellsA, SV.cells, binA, binI, eqOut, isSl, isPt, natOf, callee, snap, SV.refsL, SV.refs, thaw, fzAll, loA, hiA, elemOf, partsA, buildA, putCells, ↓reduceIte, reduceCtorEq, okCell, Nat.reduceAdd, Nat.reduceEqDiff, Nat.reduceSub, Nat.reduceMul, Nat.reduceLeDiff, Nat.reduceLT, Nat.reduceBEq, PV.scal, PV.scalL, SV.scal, SV.scalL, Ob.scal, PV.isCell, pure', resO]
        refine hR _ _ _ (by intro h; cases h) ?_
        simp only [hres, ↓SP, SQ, Gam.add, stepM, callC, argC, lendO, nmBy, nmC, likeL, likeB, plainOb, offs, X, F, trP, trO, stepD, stepW, newA, SV.tr, SV.trL, fz, allP, Ob.tr, loadA, cellsA, SV.cells, binA, binI, eqOut, isSl, isPt, natOf, callee, snap, SV.refsL, SV.refs, thaw, fzAll, loA, hiA, elemOf, partsA, buildA, putCells, ↓reduceIte, reduceCtorEq, okCell, Nat.reduceAdd, Nat.reduceEqDiff, Nat.reduceSub, Nat.reduceMul, Nat.reduceLeDiff, Nat.reduceLT, Nat.reduceBEq, PV.scal, PV.scalL, SV.scal, SV.scalL, Ob.scal, PV.isCell, pure', resO]
        exact finA_val (by simp [retA, rvA, List.mapM_cons, List.mapM_nil, Option.pure_def, Option.bind_eq_bind, Option.bind_some, Option.map_some, mkE_cons, mk_nil, mkO_cons, mkO_nil, loadA, ↓reduceIte, List.take_succ_cons, List.take_zero, List.drop_zero, List.drop_succ_cons, List.length_cons, List.length_nil, Nat.reduceAdd, Nat.reduceEqDiff, Nat.reduceLeDiff, Nat.zero_add, Nat.le_refl, reduceCtorEq, SV.tr, SV.trL, nmF, rn_nil, rn_cons1, rn_cons2, List.map_cons, List.map_nil, List.all_cons, List.all_nil, plainOb, SV.refsL, SV.refs, Ob.refs, X, F, List.range_succ, List.range_zero, List.nil_append, List.cons_append, List.isEmpty_nil, decide_true, Nat.reduceLT, Bool.and_self, Bool.and_true, and_self, and_true, List.getElem?_cons_zero, List.getElem?_cons_succ, List.nodup_cons, List.nodup_nil, List.mem_cons, List.not_mem_nil, not_false_eq_true, or_false, List.append_nil, mkO, setO_mk, List.mem_singleton]) (by simp [SV.tr, SV.trL])
      · have hwq : wiQ tab c s = false := by simp only [wiQ, dec_f (show ¬ 0 ≤ tab.getD (keyN (noL c s)) 0 from a2), Bool.and_false]
        simp only [h1, hw, hg, hcl, h1l, hslen, hb3, hb4, hbs3, hbs4, hy8, hn8, hyl3, hnl3, y0, n0, ey, en, hgy, hgn, a1, a2, sls_len, h_l4Yes, c_l4Yes, h_l4No, c_l4No, h_l4Key, c_l4Key, ints_len, isI_ints, ofI_ints, ↓SP, SQ, Gam.add, stepM, callC, argC, lendO, nmBy, nmC, likeL, likeB, plainOb, offs, X, F, trP, trO, stepD, stepW, newA, SV.tr, SV.trL, fz, allP, Ob.tr, loadA, cellsA, SV.cells, binA, binI, eqOut, isSl, isPt, natOf, callee, snap, SV.refsL, SV.refs, thaw, fzAll, loA, hiA, elemOf, partsA, buildA, putCells, ↓reduceIte, reduceCtorEq, okCell, Nat.reduceAdd, Nat.reduceEqDiff, Nat.reduceSub, Nat.reduceMul, Nat.reduceLeDiff, Nat.reduceLT, Nat.reduceBEq, PV.scal, PV.scalL, SV.scal, SV.scalL, Ob.scal, PV.isCell, pure', resO]
        refine hN ⟨i + 1, _, _, .junk, .junk, .junk, .junk, .junk, .junk, .junk, .junk, .junk, .junk, none, none, none⟩ _ _ ⟨by simp only; omega, fun j hj => ?_⟩ (by simp only; omega) rfl rfl
        simp only at hj
        by_cases hji : j = i
        · rw [hji, hs]; exact hwq
        · exact hq j (by omega)
    · have hwq : wiQ tab c s = false := by simp only [wiQ, dec_f (show ¬ 0 ≤ tab.getD (keyN (yesL c s)) 0 from a1), Bool.false_and]
      simp only [h1, hw, hg, hcl, h1l, hslen, hb3, hb4, hbs3, hbs4, hy8, hn8, hyl3, hnl3, y0, n0, ey, en, hgy, hgn, a1, sls_len, h_l4Yes, c_l4Yes, h_l4No, c_l4No, h_l4Key, c_l4Key, ints_len, isI_ints, ofI_ints, ↓SP, SQ, Gam.add, stepM, callC, argC, lendO, nmBy, nmC, likeL, likeB, plainOb, offs, X, F, trP, trO, stepD, stepW, newA, SV.tr, SV.trL, fz, allP, Ob.tr, loadA, cellsA, SV.cells, binA, binI, eqOut, isSl, isPt, natOf, callee, snap, SV.refsL, SV.refs, thaw, fzAll, loA, hiA, elemOf, partsA, buildA, putCells, ↓reduceIte, reduceCtorEq, okCell, Nat.reduceAdd, Nat.reduceEqDiff, Nat.reduceSub, Nat.reduceMul, Nat.reduceLeDiff, Nat.reduceLT, Nat.reduceBEq, PV.scal, PV.scalL, SV.scal, SV.scalL, Ob.scal, PV.isCell, pure', resO]
      refine hN ⟨i + 1, _, _, .junk, .junk, .junk, .junk, .junk, .junk, .junk, .junk, .junk, .junk, none, none, none⟩ _ _ ⟨by simp only; omega, fun j hj => ?_⟩ (by simp only; omega) rfl rfl
      simp only at hj
      by_cases hji : j = i
      · rw [hji, hs]; exact hwq
      · exact hq j (by omega)
  · have he : i = (splL c).length := by omega
    have h1 : ¬ (i : Int) < (splL c).length := by omega
    have hres : ((splL c).any (wiQ tab c)) = false := by
      rw [Bool.eq_false_iff]; intro e
      obtain ⟨s, hs, hb⟩ := List.any_eq_true.1 e
      obtain ⟨j, hj, ej⟩ := List.getElem_of_mem hs
      have := hq j (by omega)
      rw [getD_lt hj, ej, hb] at this; cases this
    simp only [h1, sls_len, ↓SP, SQ, Gam.add, stepM, callC, argC, lendO, nmBy, nmC, likeL, likeB, plainOb, offs, X, F, trP, trO, stepD, stepW, newA, SV.tr, SV.trL, fz, allP, Ob.tr, loadA, cellsA, SV.cells, binA, binI, eqOut, isSl, isPt, natOf, callee, snap, SV.refsL, SV.refs, thaw, fzAll, loA, hiA, elemOf, partsA, buildA, putCells, ↓reduceIte, reduceCtorEq, okCell, Nat.reduceAdd, Nat.reduceEqDiff, Nat.reduceSub, Nat.reduceMul, Nat.reduceLeDiff, Nat.reduceLT, Nat.reduceBEq, PV.scal, PV.scalL, SV.scal, SV.scalL, Ob.scal, PV.isCell, pure', resO]
    refine hR _ _ _ (by intro h; cases h) ?_
    simp only [hres, ↓SP, SQ, Gam.add, stepM, callC, argC, lendO, nmBy, nmC, likeL, likeB, plainOb, offs, X, F, trP, trO, stepD, stepW, newA, SV.tr, SV.trL, fz, allP, Ob.tr, loadA, cellsA, SV.cells, binA, binI, eqOut, isSl, isPt, natOf, callee, snap, SV.refsL, SV.refs, thaw, fzAll, loA, hiA, elemOf, partsA, buildA, putCells, ↓reduceIte, reduceCtorEq, okCell, Nat.reduceAdd, Nat.reduceEqDiff, Nat.reduceSub, Nat.reduceMul, Nat.reduceLeDiff, Nat.reduceLT, Nat.reduceBEq, PV.scal, PV.scalL, SV.scal, SV.scalL, Ob.scal, PV.isCell, pure', resO]
    exact finA_val (by simp [retA, rvA, List.mapM_cons, List.mapM_nil, Option.pure_def, Option.bind_eq_bind, Option.bind_some, Option.map_some, mkE_cons, mk_nil, mkO_cons, mkO_nil, loadA, ↓reduceIte, List.take_succ_cons, List.take_zero, List.drop_zero, List.drop_succ_cons, List.length_cons, List.length_nil, Nat.reduceAdd, Nat.reduceEqDiff, Nat.reduceLeDiff, Nat.zero_add, Nat.le_refl, reduceCtorEq, SV.tr, SV.trL, nmF, rn_nil, rn_cons1, rn_cons2, List.map_cons, List.map_nil, List.all_cons, List.all_nil, plainOb, SV.refsL, SV.refs, Ob.refs, X, F, List.range_succ, List.range_zero, List.nil_append, List.cons_append, List.isEmpty_nil, decide_true, Nat.reduceLT, Bool.and_self, Bool.and_true, and_self, and_true, List.getElem?_cons_zero, List.getElem?_cons_succ, List.nodup_cons, List.nodup_nil, List.mem_cons, List.not_mem_nil, not_false_eq_true, or_false, List.append_nil, mkO, setO_mk, List.mem_singleton]) (by simp [SV.tr, SV.trL])
end Go.Proofs.Ytmncbkkpchmjhaa.Pam
