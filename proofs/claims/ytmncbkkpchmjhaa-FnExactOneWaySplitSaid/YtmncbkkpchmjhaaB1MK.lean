/- A part of the proof that stands in this folder: a small machine whose steps are shown to be the steps of the model, or walks of functions by it. No condition of its own. -/
import Derived.Test.YtmncbkkpchmjhaaB1MI
set_option linter.unusedVariables false
set_option linter.unusedSimpArgs false
namespace Go.Proofs.Ytmncbkkpchmjhaa.Pam
open Go
theorem s_needs {P : Program} (hm : P.follows .mixedOrders = true) {Γ : Gam} (hΓ : GS P Γ) {n : FuncId} {f_splits : FuncId} {f_needs1 : FuncId} {f_ContainsFuncS : FuncId} {f_needs2 : FuncId} {f_DelT : FuncId} (is : Is P n (a_needs f_splits f_needs1 f_ContainsFuncS f_needs2 f_DelT)) (h_splits : Γ f_splits = c_splits) {Γ0 Γ1 Γ2 Γ3 : Gam} (h_ContainsFuncS : Γ f_ContainsFuncS = c_ContainsFuncS Γ0) (h_needs1 : Γ0 f_needs1 = c_needs1 Γ1) (h_DelT : Γ f_DelT = c_DelT Γ2 Γ3) (h_needs2a : Γ2 f_needs2 = c_needs2) (h_needs2b : Γ3 f_needs2 = c_needs2) : Says P n (c_needs Γ1) := by
  refine Says.pure fun args r fs h => ?_
  split at h
  case h_2 => cases h
  rename_i g
  split at h
  · rename_i hg
    simp only [Option.some.injEq, Prod.mk.injEq] at h
    obtain ⟨rfl, rfl⟩ := h
    exact needs_walk hm hΓ is h_splits h_ContainsFuncS h_needs1 h_DelT h_needs2a h_needs2b ntB (by omega) (both := true) (by simpa [isRule] using hg)
  · split at h
    · rename_i hg
      simp only [Option.some.injEq, Prod.mk.injEq] at h
      obtain ⟨rfl, rfl⟩ := h
      exact needs_walk hm hΓ is h_splits h_ContainsFuncS h_needs1 h_DelT h_needs2a h_needs2b ntO (by omega) (both := false) (by simpa [isRule] using hg)
    · cases h
/-- The map of needs by a rule. -/
def nES (both : Bool) : List (PV × PV) := if both = true then ents (eL (ntT tabB) 9) else ents (eL (ntT tabO) 6)
theorem needs_both {Γ1 : Gam} {g : FuncId} (h : Γ1 g = c_bothWays) : c_needs Γ1 [.p (.fn g [] [])] [] = some (.mp 2000000, [], [.map (nES true)]) := by simp [c_needs, pure', h, nES]
theorem needs_one {Γ1 : Gam} {g : FuncId} (h : Γ1 g = c_oneWay) : c_needs Γ1 [.p (.fn g [] [])] [] = some (.mp 2000000, [], [.map (nES false)]) := by simp [c_needs, pure', h, nES, rules_apart]
def a_neederOf (f_needs : FuncId) : AFn := ⟨1, 
  .seq (.reg [⟨some 2, none, .w (.alloc [.nilfn, .nilmap])⟩])
  (.seq (.reg [⟨some 3, none, .d (.mv (.t 0))⟩,
    ⟨some 4, none, .d (.mv (.t 0))⟩,
    ⟨some 5, none, .d (.call (.f f_needs) [(.t 4)])⟩,
    ⟨some 6, none, .d (.build [.nilfn, .nilmap] [(0, 1, (.t 3)), (1, 1, (.t 5))])⟩,
    ⟨none, none, .w (.store 2 (.t 2) (.t 6))⟩])
  (.ret)), [.cell 2 2 true]⟩
def n_neederOf : Nat → Option Ann := fun _ => none
abbrev k_neederOf : List Nat := [0, 2]
abbrev o_neederOf : List Nat := [2]
open Classical in
noncomputable def c_neederOf (Γ1 : Gam) : Con := pure' fun
  | [.p (.fn g [] [])] => if Γ1 g = c_bothWays then some (.ag [.p (.fn g [] []), .p (.mapv (nES true))], []) else if Γ1 g = c_oneWay then some (.ag [.p (.fn g [] []), .p (.mapv (nES false))], []) else none
  | _ => none
theorem s_neederOf {P : Program} (hm : P.follows .mixedOrders = true) {Γ : Gam} (hΓ : GS P Γ) {n : FuncId} {f_needs : FuncId} (is : Is P n (a_neederOf f_needs)) {Γ1 : Gam} (h_needs : Γ f_needs = c_needs Γ1) : Says P n (c_neederOf Γ1) := by
  refine Says.pure fun args r fs h => ?_
  split at h
  case h_2 => cases h
  rename_i g
  split at h
  · rename_i hg
    simp only [Option.some.injEq, Prod.mk.injEq] at h
    obtain ⟨rfl, rfl⟩ := h
    have hn := needs_both hg
    refine is.go hm hΓ k_neederOf o_neederOf (by simp [a_neederOf]) ?_
    simp only [a_neederOf, h_needs, hn, List.zipIdx_cons, List.zipIdx_nil, ↓SP, SQ, Gam.add, stepM, callC, argC, lendO, nmBy, nmC, likeL, likeB, plainOb, offs, exL, X, F, trP, trO, stepD, stepW, newA, SV.tr, SV.trL, fz, allP, Ob.tr, loadA, cellsA, SV.cells, binA, binI, eqOut, isSl, isPt, natOf, callee, snap, SV.refsL, SV.refs, thaw, fzAll, loA, hiA, elemOf, partsA, buildA, putCells, ↓reduceIte, reduceCtorEq, okCell, Nat.reduceAdd, Nat.reduceEqDiff, Nat.reduceSub, Nat.reduceMul, Nat.reduceLeDiff, Nat.reduceLT, Nat.reduceBEq, PV.scal, PV.scalL, SV.scal, SV.scalL, Ob.scal, PV.isCell, pure', resO]
    exact finA_val (by simp [retA, rvA, mkE_cons, mk_nil, mkO_cons, mkO_nil, loadA, SV.tr, SV.trL, nmF, rn_nil, rn_cons1, rn_cons2, plainOb, SV.refsL, SV.refs, Ob.refs, X, F, List.range_succ, mkO, setO_mk]) (by simp [SV.tr, SV.trL])
  · split at h
    · rename_i hg
      simp only [Option.some.injEq, Prod.mk.injEq] at h
      obtain ⟨rfl, rfl⟩ := h
      have hn := needs_one hg
      refine is.go hm hΓ k_neederOf o_neederOf (by simp [a_neederOf]) ?_
      simp only [a_neederOf, h_needs, hn, List.zipIdx_cons, List.zipIdx_nil, ↓SP, SQ, Gam.add, stepM, callC, argC, lendO, nmBy, nmC, likeL, likeB, plainOb, offs, exL, X, F, trP, trO, stepD, stepW, newA, SV.tr, SV.trL, fz, allP, Ob.tr, loadA, cellsA, SV.cells, binA, binI, eqOut, isSl, isPt, natOf, callee, snap, SV.refsL, SV.refs, thaw, fzAll, loA, hiA, elemOf, partsA, buildA, putCells, ↓reduceIte, reduceCtorEq, okCell, Nat.reduceAdd, Nat.reduceEqDiff, Nat.reduceSub, Nat.reduceMul, Nat.reduceLeDiff, Nat.reduceLT, Nat.reduceBEq, PV.scal, PV.scalL, SV.scal, SV.scalL, Ob.scal, PV.isCell, pure', resO]
      exact finA_val (by simp [retA, rvA, mkE_cons, mk_nil, mkO_cons, mkO_nil, loadA, SV.tr, SV.trL, nmF, rn_nil, rn_cons1, rn_cons2, plainOb, SV.refsL, SV.refs, Ob.refs, X, F, List.range_succ, mkO, setO_mk]) (by simp [SV.tr, SV.trL])
    · cases h
/-- What a map tells of counts. -/
def ofE (es : List (PV × PV)) (c : List Int) : Int := match look (.agg (ints (pad3 c))) es with
  | some (some (.int _ v)) => v
  | _ => 0
theorem ofE_bd {es : List (PV × PV)} {c : List Int} (h : okE es = true) (hc : c.length ≤ 3) : -1000 ≤ ofE es c ∧ ofE es c ≤ 1000 := by
  obtain ⟨E, rfl, h3, hv⟩ := okE_out h
  simp only [ofE, look_ents (pad3_len hc) h3]
  cases hl : lk (pad3 c) E with
  | none => simp
  | some v => simpa using hv _ _ hl
def a_nOf (f_tripleOf : FuncId) : AFn := ⟨2, 
  .seq (.reg [⟨some 2, none, .w (.box 2 (.t 0))⟩,
    ⟨some 4, none, .d (.mv (.c (.int .i64 0)))⟩])
  (.seq (.dreg [] [([], ⟨some 5, none, .d (.fa 1 (.t 2))⟩),
    ([], ⟨some 6, none, .d (.load false 1 (.t 5))⟩),
    ([], ⟨some 7, none, .d (.mv (.t 1))⟩),
    ([], ⟨some 8, none, .d (.call (.f f_tripleOf) [(.t 7)])⟩)] [⟨some 9, none, .d (.lookup (.int .i64 0) false (some 3) (.t 6) (.t 8))⟩,
    ⟨some 4, none, .d (.mv (.t 9))⟩])
  (.ret)), [.tmp 4]⟩
def n_nOf : Nat → Option Ann := fun _ => none
abbrev k_nOf : List Nat := [0, 1, 2, 4]
abbrev o_nOf : List Nat := [2]
def c_nOf : Con := pure' fun
  | [.p (.agg [.fn g [] [], .mapv es]), .p (.sl 1 c_)] => if okE es = true ∧ isI c_ = true ∧ 1 ≤ c_.length ∧ c_.length ≤ 3 then some (.p (.int .i64 (ofE es (ofI c_))), []) else none
  | _ => none
theorem s_nOf {P : Program} (hm : P.follows .mixedOrders = true) {Γ : Gam} (hΓ : GS P Γ) {n : FuncId} {f_tripleOf : FuncId} (is : Is P n (a_nOf f_tripleOf)) (h_tripleOf : Γ f_tripleOf = c_tripleOf)  : Says P n c_nOf := by
  refine Says.pure fun args r fs h => ?_
  split at h
  case h_2 => cases h
  rename_i g es c_
  split at h
  case isFalse => cases h
  rename_i hc
  obtain ⟨hok, hc_, h1, h2⟩ := hc
  obtain ⟨c, rfl⟩ := isI_out hc_
  rw [ints_len] at h1 h2
  simp only [ofI_ints, Option.some.injEq, Prod.mk.injEq] at h
  obtain ⟨rfl, rfl⟩ := h
  obtain ⟨E, rfl, h3, hv⟩ := okE_out hok
  have hp3 := pad3_len h2
  have ht := tri hp3
  have hko := keysOk_ents h3
  have hlook := look_ents hp3 h3
  have hof : ofE (ents E) c = ((lk (pad3 c) E).getD 0) := by
    simp only [ofE, hlook]
    cases lk (pad3 c) E <;> rfl
  rw [hof]
  cases hl : lk (pad3 c) E with
  | none =>
    rw [hl] at hlook
    refine is.go hm hΓ k_nOf o_nOf (by simp [a_nOf]) ?_
    simp only [a_nOf, h_tripleOf, c_tripleOf, h1, h2, ht, hko, hlook, hp3, lookA, esOf, keyA, ints_isInt, ints_len, isI_ints, ofI_ints, Option.map_none, List.zipIdx_cons, List.zipIdx_nil, ↓SP, SQ, Gam.add, stepM, callC, argC, lendO, nmBy, nmC, likeL, likeB, plainOb, offs, exL, X, F, trP, trO, stepD, stepW, newA, SV.tr, SV.trL, fz, allP, Ob.tr, loadA, cellsA, SV.cells, binA, binI, eqOut, isSl, isPt, natOf, callee, snap, SV.refsL, SV.refs, thaw, fzAll, loA, hiA, elemOf, partsA, buildA, putCells, ↓reduceIte, reduceCtorEq, okCell, Nat.reduceAdd, Nat.reduceEqDiff, Nat.reduceSub, Nat.reduceMul, Nat.reduceLeDiff, Nat.reduceLT, Nat.reduceBEq, PV.scal, PV.scalL, SV.scal, SV.scalL, Ob.scal, PV.isCell, pure', resO]
    exact finA_val (by simp [retA, rvA, mkE_cons, mk_nil, mkO_cons, mkO_nil, loadA, SV.tr, SV.trL, nmF, rn_nil, rn_cons1, rn_cons2, plainOb, SV.refsL, SV.refs, Ob.refs, X, F, List.range_succ, mkO, setO_mk]) (by simp [SV.tr, SV.trL])
  | some v =>
    rw [hl] at hlook
    refine is.go hm hΓ k_nOf o_nOf (by simp [a_nOf]) ?_
    simp only [a_nOf, h_tripleOf, c_tripleOf, h1, h2, ht, hko, hlook, hp3, lookA, esOf, keyA, ints_isInt, ints_len, isI_ints, ofI_ints, Option.map_some, List.zipIdx_cons, List.zipIdx_nil, ↓SP, SQ, Gam.add, stepM, callC, argC, lendO, nmBy, nmC, likeL, likeB, plainOb, offs, exL, X, F, trP, trO, stepD, stepW, newA, SV.tr, SV.trL, fz, allP, Ob.tr, loadA, cellsA, SV.cells, binA, binI, eqOut, isSl, isPt, natOf, callee, snap, SV.refsL, SV.refs, thaw, fzAll, loA, hiA, elemOf, partsA, buildA, putCells, ↓reduceIte, reduceCtorEq, okCell, Nat.reduceAdd, Nat.reduceEqDiff, Nat.reduceSub, Nat.reduceMul, Nat.reduceLeDiff, Nat.reduceLT, Nat.reduceBEq, PV.scal, PV.scalL, SV.scal, SV.scalL, Ob.scal, PV.isCell, pure', resO]
    exact finA_val (by simp [retA, rvA, mkE_cons, mk_nil, mkO_cons, mkO_nil, loadA, SV.tr, SV.trL, nmF, rn_nil, rn_cons1, rn_cons2, plainOb, SV.refsL, SV.refs, Ob.refs, X, F, List.range_succ, mkO, setO_mk]) (by simp [SV.tr, SV.trL])
def a_isTold (f_sumC : FuncId) : AFn := ⟨1, 
  .seq (.reg [⟨some 2, none, .d (.mv (.c (.bool false)))⟩])
  (.seq (.reg [⟨some 3, none, .d (.mv (.t 0))⟩,
    ⟨some 4, none, .d (.call (.f f_sumC) [(.t 3)])⟩,
    ⟨some 5, none, .d (.bin .arith .leq (.t 4) (.c (.int .i64 1)))⟩,
    ⟨some 2, none, .d (.mv (.t 5))⟩])
  (.ret)), [.tmp 2]⟩
def n_isTold : Nat → Option Ann := fun _ => none
abbrev k_isTold : List Nat := [0, 2]
abbrev o_isTold : List Nat := []
def c_isTold : Con := pure' fun
  | [.p (.sl 1 c_)] => if isI c_ = true ∧ ((ofI c_).length ≤ 3 ∧ in8 (ofI c_) = true) then some (.p (.bool (told (ofI c_))), []) else none
  | _ => none
theorem s_isTold {P : Program} (hm : P.follows .mixedOrders = true) {Γ : Gam} (hΓ : GS P Γ) {n : FuncId} {f_sumC : FuncId} (is : Is P n (a_isTold f_sumC)) (h_sumC : Γ f_sumC = c_sumC)  : Says P n c_isTold := by
  refine Says.pure fun args r fs h => ?_
  split at h
  case h_2 => cases h
  rename_i c_
  split at h
  case isFalse => cases h
  rename_i hc
  obtain ⟨hc_, hc⟩ := hc
  obtain ⟨c, rfl⟩ := isI_out hc_
  simp only [ofI_ints, ofBo_bools, ofAs_asks, Option.some.injEq, Prod.mk.injEq] at h hc
  obtain ⟨rfl, rfl⟩ := h
  refine is.go hm hΓ k_isTold o_isTold (by simp [a_isTold]) ?_
  simp only [a_isTold, h_sumC, c_sumC, hc, List.zipIdx_cons, List.zipIdx_nil, ↓SP, SQ, Gam.add, stepM, callC, argC, lendO, nmBy, nmC, likeL, likeB, plainOb, offs, exL, X, F, trP, trO, stepD, stepW, newA, SV.tr, SV.trL, fz, allP, Ob.tr, loadA, cellsA, SV.cells, binA, binI, eqOut, isSl, isPt, natOf, callee, snap, SV.refsL, SV.refs, thaw, fzAll, loA, hiA, elemOf, partsA, buildA, putCells, ↓reduceIte, reduceCtorEq, okCell, Nat.reduceAdd, Nat.reduceEqDiff, Nat.reduceSub, Nat.reduceMul, Nat.reduceLeDiff, Nat.reduceLT, Nat.reduceBEq, PV.scal, PV.scalL, SV.scal, SV.scalL, Ob.scal, PV.isCell, pure', resO]
  exact finA_val (by simp [told, retA, rvA, mkE_cons, mk_nil, mkO_cons, mkO_nil, loadA, SV.tr, SV.trL, nmF, rn_nil, rn_cons1, rn_cons2, plainOb, SV.refsL, SV.refs, Ob.refs, X, F, List.range_succ, mkO, setO_mk]) (by simp [SV.tr, SV.trL])
def a_isUntold (f_AreCounts : FuncId) (f_isTold : FuncId) : AFn := ⟨1, 
  .seq (.reg [⟨some 2, none, .d (.mv (.c (.bool false)))⟩])
  (.seq (.reg [⟨some 3, none, .d (.mv (.t 0))⟩,
    ⟨some 4, none, .d (.call (.f f_AreCounts) [(.t 3)])⟩,
    ⟨some 5, none, .d (.mv (.t 4))⟩,
    ⟨some 6, some (5, true), .d (.mv (.t 0))⟩,
    ⟨some 7, some (5, true), .d (.call (.f f_isTold) [(.t 6)])⟩,
    ⟨some 8, some (5, true), .d (.not (.t 7))⟩,
    ⟨some 9, none, .d (.pick (.t 5) (.t 8) (.c (.bool false)))⟩,
    ⟨some 2, none, .d (.mv (.t 9))⟩])
  (.ret)), [.tmp 2]⟩
def n_isUntold : Nat → Option Ann := fun _ => none
abbrev k_isUntold : List Nat := [0, 2]
abbrev o_isUntold : List Nat := []
def c_isUntold : Con := pure' fun
  | [.p (.sl 1 c_)] => if isI c_ = true ∧ ((ofI c_).length ≤ 1100000) then some (.p (.bool (okC (ofI c_) && !told (ofI c_))), []) else none
  | _ => none
theorem s_isUntold {P : Program} (hm : P.follows .mixedOrders = true) {Γ : Gam} (hΓ : GS P Γ) {n : FuncId} {f_AreCounts : FuncId} {f_isTold : FuncId} (is : Is P n (a_isUntold f_AreCounts f_isTold)) (h_AreCounts : Γ f_AreCounts = c_AreCounts) (h_isTold : Γ f_isTold = c_isTold)  : Says P n c_isUntold := by
  refine Says.pure fun args r fs h => ?_
  split at h
  case h_2 => cases h
  rename_i c_
  split at h
  case isFalse => cases h
  rename_i hc
  obtain ⟨hc_, hc⟩ := hc
  obtain ⟨c, rfl⟩ := isI_out hc_
  simp only [ofI_ints, ofBo_bools, ofAs_asks, Option.some.injEq, Prod.mk.injEq] at h hc
  obtain ⟨rfl, rfl⟩ := h
  cases h1 : okC c with
  | false =>
    refine is.go hm hΓ k_isUntold o_isUntold (by simp [a_isUntold]) ?_
    simp only [a_isUntold, h_AreCounts, c_AreCounts, h_isTold, c_isTold, hc, h1, List.zipIdx_cons, List.zipIdx_nil, ↓SP, SQ, Gam.add, stepM, callC, argC, lendO, nmBy, nmC, likeL, likeB, plainOb, offs, exL, X, F, trP, trO, stepD, stepW, newA, SV.tr, SV.trL, fz, allP, Ob.tr, loadA, cellsA, SV.cells, binA, binI, eqOut, isSl, isPt, natOf, callee, snap, SV.refsL, SV.refs, thaw, fzAll, loA, hiA, elemOf, partsA, buildA, putCells, ↓reduceIte, reduceCtorEq, okCell, Nat.reduceAdd, Nat.reduceEqDiff, Nat.reduceSub, Nat.reduceMul, Nat.reduceLeDiff, Nat.reduceLT, Nat.reduceBEq, PV.scal, PV.scalL, SV.scal, SV.scalL, Ob.scal, PV.isCell, pure', resO]
    exact finA_val (by simp [retA, rvA, mkE_cons, mk_nil, mkO_cons, mkO_nil, loadA, SV.tr, SV.trL, nmF, rn_nil, rn_cons1, rn_cons2, plainOb, SV.refsL, SV.refs, Ob.refs, X, F, List.range_succ, mkO, setO_mk]) (by simp [SV.tr, SV.trL])
  | true =>
    obtain ⟨⟨_, h2⟩, h3, _⟩ := okC_out h1
    refine is.go hm hΓ k_isUntold o_isUntold (by simp [a_isUntold]) ?_
    simp only [a_isUntold, h_AreCounts, c_AreCounts, h_isTold, c_isTold, hc, h1, h2, h3, List.zipIdx_cons, List.zipIdx_nil, ↓SP, SQ, Gam.add, stepM, callC, argC, lendO, nmBy, nmC, likeL, likeB, plainOb, offs, exL, X, F, trP, trO, stepD, stepW, newA, SV.tr, SV.trL, fz, allP, Ob.tr, loadA, cellsA, SV.cells, binA, binI, eqOut, isSl, isPt, natOf, callee, snap, SV.refsL, SV.refs, thaw, fzAll, loA, hiA, elemOf, partsA, buildA, putCells, ↓reduceIte, reduceCtorEq, okCell, Nat.reduceAdd, Nat.reduceEqDiff, Nat.reduceSub, Nat.reduceMul, Nat.reduceLeDiff, Nat.reduceLT, Nat.reduceBEq, PV.scal, PV.scalL, SV.scal, SV.scalL, Ob.scal, PV.isCell, pure', resO]
    exact finA_val (by simp [retA, rvA, mkE_cons, mk_nil, mkO_cons, mkO_nil, loadA, SV.tr, SV.trL, nmF, rn_nil, rn_cons1, rn_cons2, plainOb, SV.refsL, SV.refs, Ob.refs, X, F, List.range_succ, mkO, setO_mk]) (by simp [SV.tr, SV.trL])
def a_l4Told : AFn := ⟨1, 
  .seq (.reg [⟨some 2, none, .d (.mv (.c (.bool false)))⟩])
  (.seq (.reg [⟨some 3, none, .d (.mv (.c (.int .i64 0)))⟩])
  (.seq (.seq (.reg [⟨some 4, none, .d (.mv (.c (.int .i64 0)))⟩])
  (.block 0 (.loop (.seq (.seq (.reg [⟨some 5, none, .d (.mv (.t 4))⟩,
      ⟨some 6, none, .d (.mv (.t 0))⟩,
      ⟨some 7, none, .d (.len (.t 6))⟩,
      ⟨some 8, none, .d (.bin .arith .lss (.t 5) (.t 7))⟩])
    (.cond (.t 8) (.skip) (.exit 0)))
    (.seq (.block 1 (.reg [⟨some 11, none, .d (.mv (.t 3))⟩,
       ⟨some 12, none, .d (.mv (.t 0))⟩,
       ⟨some 13, none, .d (.mv (.t 4))⟩,
       ⟨some 14, none, .d (.ia 1 (.t 12) (.t 13))⟩,
       ⟨some 15, none, .d (.load false 1 (.t 14))⟩,
       ⟨some 16, none, .d (.bin .arith .add (.t 11) (.t 15))⟩,
       ⟨some 3, none, .d (.mv (.t 16))⟩]))
    (.reg [⟨some 9, none, .d (.mv (.t 4))⟩,
      ⟨some 10, none, .d (.bin .arith .add (.t 9) (.c (.int .i64 1)))⟩,
      ⟨some 4, none, .d (.mv (.t 10))⟩]))))))
  (.seq (.reg [⟨some 17, none, .d (.mv (.t 3))⟩,
    ⟨some 18, none, .d (.bin .arith .leq (.t 17) (.c (.int .i64 1)))⟩,
    ⟨some 2, none, .d (.mv (.t 18))⟩])
  (.ret)))), [.tmp 2]⟩
def n_l4Told : Nat → Option Ann := fun _ => none
abbrev k_l4Told : List Nat := [0, 2, 3, 4, 8]
abbrev o_l4Told : List Nat := []
theorem s_l4Told {P : Program} (hm : P.follows .mixedOrders = true) {Γ : Gam} (hΓ : GS P Γ) {n : FuncId} (is : Is P n a_l4Told)  : Says P n c_isTold := by
  refine Says.pure fun args r fs h => ?_
  split at h
  case h_2 => cases h
  rename_i c_
  split at h
  case isFalse => cases h
  rename_i hc
  obtain ⟨hc_, hc⟩ := hc
  obtain ⟨c, rfl⟩ := isI_out hc_
  simp only [ofI_ints, ofBo_bools, ofAs_asks, Option.some.injEq, Prod.mk.injEq] at h hc
  obtain ⟨rfl, rfl⟩ := h
  obtain ⟨hl3, h8⟩ := hc
  refine is.go hm hΓ k_l4Told o_l4Told (by simp [a_l4Told]) ?_
  simp only [a_l4Told, List.zipIdx_cons, List.zipIdx_nil, ↓SP, SQ, Gam.add, stepM, callC, argC, lendO, nmBy, nmC, likeL, likeB, plainOb, offs, exL, X, F, trP, trO, stepD, stepW, newA, SV.tr, SV.trL, fz, allP, Ob.tr, loadA, cellsA, SV.cells, binA, binI, eqOut, isSl, isPt, natOf, callee, snap, SV.refsL, SV.refs, thaw, fzAll, loA, hiA, elemOf, partsA, buildA, putCells, ↓reduceIte, reduceCtorEq, okCell, Nat.reduceAdd, Nat.reduceEqDiff, Nat.reduceSub, Nat.reduceMul, Nat.reduceLeDiff, Nat.reduceLT, Nat.reduceBEq, PV.scal, PV.scalL, SV.scal, SV.scalL, Ob.scal, PV.isCell, pure', resO]
  refine loop_at (fun s : Nat × SV => mkEnv [(0, .p (.sl 1 (ints c))), (2, sb false), (3, si (c.take s.1).sum), (4, si s.1), (8, s.2)]) (fun s => mkO []) (fun s => s.1 ≤ c.length) (fun s => c.length - s.1) (0, .junk) (by simp) rfl rfl ?_
  rintro ⟨i, c1⟩ hi R hR hN
  simp only at hi
  by_cases h : i < c.length
  · have h1 : (i : Int) < c.length := by omega
    have hw := wrap_one (i := i) (by omega)
    have hg := ints_get h
    have hb := sum_bd h8 (i + 1) (by omega)
    rw [sum_step c h] at hb
    have hws : IntKind.i64.wrap ((c.take i).sum + c.getD i 0) = (c.take (i + 1)).sum := by rw [sum_step c h]; exact wrap64 (by omega) (by omega)
    simp only [h1, hw, hg, hws, ↓SP, SQ, Gam.add, stepM, callC, argC, lendO, nmBy, nmC, likeL, likeB, plainOb, offs, exL, X, F, trP, trO, stepD, stepW, newA, SV.tr, SV.trL, fz, allP, Ob.tr, loadA, cellsA, SV.cells, binA, binI, eqOut, isSl, isPt, natOf, callee, snap, SV.refsL, SV.refs, thaw, fzAll, loA, hiA, elemOf, partsA, buildA, putCells, ↓reduceIte, reduceCtorEq, okCell, Nat.reduceAdd, Nat.reduceEqDiff, Nat.reduceSub, Nat.reduceMul, Nat.reduceLeDiff, Nat.reduceLT, Nat.reduceBEq, PV.scal, PV.scalL, SV.scal, SV.scalL, Ob.scal, PV.isCell, pure', resO]
    exact hN (i + 1, _) _ _ (by simp only; omega) (by simp only; omega) rfl rfl
  · have he : i = c.length := by omega
    have h1 : ¬ (i : Int) < c.length := by omega
    simp only [h1, ↓SP, SQ, Gam.add, stepM, callC, argC, lendO, nmBy, nmC, likeL, likeB, plainOb, offs, exL, X, F, trP, trO, stepD, stepW, newA, SV.tr, SV.trL, fz, allP, Ob.tr, loadA, cellsA, SV.cells, binA, binI, eqOut, isSl, isPt, natOf, callee, snap, SV.refsL, SV.refs, thaw, fzAll, loA, hiA, elemOf, partsA, buildA, putCells, ↓reduceIte, reduceCtorEq, okCell, Nat.reduceAdd, Nat.reduceEqDiff, Nat.reduceSub, Nat.reduceMul, Nat.reduceLeDiff, Nat.reduceLT, Nat.reduceBEq, PV.scal, PV.scalL, SV.scal, SV.scalL, Ob.scal, PV.isCell, pure', resO]
    refine hR _ _ _ (by intro h; cases h) ?_
    simp only [↓SP, SQ, Gam.add, stepM, callC, argC, lendO, nmBy, nmC, likeL, likeB, plainOb, offs, exL, X, F, trP, trO, stepD, stepW, newA, SV.tr, SV.trL, fz, allP, Ob.tr, loadA, cellsA, SV.cells, binA, binI, eqOut, isSl, isPt, natOf, callee, snap, SV.refsL, SV.refs, thaw, fzAll, loA, hiA, elemOf, partsA, buildA, putCells, ↓reduceIte, reduceCtorEq, okCell, Nat.reduceAdd, Nat.reduceEqDiff, Nat.reduceSub, Nat.reduceMul, Nat.reduceLeDiff, Nat.reduceLT, Nat.reduceBEq, PV.scal, PV.scalL, SV.scal, SV.scalL, Ob.scal, PV.isCell, pure', resO]
    subst he
    exact finA_val (by simp [told, List.take_length, retA, rvA, mkE_cons, mk_nil, mkO_cons, mkO_nil, loadA, SV.tr, SV.trL, nmF, rn_nil, rn_cons1, rn_cons2, plainOb, SV.refsL, SV.refs, Ob.refs, X, F, List.range_succ, mkO, setO_mk]) (by simp [SV.tr, SV.trL])
/-- A number that tells counts. -/
def keyI (c : List Int) : Nat → Int
  | 0 => 0
  | i + 1 => keyI c i * 9 + c.getD i 0
def keyL (c : List Int) : Int := keyI c c.length
theorem keyI_bd {c : List Int} (h8 : in8 c = true) : ∀ i, 0 ≤ keyI c i ∧ keyI c i < ((9 ^ i : Nat) : Int)
  | 0 => by simp [keyI]
  | i + 1 => by
    have ⟨h1, h2⟩ := keyI_bd h8 i
    have h3 := in8_get h8 i
    simp only [keyI, Nat.pow_succ]
    omega
def a_l4Key : AFn := ⟨1, 
  .seq (.reg [⟨some 2, none, .d (.mv (.c (.int .i64 0)))⟩])
  (.seq (.reg [⟨some 3, none, .d (.mv (.c (.int .i64 0)))⟩])
  (.seq (.seq (.reg [⟨some 4, none, .d (.mv (.c (.int .i64 0)))⟩])
  (.block 0 (.loop (.seq (.seq (.reg [⟨some 5, none, .d (.mv (.t 4))⟩,
      ⟨some 6, none, .d (.mv (.t 0))⟩,
      ⟨some 7, none, .d (.len (.t 6))⟩,
      ⟨some 8, none, .d (.bin .arith .lss (.t 5) (.t 7))⟩])
    (.cond (.t 8) (.skip) (.exit 0)))
    (.seq (.block 1 (.reg [⟨some 11, none, .d (.mv (.t 3))⟩,
       ⟨some 12, none, .d (.bin .arith .mul (.t 11) (.c (.int .i64 9)))⟩,
       ⟨some 13, none, .d (.mv (.t 0))⟩,
       ⟨some 14, none, .d (.mv (.t 4))⟩,
       ⟨some 15, none, .d (.ia 1 (.t 13) (.t 14))⟩,
       ⟨some 16, none, .d (.load false 1 (.t 15))⟩,
       ⟨some 17, none, .d (.bin .arith .add (.t 12) (.t 16))⟩,
       ⟨some 3, none, .d (.mv (.t 17))⟩]))
    (.reg [⟨some 9, none, .d (.mv (.t 4))⟩,
      ⟨some 10, none, .d (.bin .arith .add (.t 9) (.c (.int .i64 1)))⟩,
      ⟨some 4, none, .d (.mv (.t 10))⟩]))))))
  (.seq (.reg [⟨some 18, none, .d (.mv (.t 3))⟩,
    ⟨some 2, none, .d (.mv (.t 18))⟩])
  (.ret)))), [.tmp 2]⟩
def n_l4Key : Nat → Option Ann := fun _ => none
abbrev k_l4Key : List Nat := [0, 2, 3, 4, 8]
abbrev o_l4Key : List Nat := []
def c_l4Key : Con := pure' fun
  | [.p (.sl 1 c_)] => if isI c_ = true ∧ ((ofI c_).length ≤ 3 ∧ in8 (ofI c_) = true) then some (.p (.int .i64 (keyL (ofI c_))), []) else none
  | _ => none
theorem pow9 {i : Nat} (h : i ≤ 3) : 9 ^ i ≤ 729 := by
  match i, h with
  | 0, _ | 1, _ | 2, _ | 3, _ => omega
theorem s_l4Key {P : Program} (hm : P.follows .mixedOrders = true) {Γ : Gam} (hΓ : GS P Γ) {n : FuncId} (is : Is P n a_l4Key)  : Says P n c_l4Key := by
  refine Says.pure fun args r fs h => ?_
  split at h
  case h_2 => cases h
  rename_i c_
  split at h
  case isFalse => cases h
  rename_i hc
  obtain ⟨hc_, hc⟩ := hc
  obtain ⟨c, rfl⟩ := isI_out hc_
  simp only [ofI_ints, ofBo_bools, ofAs_asks, Option.some.injEq, Prod.mk.injEq] at h hc
  obtain ⟨rfl, rfl⟩ := h
  obtain ⟨hl3, h8⟩ := hc
  refine is.go hm hΓ k_l4Key o_l4Key (by simp [a_l4Key]) ?_
  simp only [a_l4Key, List.zipIdx_cons, List.zipIdx_nil, ↓SP, SQ, Gam.add, stepM, callC, argC, lendO, nmBy, nmC, likeL, likeB, plainOb, offs, exL, X, F, trP, trO, stepD, stepW, newA, SV.tr, SV.trL, fz, allP, Ob.tr, loadA, cellsA, SV.cells, binA, binI, eqOut, isSl, isPt, natOf, callee, snap, SV.refsL, SV.refs, thaw, fzAll, loA, hiA, elemOf, partsA, buildA, putCells, ↓reduceIte, reduceCtorEq, okCell, Nat.reduceAdd, Nat.reduceEqDiff, Nat.reduceSub, Nat.reduceMul, Nat.reduceLeDiff, Nat.reduceLT, Nat.reduceBEq, PV.scal, PV.scalL, SV.scal, SV.scalL, Ob.scal, PV.isCell, pure', resO]
  refine loop_at (fun s : Nat × SV => mkEnv [(0, .p (.sl 1 (ints c))), (2, si 0), (3, si (keyI c s.1)), (4, si s.1), (8, s.2)]) (fun s => mkO []) (fun s => s.1 ≤ c.length) (fun s => c.length - s.1) (0, .junk) (by simp) rfl rfl ?_
  rintro ⟨i, c1⟩ hi R hR hN
  simp only at hi
  by_cases h : i < c.length
  · have h1 : (i : Int) < c.length := by omega
    have hw := wrap_one (i := i) (by omega)
    have hg := ints_get h
    have hb := keyI_bd h8 i
    have hp := pow9 (i := i) (by omega)
    have h3 := in8_get h8 i
    have hwm : IntKind.i64.wrap (keyI c i * 9) = keyI c i * 9 := wrap64 (by omega) (by omega)
    have hws : IntKind.i64.wrap (keyI c i * 9 + c.getD i 0) = keyI c (i + 1) := wrap64 (by omega) (by omega)
    simp only [h1, hw, hg, hwm, hws, ↓SP, SQ, Gam.add, stepM, callC, argC, lendO, nmBy, nmC, likeL, likeB, plainOb, offs, exL, X, F, trP, trO, stepD, stepW, newA, SV.tr, SV.trL, fz, allP, Ob.tr, loadA, cellsA, SV.cells, binA, binI, eqOut, isSl, isPt, natOf, callee, snap, SV.refsL, SV.refs, thaw, fzAll, loA, hiA, elemOf, partsA, buildA, putCells, ↓reduceIte, reduceCtorEq, okCell, Nat.reduceAdd, Nat.reduceEqDiff, Nat.reduceSub, Nat.reduceMul, Nat.reduceLeDiff, Nat.reduceLT, Nat.reduceBEq, PV.scal, PV.scalL, SV.scal, SV.scalL, Ob.scal, PV.isCell, pure', resO]
    exact hN (i + 1, _) _ _ (by simp only; omega) (by simp only; omega) rfl rfl
  · have he : i = c.length := by omega
    have h1 : ¬ (i : Int) < c.length := by omega
    simp only [h1, ↓SP, SQ, Gam.add, stepM, callC, argC, lendO, nmBy, nmC, likeL, likeB, plainOb, offs, exL, X, F, trP, trO, stepD, stepW, newA, SV.tr, SV.trL, fz, allP, Ob.tr, loadA, cellsA, SV.cells, binA, binI, eqOut, isSl, isPt, natOf, callee, snap, SV.refsL, SV.refs, thaw, fzAll, loA, hiA, elemOf, partsA, buildA, putCells, ↓reduceIte, reduceCtorEq, okCell, Nat.reduceAdd, Nat.reduceEqDiff, Nat.reduceSub, Nat.reduceMul, Nat.reduceLeDiff, Nat.reduceLT, Nat.reduceBEq, PV.scal, PV.scalL, SV.scal, SV.scalL, Ob.scal, PV.isCell, pure', resO]
    refine hR _ _ _ (by intro h; cases h) ?_
    simp only [↓SP, SQ, Gam.add, stepM, callC, argC, lendO, nmBy, nmC, likeL, likeB, plainOb, offs, exL, X, F, trP, trO, stepD, stepW, newA, SV.tr, SV.trL, fz, allP, Ob.tr, loadA, cellsA, SV.cells, binA, binI, eqOut, isSl, isPt, natOf, callee, snap, SV.refsL, SV.refs, thaw, fzAll, loA, hiA, elemOf, partsA, buildA, putCells, ↓reduceIte, reduceCtorEq, okCell, Nat.reduceAdd, Nat.reduceEqDiff, Nat.reduceSub, Nat.reduceMul, Nat.reduceLeDiff, Nat.reduceLT, Nat.reduceBEq, PV.scal, PV.scalL, SV.scal, SV.scalL, Ob.scal, PV.isCell, pure', resO]
    subst he
    exact finA_val (by simp [keyL, retA, rvA, mkE_cons, mk_nil, mkO_cons, mkO_nil, loadA, SV.tr, SV.trL, nmF, rn_nil, rn_cons1, rn_cons2, plainOb, SV.refsL, SV.refs, Ob.refs, X, F, List.range_succ, mkO, setO_mk]) (by simp [SV.tr, SV.trL])
/-- The counts of a number. -/
def dg (key : Nat) : Nat → List Int
  | 0 => []
  | j + 1 => ((key / 9 ^ j % 9 : Nat) : Int) :: dg key j
theorem dg_len (key : Nat) : ∀ j, (dg key j).length = j
  | 0 => rfl
  | j + 1 => by simp [dg, dg_len key j]
theorem dg_in8 (key : Nat) : ∀ j, in8 (dg key j) = true
  | 0 => rfl
  | j + 1 => by
    have := dg_in8 key j
    simp only [in8] at this
    simp only [dg, in8, List.all_cons, this, Bool.and_true, Bool.and_eq_true, decide_eq_true_eq]
    omega
theorem dg_set (key p i : Nat) (h : i < p) : (List.replicate (p - i) (0 : Int) ++ dg key i).set (p - 1 - i) ((key / 9 ^ i % 9 : Nat) : Int) = List.replicate (p - (i + 1)) 0 ++ dg key (i + 1) := by
  have e : p - i = (p - (i + 1)) + 1 := by omega
  have e2 : p - 1 - i = p - (i + 1) := by omega
  rw [e, e2, List.replicate_succ', List.append_assoc, List.set_append_right _ _ (by simp)]
  simp [dg]
theorem tmod9 (k : Nat) : ((k : Nat) : Int).tmod 9 = ((k % 9 : Nat) : Int) := rfl
theorem tdiv9 (k : Nat) : ((k : Nat) : Int).tdiv 9 = ((k / 9 : Nat) : Int) := rfl
def a_l4Counted : AFn := ⟨2, 
  .seq (.reg [⟨some 4, none, .d (.mv (.c (.nilsl)))⟩])
  (.seq (.reg [⟨some 7, none, .d (.mv (.t 1))⟩,
    ⟨some 8, none, .w (.mkslice 1 (.int .i64 0) (.t 7))⟩,
    ⟨some 5, none, .d (.mv (.t 8))⟩])
  (.seq (.seq (.reg [⟨some 9, none, .d (.mv (.t 1))⟩,
    ⟨some 10, none, .d (.bin .arith .sub (.t 9) (.c (.int .i64 1)))⟩,
    ⟨some 6, none, .d (.mv (.t 10))⟩])
  (.block 0 (.loop (.seq (.seq (.reg [⟨some 11, none, .d (.mv (.t 6))⟩,
      ⟨some 12, none, .d (.bin .arith .geq (.t 11) (.c (.int .i64 0)))⟩])
    (.cond (.t 12) (.skip) (.exit 0)))
    (.seq (.block 1 (.seq (.reg [⟨some 15, none, .d (.mv (.t 5))⟩,
       ⟨some 16, none, .d (.mv (.t 6))⟩,
       ⟨some 17, none, .d (.mv (.t 0))⟩,
       ⟨some 18, none, .d (.bin .arith .rem (.t 17) (.c (.int .i64 9)))⟩,
       ⟨some 19, none, .d (.ia 1 (.t 15) (.t 16))⟩,
       ⟨none, none, .w (.store 1 (.t 19) (.t 18))⟩])
     (.reg [⟨some 20, none, .d (.mv (.t 0))⟩,
       ⟨some 21, none, .d (.bin .arith .quo (.t 20) (.c (.int .i64 9)))⟩,
       ⟨some 0, none, .d (.mv (.t 21))⟩])))
    (.reg [⟨some 13, none, .d (.mv (.t 6))⟩,
      ⟨some 14, none, .d (.bin .arith .sub (.t 13) (.c (.int .i64 1)))⟩,
      ⟨some 6, none, .d (.mv (.t 14))⟩]))))))
  (.seq (.reg [⟨some 22, none, .d (.mv (.t 5))⟩,
    ⟨some 4, none, .d (.mv (.t 22))⟩])
  (.ret)))), [.tmp 4]⟩
def n_l4Counted : Nat → Option Ann := fun _ => none
abbrev k_l4Counted : List Nat := [0, 1, 4, 5, 6, 12]
abbrev o_l4Counted : List Nat := [8]
def c_l4Counted : Con := pure' fun
  | [.p (.int .i64 key), .p (.int .i64 p)] => if (0 ≤ key ∧ key ≤ 1000000 ∧ 0 ≤ p ∧ p ≤ 3) then some (.ar 2000000, [.arr 1 (ints (dg key.toNat p.toNat))]) else none
  | _ => none
theorem s_l4Counted {P : Program} (hm : P.follows .mixedOrders = true) {Γ : Gam} (hΓ : GS P Γ) {n : FuncId} (is : Is P n a_l4Counted)  : Says P n c_l4Counted := by
  refine Says.pure fun args r fs h => ?_
  split at h
  case h_2 => cases h
  rename_i key p
  split at h
  case isFalse => cases h
  rename_i hc
  simp only [ofI_ints, ofBo_bools, ofAs_asks, Option.some.injEq, Prod.mk.injEq] at h hc
  obtain ⟨rfl, rfl⟩ := h
  obtain ⟨hk0, hk1, hp0, hp3⟩ := hc
  obtain ⟨key, rfl⟩ : ∃ j : Nat, key = j := ⟨key.toNat, by omega⟩
  obtain ⟨p, rfl⟩ : ∃ j : Nat, p = j := ⟨p.toNat, by omega⟩
  simp only [Int.toNat_natCast]
  have hroom : p ≤ roomA := by unfold roomA; omega
  have hp00 : (0 : Int) ≤ (p : Int) := by omega
  have hw0 : IntKind.i64.wrap ((p : Int) - 1) = (p : Int) - 1 := wrap64 (by omega) (by omega)
  refine is.go hm hΓ k_l4Counted o_l4Counted (by simp [a_l4Counted]) ?_
  simp only [a_l4Counted, hroom, hp00, hw0, Int.toNat_natCast, ints_rep, List.zipIdx_cons, List.zipIdx_nil, ↓SP, SQ, Gam.add, stepM, callC, argC, lendO, nmBy, nmC, likeL, likeB, plainOb, offs, exL, X, F, trP, trO, stepD, stepW, newA, SV.tr, SV.trL, fz, allP, Ob.tr, loadA, cellsA, SV.cells, binA, binI, eqOut, isSl, isPt, natOf, callee, snap, SV.refsL, SV.refs, thaw, fzAll, loA, hiA, elemOf, partsA, buildA, putCells, ↓reduceIte, reduceCtorEq, okCell, Nat.reduceAdd, Nat.reduceEqDiff, Nat.reduceSub, Nat.reduceMul, Nat.reduceLeDiff, Nat.reduceLT, Nat.reduceBEq, PV.scal, PV.scalL, SV.scal, SV.scalL, Ob.scal, PV.isCell, pure', resO]
  refine loop_at (fun s : Nat × SV => mkEnv [(0, si ((key / 9 ^ s.1 : Nat) : Int)), (1, si p), (4, .p .nilsl), (5, .ar 8), (6, si ((p : Int) - 1 - s.1)), (12, s.2)]) (fun s => mkO [(8, some (.arr 1 (ints (List.replicate (p - s.1) 0 ++ dg key s.1))))]) (fun s => s.1 ≤ p) (fun s => p - s.1) (0, .junk) (by simp) (by simp) (by simp [dg]) ?_
  rintro ⟨i, c1⟩ hi R hR hN
  simp only at hi
  by_cases h : i < p
  · have h1 : (p : Int) - 1 - i ≥ 0 := by omega
    have h1' : (0 : Int) ≤ (p : Int) - 1 - i := h1
    have hn : ((p : Int) - 1 - i).toNat = p - 1 - i := by omega
    have hlen : (List.replicate (p - i) (0 : Int) ++ dg key i).length = p := by simp [dg_len]; omega
    have hlt : p - 1 - i < p := by omega
    have hle := Nat.div_le_self key (9 ^ i)
    have hwq : IntKind.i64.wrap ((key / 9 ^ i / 9 : Nat) : Int) = ((key / 9 ^ (i + 1) : Nat) : Int) := by
      have e9 : 9 ^ i * 9 = 9 ^ (i + 1) := (Nat.pow_succ 9 i).symm
      rw [Nat.div_div_eq_div_mul, e9]
      have hz := Nat.div_le_self key (9 ^ (i + 1))
      generalize key / 9 ^ (i + 1) = z at hz
      exact wrap64 (by omega) (by omega)
    have hwi : IntKind.i64.wrap ((p : Int) - 1 - i - 1) = (p : Int) - 1 - ((i + 1 : Nat) : Int) := by rw [wrap64 (by omega) (by omega)]; omega
    have hset := dg_set key p i h
    obtain ⟨e, he⟩ : ∃ e, (ints (List.replicate (p - i) (0 : Int) ++ dg key i))[p - 1 - i]? = some e := ⟨_, List.getElem?_eq_getElem (by rw [ints_len, hlen]; exact hlt)⟩
    simp only [h1, h1', hn, hlen, hlt, he, tmod9, tdiv9, hwq, hwi, ints_len, ints_set, hset, Int.reduceEq, ↓SP, SQ, Gam.add, stepM, callC, argC, lendO, nmBy, nmC, likeL, likeB, plainOb, offs, exL, X, F, trP, trO, stepD, stepW, newA, SV.tr, SV.trL, fz, allP, Ob.tr, loadA, cellsA, SV.cells, binA, binI, eqOut, isSl, isPt, natOf, callee, snap, SV.refsL, SV.refs, thaw, fzAll, loA, hiA, elemOf, partsA, buildA, putCells, ↓reduceIte, reduceCtorEq, okCell, Nat.reduceAdd, Nat.reduceEqDiff, Nat.reduceSub, Nat.reduceMul, Nat.reduceLeDiff, Nat.reduceLT, Nat.reduceBEq, PV.scal, PV.scalL, SV.scal, SV.scalL, Ob.scal, PV.isCell, pure', resO]
    exact hN (i + 1, _) _ _ (by simp only; omega) (by simp only; omega) rfl rfl
  · have he : i = p := by omega
    have h1 : ¬ (p : Int) - 1 - i ≥ 0 := by omega
    simp only [h1, ↓SP, SQ, Gam.add, stepM, callC, argC, lendO, nmBy, nmC, likeL, likeB, plainOb, offs, exL, X, F, trP, trO, stepD, stepW, newA, SV.tr, SV.trL, fz, allP, Ob.tr, loadA, cellsA, SV.cells, binA, binI, eqOut, isSl, isPt, natOf, callee, snap, SV.refsL, SV.refs, thaw, fzAll, loA, hiA, elemOf, partsA, buildA, putCells, ↓reduceIte, reduceCtorEq, okCell, Nat.reduceAdd, Nat.reduceEqDiff, Nat.reduceSub, Nat.reduceMul, Nat.reduceLeDiff, Nat.reduceLT, Nat.reduceBEq, PV.scal, PV.scalL, SV.scal, SV.scalL, Ob.scal, PV.isCell, pure', resO]
    refine hR _ _ _ (by intro h; cases h) ?_
    simp only [↓SP, SQ, Gam.add, stepM, callC, argC, lendO, nmBy, nmC, likeL, likeB, plainOb, offs, exL, X, F, trP, trO, stepD, stepW, newA, SV.tr, SV.trL, fz, allP, Ob.tr, loadA, cellsA, SV.cells, binA, binI, eqOut, isSl, isPt, natOf, callee, snap, SV.refsL, SV.refs, thaw, fzAll, loA, hiA, elemOf, partsA, buildA, putCells, ↓reduceIte, reduceCtorEq, okCell, Nat.reduceAdd, Nat.reduceEqDiff, Nat.reduceSub, Nat.reduceMul, Nat.reduceLeDiff, Nat.reduceLT, Nat.reduceBEq, PV.scal, PV.scalL, SV.scal, SV.scalL, Ob.scal, PV.isCell, pure', resO]
    subst he
    have hfe : List.replicate (i - i) (0 : Int) ++ dg key i = dg key i := by simp
    refine finA_gen [8] trivial (by simp [retA, rvA, mkE_cons, mk_nil, mkO_cons, mkO_nil, loadA, SV.tr, SV.trL, nmF, rn_nil, rn_cons1, rn_cons2, plainOb, SV.refsL, SV.refs, Ob.refs, X, F, List.range_succ, mkO, setO_mk]; rfl) ?_ ?_ ?_ ?_ ?_ ?_ ?_ <;> simp [hfe, retA, rvA, mkE_cons, mk_nil, mkO_cons, mkO_nil, loadA, SV.tr, SV.trL, nmF, rn_nil, rn_cons1, rn_cons2, plainOb, SV.refsL, SV.refs, Ob.refs, X, F, List.range_succ, mkO, setO_mk]
def keyN (c : List Int) : Nat := (keyL c).toNat
theorem keyN_bd {c : List Int} {p : Nat} (hl : c.length = p) (h8 : in8 c = true) : 0 ≤ keyL c ∧ keyN c < 9 ^ p := by
  have h := keyI_bd h8 c.length
  subst hl
  refine ⟨h.1, ?_⟩
  have h2 : keyL c < ((9 ^ c.length : Nat) : Int) := h.2
  have h1 : 0 ≤ keyL c := h.1
  simp only [keyN]; omega
/-- Counts whose splits lead to counts. -/
def isOKw (c : List Int) : Bool := decide (1 ≤ c.length) && decide (c.length ≤ 3) && in8 c && (splL c).all fun s => in8 (yesL c s) && in8 (noL c s)
theorem isOKw_out {c : List Int} (h : isOKw c = true) : 1 ≤ c.length ∧ c.length ≤ 3 ∧ in8 c = true ∧ ∀ s ∈ splL c, in8 (yesL c s) = true ∧ in8 (noL c s) = true := by
  simp only [isOKw, Bool.and_eq_true, decide_eq_true_eq, List.all_eq_true] at h
  exact ⟨h.1.1.1, h.1.1.2, h.1.2, h.2⟩
def wiQ (tab c s : List Int) : Bool := decide (0 ≤ tab.getD (keyN (yesL c s)) 0) && decide (0 ≤ tab.getD (keyN (noL c s)) 0)
def a_l4Within (f_l4Splits : FuncId) (f_l4Yes : FuncId) (f_l4Key : FuncId) (f_l4No : FuncId) : AFn := ⟨2, 
  .seq (.reg [⟨some 4, none, .d (.mv (.c (.bool false)))⟩])
  (.seq (.reg [⟨some 7, none, .d (.mv (.t 0))⟩,
    ⟨some 8, none, .d (.call (.f f_l4Splits) [(.t 7)])⟩,
    ⟨some 5, none, .d (.mv (.t 8))⟩])
  (.seq (.seq (.reg [⟨some 6, none, .d (.mv (.c (.int .i64 0)))⟩])
  (.block 0 (.loop (.seq (.seq (.reg [⟨some 9, none, .d (.mv (.t 6))⟩,
      ⟨some 10, none, .d (.mv (.t 5))⟩,
      ⟨some 11, none, .d (.len (.t 10))⟩,
      ⟨some 12, none, .d (.bin .arith .lss (.t 9) (.t 11))⟩])
    (.cond (.t 12) (.skip) (.exit 0)))
    (.seq (.block 1 (.seq (.reg [⟨some 15, none, .d (.mv (.t 1))⟩,
       ⟨some 16, none, .d (.mv (.t 0))⟩,
       ⟨some 17, none, .d (.mv (.t 5))⟩,
       ⟨some 18, none, .d (.mv (.t 6))⟩,
       ⟨some 19, none, .d (.ia 1 (.t 17) (.t 18))⟩,
       ⟨some 20, none, .d (.load false 1 (.t 19))⟩,
       ⟨some 21, none, .d (.call (.f f_l4Yes) [(.t 16), (.t 20)])⟩,
       ⟨some 22, none, .d (.call (.f f_l4Key) [(.t 21)])⟩,
       ⟨some 23, none, .d (.ia 1 (.t 15) (.t 22))⟩,
       ⟨some 24, none, .d (.load false 1 (.t 23))⟩,
       ⟨some 25, none, .d (.bin .arith .geq (.t 24) (.c (.int .i64 0)))⟩,
       ⟨some 26, none, .d (.mv (.t 25))⟩,
       ⟨some 27, some (26, true), .d (.mv (.t 1))⟩,
       ⟨some 28, some (26, true), .d (.mv (.t 0))⟩,
       ⟨some 29, some (26, true), .d (.mv (.t 5))⟩,
       ⟨some 30, some (26, true), .d (.mv (.t 6))⟩,
       ⟨some 31, some (26, true), .d (.ia 1 (.t 29) (.t 30))⟩,
       ⟨some 32, some (26, true), .d (.load false 1 (.t 31))⟩,
       ⟨some 33, some (26, true), .d (.call (.f f_l4No) [(.t 28), (.t 32)])⟩,
       ⟨some 34, some (26, true), .d (.call (.f f_l4Key) [(.t 33)])⟩,
       ⟨some 35, some (26, true), .d (.ia 1 (.t 27) (.t 34))⟩,
       ⟨some 36, some (26, true), .d (.load false 1 (.t 35))⟩,
       ⟨some 37, some (26, true), .d (.bin .arith .geq (.t 36) (.c (.int .i64 0)))⟩,
       ⟨some 38, none, .d (.pick (.t 26) (.t 37) (.c (.bool false)))⟩])
     (.cond (.t 38) (.seq (.reg [⟨some 4, none, .d (.mv (.c (.bool true)))⟩])
      (.ret)) (.skip))))
    (.reg [⟨some 13, none, .d (.mv (.t 6))⟩,
      ⟨some 14, none, .d (.bin .arith .add (.t 13) (.c (.int .i64 1)))⟩,
      ⟨some 6, none, .d (.mv (.t 14))⟩]))))))
  (.seq (.reg [⟨some 4, none, .d (.mv (.c (.bool false)))⟩])
  (.ret)))), [.tmp 4]⟩
def n_l4Within : Nat → Option Ann := fun _ => none
abbrev k_l4Within : List Nat := [0, 1, 4, 5, 6, 12, 38]
abbrev o_l4Within : List Nat := []
def c_l4Within : Con := pure' fun
  | [.p (.sl 1 c_), .p (.sl 1 tab_)] => if isI c_ = true ∧ isI tab_ = true ∧ (isOKw (ofI c_) = true ∧ (ofI tab_).length = 9 ^ (ofI c_).length) then some (.p (.bool ((splL (ofI c_)).any (wiQ (ofI tab_) (ofI c_)))), []) else none
  | _ => none
theorem s_l4Within {P : Program} (hm : P.follows .mixedOrders = true) {Γ : Gam} (hΓ : GS P Γ) {n : FuncId} {f_l4Splits : FuncId} {f_l4Yes : FuncId} {f_l4Key : FuncId} {f_l4No : FuncId} (is : Is P n (a_l4Within f_l4Splits f_l4Yes f_l4Key f_l4No)) (h_l4Splits : Γ f_l4Splits = c_splits) (h_l4Yes : Γ f_l4Yes = c_l4Yes) (h_l4Key : Γ f_l4Key = c_l4Key) (h_l4No : Γ f_l4No = c_l4No)  : Says P n c_l4Within := by
  refine Says.pure fun args r fs h => ?_
  split at h
  case h_2 => cases h
  rename_i c_ tab_
  split at h
  case isFalse => cases h
  rename_i hc
  obtain ⟨hc_, hc⟩ := hc
  obtain ⟨c, rfl⟩ := isI_out hc_
  obtain ⟨htab_, hc⟩ := hc
  obtain ⟨tab, rfl⟩ := isI_out htab_
  simp only [ofI_ints, ofBo_bools, ofAs_asks, Option.some.injEq, Prod.mk.injEq] at h hc
  obtain ⟨rfl, rfl⟩ := h
  obtain ⟨hok, htl⟩ := hc
  obtain ⟨h1l, hl3, h8, hin⟩ := isOKw_out hok
  have hp := pow9 hl3
  have hb3 : bd 1000 c = true := bd_in8 h8 (by omega)
  have hb4 : bd 10000 c = true := bd_in8 h8 (by omega)
  have hcl : c.length ≤ 1100000 := by omega
  have hsl := spI_len3 h8 hl3
  have hsl2 : (splL c).length ≤ 729 := hsl
  refine is.go hm hΓ k_l4Within o_l4Within (by simp [a_l4Within]) ?_
  simp only [a_l4Within, h_l4Splits, c_splits, h_l4Yes, c_l4Yes, h_l4Key, c_l4Key, h_l4No, c_l4No, hl3, h8, List.zipIdx_cons, List.zipIdx_nil, ↓SP, SQ, Gam.add, stepM, callC, argC, lendO, nmBy, nmC, likeL, likeB, plainOb, offs, exL, X, F, trP, trO, stepD, stepW, newA, SV.tr, SV.trL, fz, allP, Ob.tr, loadA, cellsA, SV.cells, binA, binI, eqOut, isSl, isPt, natOf, callee, snap, SV.refsL, SV.refs, thaw, fzAll, loA, hiA, elemOf, partsA, buildA, putCells, ↓reduceIte, reduceCtorEq, okCell, Nat.reduceAdd, Nat.reduceEqDiff, Nat.reduceSub, Nat.reduceMul, Nat.reduceLeDiff, Nat.reduceLT, Nat.reduceBEq, PV.scal, PV.scalL, SV.scal, SV.scalL, Ob.scal, PV.isCell, pure', resO]
  refine loop_at (fun s : J => mkEnv [(0, .p (.sl 1 (ints c))), (1, .p (.sl 1 (ints tab))), (4, sb false), (5, .p (.sl 1 (sls (splL c)))), (6, si s.i), (12, s.a), (38, s.b)]) (fun s => mkO []) (fun s => s.i ≤ (splL c).length ∧ ∀ j, j < s.i → wiQ tab c ((splL c).getD j []) = false) (fun s => (splL c).length - s.i) ⟨0, .junk, .junk, .junk, .junk, .junk, .junk, .junk, .junk, .junk, .junk, .junk, .junk, none, none, none⟩ (by simp) rfl rfl ?_
  rintro ⟨i, c1, c2, c3, c4, c5, c6, c7, c8, c9, c10, c11, c12, o1, o2, o3⟩ ⟨hi, hq⟩ R hR hN
  simp only at hi hq
  by_cases h : i < (splL c).length
  · have h1 : (i : Int) < (splL c).length := by omega
    have hw := wrap_one (i := i) (by omega)
    have hg := sls_get h
    obtain ⟨s, hs⟩ : ∃ s, (splL c).getD i [] = s := ⟨_, rfl⟩
    have hsm : s ∈ splL c := by rw [← hs, getD_lt h]; exact List.getElem_mem h
    rw [hs] at hg
    have hslen := spl_len hsm
    have hs8 := spl_in8 h8 hsm
    have hbs3 : bd 1000 s = true := bd_in8 hs8 (by omega)
    have hbs4 : bd 10000 s = true := bd_in8 hs8 (by omega)
    obtain ⟨hy8, hn8⟩ := hin s hsm
    have hyl : (yesL c s).length = c.length := by rw [yesL_len, hslen]
    have hnl : (noL c s).length = c.length := by rw [noL_len, hslen]
    have hyl3 : (yesL c s).length ≤ 3 := by omega
    have hnl3 : (noL c s).length ≤ 3 := by omega
    obtain ⟨y0, y1⟩ := keyN_bd (p := c.length) hyl hy8
    obtain ⟨n0, n1⟩ := keyN_bd (p := c.length) hnl hn8
    have hgy := ints_get (l := tab) (i := keyN (yesL c s)) (by omega)
    have hgn := ints_get (l := tab) (i := keyN (noL c s)) (by omega)
    have ey : (keyL (yesL c s)).toNat = keyN (yesL c s) := rfl
    have en : (keyL (noL c s)).toNat = keyN (noL c s) := rfl
    by_cases a1 : tab.getD (keyN (yesL c s)) 0 ≥ 0
    · by_cases a2 : tab.getD (keyN (noL c s)) 0 ≥ 0
      · have hwq : wiQ tab c s = true := by simp only [wiQ, dec_t (show 0 ≤ tab.getD (keyN (yesL c s)) 0 from a1), dec_t (show 0 ≤ tab.getD (keyN (noL c s)) 0 from a2), Bool.and_self]
        have hres : ((splL c).any (wiQ tab c)) = true := List.any_eq_true.2 ⟨s, hsm, hwq⟩
        simp only [h1, hw, hg, hcl, h1l, hslen, hb3, hb4, hbs3, hbs4, hy8, hn8, hyl3, hnl3, y0, n0, ey, en, hgy, hgn, a1, a2, sls_len, h_l4Yes, c_l4Yes, h_l4No, c_l4No, h_l4Key, c_l4Key, ints_len, isI_ints, ofI_ints, ↓SP, SQ, Gam.add, stepM, callC, argC, lendO, nmBy, nmC, likeL, likeB, plainOb, offs, exL, X, F, trP, trO, stepD, stepW, newA, SV.tr, SV.trL, fz, allP, Ob.tr, loadA, cellsA, SV.cells, binA, binI, eqOut, isSl, isPt, natOf, callee, snap, SV.refsL, SV.refs, thaw, fzAll, loA, hiA, elemOf, partsA, buildA, putCells, ↓reduceIte, reduceCtorEq, okCell, Nat.reduceAdd, Nat.reduceEqDiff, Nat.reduceSub, Nat.reduceMul, Nat.reduceLeDiff, Nat.reduceLT, Nat.reduceBEq, PV.scal, PV.scalL, SV.scal, SV.scalL, Ob.scal, PV.isCell, pure', resO]
        refine hR _ _ _ (by intro h; cases h) ?_
        simp only [hres, ↓SP, SQ, Gam.add, stepM, callC, argC, lendO, nmBy, nmC, likeL, likeB, plainOb, offs, exL, X, F, trP, trO, stepD, stepW, newA, SV.tr, SV.trL, fz, allP, Ob.tr, loadA, cellsA, SV.cells, binA, binI, eqOut, isSl, isPt, natOf, callee, snap, SV.refsL, SV.refs, thaw, fzAll, loA, hiA, elemOf, partsA, buildA, putCells, ↓reduceIte, reduceCtorEq, okCell, Nat.reduceAdd, Nat.reduceEqDiff, Nat.reduceSub, Nat.reduceMul, Nat.reduceLeDiff, Nat.reduceLT, Nat.reduceBEq, PV.scal, PV.scalL, SV.scal, SV.scalL, Ob.scal, PV.isCell, pure', resO]
        exact finA_val (by simp [retA, rvA, mkE_cons, mk_nil, mkO_cons, mkO_nil, loadA, SV.tr, SV.trL, nmF, rn_nil, rn_cons1, rn_cons2, plainOb, SV.refsL, SV.refs, Ob.refs, X, F, List.range_succ, mkO, setO_mk]) (by simp [SV.tr, SV.trL])
      · have hwq : wiQ tab c s = false := by simp only [wiQ, dec_f (show ¬ 0 ≤ tab.getD (keyN (noL c s)) 0 from a2), Bool.and_false]
        simp only [h1, hw, hg, hcl, h1l, hslen, hb3, hb4, hbs3, hbs4, hy8, hn8, hyl3, hnl3, y0, n0, ey, en, hgy, hgn, a1, a2, sls_len, h_l4Yes, c_l4Yes, h_l4No, c_l4No, h_l4Key, c_l4Key, ints_len, isI_ints, ofI_ints, ↓SP, SQ, Gam.add, stepM, callC, argC, lendO, nmBy, nmC, likeL, likeB, plainOb, offs, exL, X, F, trP, trO, stepD, stepW, newA, SV.tr, SV.trL, fz, allP, Ob.tr, loadA, cellsA, SV.cells, binA, binI, eqOut, isSl, isPt, natOf, callee, snap, SV.refsL, SV.refs, thaw, fzAll, loA, hiA, elemOf, partsA, buildA, putCells, ↓reduceIte, reduceCtorEq, okCell, Nat.reduceAdd, Nat.reduceEqDiff, Nat.reduceSub, Nat.reduceMul, Nat.reduceLeDiff, Nat.reduceLT, Nat.reduceBEq, PV.scal, PV.scalL, SV.scal, SV.scalL, Ob.scal, PV.isCell, pure', resO]
        refine hN ⟨i + 1, _, _, .junk, .junk, .junk, .junk, .junk, .junk, .junk, .junk, .junk, .junk, none, none, none⟩ _ _ ⟨by simp only; omega, fun j hj => ?_⟩ (by simp only; omega) rfl rfl
        simp only at hj
        by_cases hji : j = i
        · rw [hji, hs]; exact hwq
        · exact hq j (by omega)
    · have hwq : wiQ tab c s = false := by simp only [wiQ, dec_f (show ¬ 0 ≤ tab.getD (keyN (yesL c s)) 0 from a1), Bool.false_and]
      simp only [h1, hw, hg, hcl, h1l, hslen, hb3, hb4, hbs3, hbs4, hy8, hn8, hyl3, hnl3, y0, n0, ey, en, hgy, hgn, a1, sls_len, h_l4Yes, c_l4Yes, h_l4No, c_l4No, h_l4Key, c_l4Key, ints_len, isI_ints, ofI_ints, ↓SP, SQ, Gam.add, stepM, callC, argC, lendO, nmBy, nmC, likeL, likeB, plainOb, offs, exL, X, F, trP, trO, stepD, stepW, newA, SV.tr, SV.trL, fz, allP, Ob.tr, loadA, cellsA, SV.cells, binA, binI, eqOut, isSl, isPt, natOf, callee, snap, SV.refsL, SV.refs, thaw, fzAll, loA, hiA, elemOf, partsA, buildA, putCells, ↓reduceIte, reduceCtorEq, okCell, Nat.reduceAdd, Nat.reduceEqDiff, Nat.reduceSub, Nat.reduceMul, Nat.reduceLeDiff, Nat.reduceLT, Nat.reduceBEq, PV.scal, PV.scalL, SV.scal, SV.scalL, Ob.scal, PV.isCell, pure', resO]
      refine hN ⟨i + 1, _, _, .junk, .junk, .junk, .junk, .junk, .junk, .junk, .junk, .junk, .junk, none, none, none⟩ _ _ ⟨by simp only; omega, fun j hj => ?_⟩ (by simp only; omega) rfl rfl
      simp only at hj
      by_cases hji : j = i
      · rw [hji, hs]; exact hwq
      · exact hq j (by omega)
  · have he : i = (splL c).length := by omega
    have h1 : ¬ (i : Int) < (splL c).length := by omega
    have hres : ((splL c).any (wiQ tab c)) = false := by
      rw [Bool.eq_false_iff]; intro e
      obtain ⟨s, hs, hb⟩ := List.any_eq_true.1 e
      obtain ⟨j, hj, ej⟩ := List.getElem_of_mem hs
      have := hq j (by omega)
      rw [getD_lt hj, ej, hb] at this; cases this
    simp only [h1, sls_len, ↓SP, SQ, Gam.add, stepM, callC, argC, lendO, nmBy, nmC, likeL, likeB, plainOb, offs, exL, X, F, trP, trO, stepD, stepW, newA, SV.tr, SV.trL, fz, allP, Ob.tr, loadA, cellsA, SV.cells, binA, binI, eqOut, isSl, isPt, natOf, callee, snap, SV.refsL, SV.refs, thaw, fzAll, loA, hiA, elemOf, partsA, buildA, putCells, ↓reduceIte, reduceCtorEq, okCell, Nat.reduceAdd, Nat.reduceEqDiff, Nat.reduceSub, Nat.reduceMul, Nat.reduceLeDiff, Nat.reduceLT, Nat.reduceBEq, PV.scal, PV.scalL, SV.scal, SV.scalL, Ob.scal, PV.isCell, pure', resO]
    refine hR _ _ _ (by intro h; cases h) ?_
    simp only [hres, ↓SP, SQ, Gam.add, stepM, callC, argC, lendO, nmBy, nmC, likeL, likeB, plainOb, offs, exL, X, F, trP, trO, stepD, stepW, newA, SV.tr, SV.trL, fz, allP, Ob.tr, loadA, cellsA, SV.cells, binA, binI, eqOut, isSl, isPt, natOf, callee, snap, SV.refsL, SV.refs, thaw, fzAll, loA, hiA, elemOf, partsA, buildA, putCells, ↓reduceIte, reduceCtorEq, okCell, Nat.reduceAdd, Nat.reduceEqDiff, Nat.reduceSub, Nat.reduceMul, Nat.reduceLeDiff, Nat.reduceLT, Nat.reduceBEq, PV.scal, PV.scalL, SV.scal, SV.scalL, Ob.scal, PV.isCell, pure', resO]
    exact finA_val (by simp [retA, rvA, mkE_cons, mk_nil, mkO_cons, mkO_nil, loadA, SV.tr, SV.trL, nmF, rn_nil, rn_cons1, rn_cons2, plainOb, SV.refsL, SV.refs, Ob.refs, X, F, List.range_succ, mkO, setO_mk]) (by simp [SV.tr, SV.trL])
def boQ (tab : List Int) (nd : Int) (c s : List Int) : Bool := decide (0 ≤ tab.getD (keyN s) 0) && decide (0 ≤ tab.getD (keyN (noL c s)) 0) && decide (tab.getD (keyN s) 0 < nd) && decide (tab.getD (keyN (noL c s)) 0 < nd)
/-- The first split of which both counts have a need that is known and less than one. -/
def bsF (tab : List Int) (nd : Int) (c : List Int) : Option (List Int) := (splL c).find? (boQ tab nd c)
theorem find_no {q : List Int → Bool} : ∀ {L : List (List Int)}, (∀ j, j < L.length → q (L.getD j []) = false) → L.find? q = none
  | [], _ => rfl
  | x :: r, h => by
    have h0 := h 0 (by simp)
    simp only [List.getD_cons_zero] at h0
    simp only [List.find?_cons, h0]
    exact find_no fun j hj => by have := h (j + 1) (by simp; omega); simpa using this
theorem find_at {q : List Int → Bool} : ∀ {L : List (List Int)} {i : Nat}, i < L.length → (∀ j, j < i → q (L.getD j []) = false) → q (L.getD i []) = true → L.find? q = some (L.getD i [])
  | [], i, h, _, _ => by simp at h
  | x :: r, 0, _, _, h => by
    simp only [List.getD_cons_zero] at h ⊢
    simp only [List.find?_cons, h]
  | x :: r, i + 1, h, hp, ht => by
    have h0 := hp 0 (by omega)
    simp only [List.getD_cons_zero] at h0
    simp only [List.find?_cons, h0]
    have := find_at (L := r) (i := i) (by simpa using h) (fun j hj => by have := hp (j + 1) (by omega); simpa using this) (by simpa using ht)
    rw [this]; simp
def a_l10Best (f_l4Splits : FuncId) (f_l4Key : FuncId) (f_l4No : FuncId) : AFn := ⟨3, 
  .seq (.reg [⟨some 6, none, .d (.mv (.c (.nilsl)))⟩])
  (.seq (.reg [⟨some 11, none, .d (.mv (.t 0))⟩,
    ⟨some 12, none, .d (.call (.f f_l4Splits) [(.t 11)])⟩,
    ⟨some 7, none, .d (.mv (.t 12))⟩])
  (.seq (.seq (.reg [⟨some 8, none, .d (.mv (.c (.int .i64 0)))⟩])
  (.block 0 (.loop (.seq (.seq (.reg [⟨some 13, none, .d (.mv (.t 8))⟩,
      ⟨some 14, none, .d (.mv (.t 7))⟩,
      ⟨some 15, none, .d (.len (.t 14))⟩,
      ⟨some 16, none, .d (.bin .arith .lss (.t 13) (.t 15))⟩])
    (.cond (.t 16) (.skip) (.exit 0)))
    (.seq (.block 1 (.seq (.dreg [] [([], ⟨some 19, none, .d (.mv (.t 1))⟩),
       ([], ⟨some 20, none, .d (.mv (.t 7))⟩),
       ([], ⟨some 21, none, .d (.mv (.t 8))⟩),
       ([], ⟨some 22, none, .d (.ia 1 (.t 20) (.t 21))⟩),
       ([], ⟨some 23, none, .d (.load false 1 (.t 22))⟩),
       ([], ⟨some 24, none, .d (.call (.f f_l4Key) [(.t 23)])⟩),
       ([], ⟨some 25, none, .d (.ia 1 (.t 19) (.t 24))⟩),
       ([], ⟨some 26, none, .d (.load false 1 (.t 25))⟩),
       ([], ⟨some 27, none, .d (.mv (.t 1))⟩),
       ([], ⟨some 28, none, .d (.mv (.t 0))⟩),
       ([], ⟨some 29, none, .d (.mv (.t 7))⟩),
       ([], ⟨some 30, none, .d (.mv (.t 8))⟩),
       ([], ⟨some 31, none, .d (.ia 1 (.t 29) (.t 30))⟩),
       ([], ⟨some 32, none, .d (.load false 1 (.t 31))⟩),
       ([], ⟨some 33, none, .d (.call (.f f_l4No) [(.t 28), (.t 32)])⟩),
       ([], ⟨some 34, none, .d (.call (.f f_l4Key) [(.t 33)])⟩),
       ([], ⟨some 35, none, .d (.ia 1 (.t 27) (.t 34))⟩),
       ([], ⟨some 36, none, .d (.load false 1 (.t 35))⟩),
       ([], ⟨some 9, none, .d (.mv (.t 26))⟩)] [⟨some 10, none, .d (.mv (.t 36))⟩])
     (.seq (.reg [⟨some 37, none, .d (.mv (.t 9))⟩,
       ⟨some 38, none, .d (.bin .arith .geq (.t 37) (.c (.int .i64 0)))⟩,
       ⟨some 39, none, .d (.mv (.t 38))⟩,
       ⟨some 40, some (39, true), .d (.mv (.t 10))⟩,
       ⟨some 41, some (39, true), .d (.bin .arith .geq (.t 40) (.c (.int .i64 0)))⟩,
       ⟨some 42, none, .d (.pick (.t 39) (.t 41) (.c (.bool false)))⟩,
       ⟨some 43, none, .d (.mv (.t 42))⟩,
       ⟨some 44, some (43, true), .d (.mv (.t 9))⟩,
       ⟨some 45, some (43, true), .d (.mv (.t 2))⟩,
       ⟨some 46, some (43, true), .d (.bin .arith .lss (.t 44) (.t 45))⟩,
       ⟨some 47, none, .d (.pick (.t 43) (.t 46) (.c (.bool false)))⟩,
       ⟨some 48, none, .d (.mv (.t 47))⟩,
       ⟨some 49, some (48, true), .d (.mv (.t 10))⟩,
       ⟨some 50, some (48, true), .d (.mv (.t 2))⟩,
       ⟨some 51, some (48, true), .d (.bin .arith .lss (.t 49) (.t 50))⟩,
       ⟨some 52, none, .d (.pick (.t 48) (.t 51) (.c (.bool false)))⟩])
     (.cond (.t 52) (.seq (.reg [⟨some 53, none, .d (.mv (.t 7))⟩,
        ⟨some 54, none, .d (.mv (.t 8))⟩,
        ⟨some 55, none, .d (.ia 1 (.t 53) (.t 54))⟩,
        ⟨some 56, none, .d (.load false 1 (.t 55))⟩,
        ⟨some 6, none, .d (.mv (.t 56))⟩])
      (.ret)) (.skip)))))
    (.reg [⟨some 17, none, .d (.mv (.t 8))⟩,
      ⟨some 18, none, .d (.bin .arith .add (.t 17) (.c (.int .i64 1)))⟩,
      ⟨some 8, none, .d (.mv (.t 18))⟩]))))))
  (.seq (.reg [⟨some 57, none, .w (.bslice 1 [] [])⟩,
    ⟨some 6, none, .d (.mv (.t 57))⟩])
  (.ret)))), [.tmp 6]⟩
def n_l10Best : Nat → Option Ann := fun _ => none
abbrev k_l10Best : List Nat := [0, 1, 2, 6, 7, 8, 9, 10, 16, 52]
abbrev o_l10Best : List Nat := [57]
def c_l10Best : Con
  | [.p (.sl 1 c_), .p (.sl 1 tab_), .p (.int .i64 nd)], [] => if isI c_ = true ∧ isI tab_ = true ∧ isOKw (ofI c_) = true ∧ (ofI tab_).length = 9 ^ (ofI c_).length then (match bsF (ofI tab_) nd (ofI c_) with
      | some s => some (.p (.sl 1 (ints s)), [], [])
      | none => some (.ar 2000000, [], [.arr 1 []])) else none
  | [.p (.sl 1 c_), .ar 1000000, .p (.int .i64 nd)], [.arr 1 tab_] => if isI c_ = true ∧ isI tab_ = true ∧ isOKw (ofI c_) = true ∧ (ofI tab_).length = 9 ^ (ofI c_).length then (match bsF (ofI tab_) nd (ofI c_) with
      | some s => some (.p (.sl 1 (ints s)), [.arr 1 tab_], [])
      | none => some (.ar 2000000, [.arr 1 tab_], [.arr 1 []])) else none
  | _, _ => none
theorem s_l10Best {P : Program} (hm : P.follows .mixedOrders = true) {Γ : Gam} (hΓ : GS P Γ) {n : FuncId} {f_l4Splits : FuncId} {f_l4Key : FuncId} {f_l4No : FuncId} (is : Is P n (a_l10Best f_l4Splits f_l4Key f_l4No)) (h_l4Splits : Γ f_l4Splits = c_splits) (h_l4Key : Γ f_l4Key = c_l4Key) (h_l4No : Γ f_l4No = c_l4No)  : Says P n c_l10Best := by
  intro args ext r ext' fs h
  unfold c_l10Best at h
  split at h
  case h_3 => cases h
  · rename_i c_ tab_ nd
    split at h
    case isFalse => cases h
    rename_i hc
    obtain ⟨hc_, ht_, hok, htl⟩ := hc
    obtain ⟨c, rfl⟩ := isI_out hc_
    obtain ⟨tab, rfl⟩ := isI_out ht_
    simp only [ofI_ints] at h hok htl
    obtain ⟨h1l, hl3, h8, hin⟩ := isOKw_out hok
    have hrs : (r, ext', fs) = match bsF tab nd c with | some s => (.p (.sl 1 (ints s)), [], []) | none => (.ar 2000000, [], [.arr 1 []]) := by
      revert h
      cases bsF tab nd c <;> intro h <;> (injection h with h; exact h.symm)
    clear h
    have hp := pow9 hl3
    have hb3 : bd 1000 c = true := bd_in8 h8 (by omega)
    have hcl : c.length ≤ 1100000 := by omega
    have hsl := spI_len3 h8 hl3
    have hsl2 : (splL c).length ≤ 729 := hsl
    have he0 : ext' = [] := by
      revert hrs
      cases bsF tab nd c <;> intro hrs <;> exact congrArg (fun p => p.2.1) hrs
    subst he0
    refine is.go hm hΓ k_l10Best o_l10Best (by simp [a_l10Best]) ?_
    simp only [a_l10Best, hl3, h8, h_l4Splits, c_splits, ints_len, isI_ints, ofI_ints, List.zipIdx_cons, List.zipIdx_nil, ↓SP, SQ, Gam.add, stepM, callC, argC, lendO, nmBy, nmC, likeL, likeB, plainOb, offs, exL, X, F, trP, trO, stepD, stepW, newA, SV.tr, SV.trL, fz, allP, Ob.tr, loadA, cellsA, SV.cells, binA, binI, eqOut, isSl, isPt, natOf, callee, snap, SV.refsL, SV.refs, thaw, fzAll, loA, hiA, elemOf, partsA, buildA, putCells, ↓reduceIte, reduceCtorEq, okCell, Nat.reduceAdd, Nat.reduceEqDiff, Nat.reduceSub, Nat.reduceMul, Nat.reduceLeDiff, Nat.reduceLT, Nat.reduceBEq, PV.scal, PV.scalL, SV.scal, SV.scalL, Ob.scal, PV.isCell, pure', resO]
    refine loop_at (fun s : J => mkEnv [(0, .p (.sl 1 (ints c))), (1, .p (.sl 1 (ints tab))), (2, si nd), (6, .p .nilsl), (7, .p (.sl 1 (sls (splL c)))), (8, si s.i), (9, s.a), (10, s.b), (16, s.c), (52, s.d)]) (fun s => mkO [(57, none)]) (fun s => s.i ≤ (splL c).length ∧ ∀ j, j < s.i → boQ tab nd c ((splL c).getD j []) = false) (fun s => (splL c).length - s.i) ⟨0, .junk, .junk, .junk, .junk, .junk, .junk, .junk, .junk, .junk, .junk, .junk, .junk, none, none, none⟩ (by simp) rfl rfl ?_
    rintro ⟨i, c1, c2, c3, c4, c5, c6, c7, c8, c9, c10, c11, c12, o1, o2, o3⟩ ⟨hi, hq⟩ R hR hN
    simp only at hi hq
    by_cases h : i < (splL c).length
    · have h1 : (i : Int) < (splL c).length := by omega
      have hw := wrap_one (i := i) (by omega)
      have hg := sls_get h
      obtain ⟨s, hs⟩ : ∃ s, (splL c).getD i [] = s := ⟨_, rfl⟩
      have hsm : s ∈ splL c := by rw [← hs, getD_lt h]; exact List.getElem_mem h
      rw [hs] at hg
      have hslen := spl_len hsm
      have hs8 := spl_in8 h8 hsm
      have hbs3 : bd 1000 s = true := bd_in8 hs8 (by omega)
      obtain ⟨_, hn8⟩ := hin s hsm
      have hnl : (noL c s).length = c.length := by rw [noL_len, hslen]
      have hsl3 : s.length ≤ 3 := by omega
      have hnl3 : (noL c s).length ≤ 3 := by omega
      obtain ⟨y0, y1⟩ := keyN_bd (p := c.length) hslen hs8
      obtain ⟨n0, n1⟩ := keyN_bd (p := c.length) hnl hn8
      have hlty : keyN s < tab.length := by omega
      have hltn : keyN (noL c s) < tab.length := by omega
      have hgy := ints_get hlty
      have hgn := ints_get hltn
      have ey : (keyL s).toNat = keyN s := rfl
      have en : (keyL (noL c s)).toNat = keyN (noL c s) := rfl
      obtain ⟨y, hy⟩ : ∃ y, tab.getD (keyN s) 0 = y := ⟨_, rfl⟩
      obtain ⟨z, hz⟩ : ∃ z, tab.getD (keyN (noL c s)) 0 = z := ⟨_, rfl⟩
      rw [hy] at hgy
      rw [hz] at hgn
      cases hwq : boQ tab nd c s with
      | true =>
        have hwq2 := hwq
        simp only [boQ, hy, hz, Bool.and_eq_true, decide_eq_true_eq] at hwq2
        obtain ⟨⟨⟨a1, a2⟩, a3⟩, a4⟩ := hwq2
        have a1' : y ≥ 0 := a1
        have a2' : z ≥ 0 := a2
        have hres : bsF tab nd c = some s := by
          rw [bsF, ← hs]
          exact find_at h (fun j hj => hq j hj) (by rw [hs]; exact hwq)
        simp only [h1, hw, hg, hcl, h1l, hslen, hb3, hbs3, hs8, hn8, hsl3, hl3, hnl3, y0, n0, ey, en, hgy, hgn, a1', a2', a1, a2, a3, a4, sls_len, h_l4No, c_l4No, h_l4Key, c_l4Key, ints_len, isI_ints, ofI_ints, Nat.zero_add, ↓SP, SQ, Gam.add, stepM, callC, argC, lendO, nmBy, nmC, likeL, likeB, plainOb, offs, exL, X, F, trP, trO, stepD, stepW, newA, SV.tr, SV.trL, fz, allP, Ob.tr, loadA, cellsA, SV.cells, binA, binI, eqOut, isSl, isPt, natOf, callee, snap, SV.refsL, SV.refs, thaw, fzAll, loA, hiA, elemOf, partsA, buildA, putCells, ↓reduceIte, reduceCtorEq, okCell, Nat.reduceAdd, Nat.reduceEqDiff, Nat.reduceSub, Nat.reduceMul, Nat.reduceLeDiff, Nat.reduceLT, Nat.reduceBEq, PV.scal, PV.scalL, SV.scal, SV.scalL, Ob.scal, PV.isCell, pure', resO]
        refine hR _ _ _ (by intro h; cases h) ?_
        rw [hres] at hrs
        simp only [Prod.mk.injEq] at hrs
        obtain ⟨rfl, _, rfl⟩ := hrs
        simp only [↓SP, SQ, Gam.add, stepM, callC, argC, lendO, nmBy, nmC, likeL, likeB, plainOb, offs, exL, X, F, trP, trO, stepD, stepW, newA, SV.tr, SV.trL, fz, allP, Ob.tr, loadA, cellsA, SV.cells, binA, binI, eqOut, isSl, isPt, natOf, callee, snap, SV.refsL, SV.refs, thaw, fzAll, loA, hiA, elemOf, partsA, buildA, putCells, ↓reduceIte, reduceCtorEq, okCell, Nat.reduceAdd, Nat.reduceEqDiff, Nat.reduceSub, Nat.reduceMul, Nat.reduceLeDiff, Nat.reduceLT, Nat.reduceBEq, PV.scal, PV.scalL, SV.scal, SV.scalL, Ob.scal, PV.isCell, pure', resO]
        refine finA_gen [] trivial (by simp [retA, rvA, mkE_cons, mk_nil, mkO_cons, mkO_nil, loadA, SV.tr, SV.trL, nmF, rn_nil, rn_cons1, rn_cons2, plainOb, SV.refsL, SV.refs, Ob.refs, X, F, List.range_succ, mkO, setO_mk]; rfl) ?_ ?_ ?_ ?_ ?_ ?_ ?_ <;> simp [retA, rvA, mkE_cons, mk_nil, mkO_cons, mkO_nil, loadA, SV.tr, SV.trL, nmF, rn_nil, rn_cons1, rn_cons2, plainOb, SV.refsL, SV.refs, Ob.refs, X, F, List.range_succ, mkO, setO_mk]
      | false =>
        have hnx : ∀ j, j < i + 1 → boQ tab nd c ((splL c).getD j []) = false := fun j hj => by
          by_cases hji : j = i
          · rw [hji, hs]; exact hwq
          · exact hq j (by omega)
        by_cases a1 : y ≥ 0
        · by_cases a2 : z ≥ 0
          · by_cases a3 : y < nd
            · have a4 : ¬ z < nd := by
                intro a4
                simp only [boQ, hy, hz, dec_t (show 0 ≤ y from a1), dec_t (show 0 ≤ z from a2), dec_t a3, dec_t a4, Bool.and_self] at hwq
                cases hwq
              simp only [h1, hw, hg, hcl, h1l, hslen, hb3, hbs3, hs8, hn8, hsl3, hl3, hnl3, y0, n0, ey, en, hgy, hgn, a1, a2, a3, a4, sls_len, h_l4No, c_l4No, h_l4Key, c_l4Key, ints_len, isI_ints, ofI_ints, Nat.zero_add, ↓SP, SQ, Gam.add, stepM, callC, argC, lendO, nmBy, nmC, likeL, likeB, plainOb, offs, exL, X, F, trP, trO, stepD, stepW, newA, SV.tr, SV.trL, fz, allP, Ob.tr, loadA, cellsA, SV.cells, binA, binI, eqOut, isSl, isPt, natOf, callee, snap, SV.refsL, SV.refs, thaw, fzAll, loA, hiA, elemOf, partsA, buildA, putCells, ↓reduceIte, reduceCtorEq, okCell, Nat.reduceAdd, Nat.reduceEqDiff, Nat.reduceSub, Nat.reduceMul, Nat.reduceLeDiff, Nat.reduceLT, Nat.reduceBEq, PV.scal, PV.scalL, SV.scal, SV.scalL, Ob.scal, PV.isCell, pure', resO]
              exact hN ⟨i + 1, _, _, _, _, .junk, .junk, .junk, .junk, .junk, .junk, .junk, .junk, none, none, none⟩ _ _ ⟨by simp only; omega, hnx⟩ (by simp only; omega) rfl rfl
            · simp only [h1, hw, hg, hcl, h1l, hslen, hb3, hbs3, hs8, hn8, hsl3, hl3, hnl3, y0, n0, ey, en, hgy, hgn, a1, a2, a3, sls_len, h_l4No, c_l4No, h_l4Key, c_l4Key, ints_len, isI_ints, ofI_ints, Nat.zero_add, ↓SP, SQ, Gam.add, stepM, callC, argC, lendO, nmBy, nmC, likeL, likeB, plainOb, offs, exL, X, F, trP, trO, stepD, stepW, newA, SV.tr, SV.trL, fz, allP, Ob.tr, loadA, cellsA, SV.cells, binA, binI, eqOut, isSl, isPt, natOf, callee, snap, SV.refsL, SV.refs, thaw, fzAll, loA, hiA, elemOf, partsA, buildA, putCells, ↓reduceIte, reduceCtorEq, okCell, Nat.reduceAdd, Nat.reduceEqDiff, Nat.reduceSub, Nat.reduceMul, Nat.reduceLeDiff, Nat.reduceLT, Nat.reduceBEq, PV.scal, PV.scalL, SV.scal, SV.scalL, Ob.scal, PV.isCell, pure', resO]
              exact hN ⟨i + 1, _, _, _, _, .junk, .junk, .junk, .junk, .junk, .junk, .junk, .junk, none, none, none⟩ _ _ ⟨by simp only; omega, hnx⟩ (by simp only; omega) rfl rfl
          · simp only [h1, hw, hg, hcl, h1l, hslen, hb3, hbs3, hs8, hn8, hsl3, hl3, hnl3, y0, n0, ey, en, hgy, hgn, a1, a2, sls_len, h_l4No, c_l4No, h_l4Key, c_l4Key, ints_len, isI_ints, ofI_ints, Nat.zero_add, ↓SP, SQ, Gam.add, stepM, callC, argC, lendO, nmBy, nmC, likeL, likeB, plainOb, offs, exL, X, F, trP, trO, stepD, stepW, newA, SV.tr, SV.trL, fz, allP, Ob.tr, loadA, cellsA, SV.cells, binA, binI, eqOut, isSl, isPt, natOf, callee, snap, SV.refsL, SV.refs, thaw, fzAll, loA, hiA, elemOf, partsA, buildA, putCells, ↓reduceIte, reduceCtorEq, okCell, Nat.reduceAdd, Nat.reduceEqDiff, Nat.reduceSub, Nat.reduceMul, Nat.reduceLeDiff, Nat.reduceLT, Nat.reduceBEq, PV.scal, PV.scalL, SV.scal, SV.scalL, Ob.scal, PV.isCell, pure', resO]
            exact hN ⟨i + 1, _, _, _, _, .junk, .junk, .junk, .junk, .junk, .junk, .junk, .junk, none, none, none⟩ _ _ ⟨by simp only; omega, hnx⟩ (by simp only; omega) rfl rfl
        · simp only [h1, hw, hg, hcl, h1l, hslen, hb3, hbs3, hs8, hn8, hsl3, hl3, hnl3, y0, n0, ey, en, hgy, hgn, a1, sls_len, h_l4No, c_l4No, h_l4Key, c_l4Key, ints_len, isI_ints, ofI_ints, Nat.zero_add, ↓SP, SQ, Gam.add, stepM, callC, argC, lendO, nmBy, nmC, likeL, likeB, plainOb, offs, exL, X, F, trP, trO, stepD, stepW, newA, SV.tr, SV.trL, fz, allP, Ob.tr, loadA, cellsA, SV.cells, binA, binI, eqOut, isSl, isPt, natOf, callee, snap, SV.refsL, SV.refs, thaw, fzAll, loA, hiA, elemOf, partsA, buildA, putCells, ↓reduceIte, reduceCtorEq, okCell, Nat.reduceAdd, Nat.reduceEqDiff, Nat.reduceSub, Nat.reduceMul, Nat.reduceLeDiff, Nat.reduceLT, Nat.reduceBEq, PV.scal, PV.scalL, SV.scal, SV.scalL, Ob.scal, PV.isCell, pure', resO]
          exact hN ⟨i + 1, _, _, _, _, .junk, .junk, .junk, .junk, .junk, .junk, .junk, .junk, none, none, none⟩ _ _ ⟨by simp only; omega, hnx⟩ (by simp only; omega) rfl rfl
    · have he : i = (splL c).length := by omega
      have h1 : ¬ (i : Int) < (splL c).length := by omega
      have hres : bsF tab nd c = none := find_no fun j hj => hq j (by omega)
      simp only [h1, sls_len, ↓SP, SQ, Gam.add, stepM, callC, argC, lendO, nmBy, nmC, likeL, likeB, plainOb, offs, exL, X, F, trP, trO, stepD, stepW, newA, SV.tr, SV.trL, fz, allP, Ob.tr, loadA, cellsA, SV.cells, binA, binI, eqOut, isSl, isPt, natOf, callee, snap, SV.refsL, SV.refs, thaw, fzAll, loA, hiA, elemOf, partsA, buildA, putCells, ↓reduceIte, reduceCtorEq, okCell, Nat.reduceAdd, Nat.reduceEqDiff, Nat.reduceSub, Nat.reduceMul, Nat.reduceLeDiff, Nat.reduceLT, Nat.reduceBEq, PV.scal, PV.scalL, SV.scal, SV.scalL, Ob.scal, PV.isCell, pure', resO]
      refine hR _ _ _ (by intro h; cases h) ?_
      rw [hres] at hrs
      simp only [Prod.mk.injEq] at hrs
      obtain ⟨rfl, _, rfl⟩ := hrs
      simp only [↓SP, SQ, Gam.add, stepM, callC, argC, lendO, nmBy, nmC, likeL, likeB, plainOb, offs, exL, X, F, trP, trO, stepD, stepW, newA, SV.tr, SV.trL, fz, allP, Ob.tr, loadA, cellsA, SV.cells, binA, binI, eqOut, isSl, isPt, natOf, callee, snap, SV.refsL, SV.refs, thaw, fzAll, loA, hiA, elemOf, partsA, buildA, putCells, ↓reduceIte, reduceCtorEq, okCell, Nat.reduceAdd, Nat.reduceEqDiff, Nat.reduceSub, Nat.reduceMul, Nat.reduceLeDiff, Nat.reduceLT, Nat.reduceBEq, PV.scal, PV.scalL, SV.scal, SV.scalL, Ob.scal, PV.isCell, pure', resO]
      refine finA_gen [57] trivial (by simp [retA, rvA, mkE_cons, mk_nil, mkO_cons, mkO_nil, loadA, SV.tr, SV.trL, nmF, rn_nil, rn_cons1, rn_cons2, plainOb, SV.refsL, SV.refs, Ob.refs, X, F, List.range_succ, mkO, setO_mk]; rfl) ?_ ?_ ?_ ?_ ?_ ?_ ?_ <;> simp [retA, rvA, mkE_cons, mk_nil, mkO_cons, mkO_nil, loadA, SV.tr, SV.trL, nmF, rn_nil, rn_cons1, rn_cons2, plainOb, SV.refsL, SV.refs, Ob.refs, X, F, List.range_succ, mkO, setO_mk]
  · rename_i c_ nd tab_
    split at h
    case isFalse => cases h
    rename_i hc
    obtain ⟨hc_, ht_, hok, htl⟩ := hc
    obtain ⟨c, rfl⟩ := isI_out hc_
    obtain ⟨tab, rfl⟩ := isI_out ht_
    simp only [ofI_ints] at h hok htl
    obtain ⟨h1l, hl3, h8, hin⟩ := isOKw_out hok
    have hrs : (r, ext', fs) = match bsF tab nd c with | some s => (.p (.sl 1 (ints s)), [.arr 1 (ints tab)], []) | none => (.ar 2000000, [.arr 1 (ints tab)], [.arr 1 []]) := by
      revert h
      cases bsF tab nd c <;> intro h <;> (injection h with h; exact h.symm)
    clear h
    have hp := pow9 hl3
    have hb3 : bd 1000 c = true := bd_in8 h8 (by omega)
    have hcl : c.length ≤ 1100000 := by omega
    have hsl := spI_len3 h8 hl3
    have hsl2 : (splL c).length ≤ 729 := hsl
    refine is.goX hm hΓ k_l10Best (1000000 :: o_l10Best) (by simp [a_l10Best]) (by simp) ?_
    simp only [a_l10Best, hl3, h8, h_l4Splits, c_splits, ints_len, isI_ints, ofI_ints, List.zipIdx_cons, List.zipIdx_nil, ↓SP, SQ, Gam.add, stepM, callC, argC, lendO, nmBy, nmC, likeL, likeB, plainOb, offs, exL, X, F, trP, trO, stepD, stepW, newA, SV.tr, SV.trL, fz, allP, Ob.tr, loadA, cellsA, SV.cells, binA, binI, eqOut, isSl, isPt, natOf, callee, snap, SV.refsL, SV.refs, thaw, fzAll, loA, hiA, elemOf, partsA, buildA, putCells, ↓reduceIte, reduceCtorEq, okCell, Nat.reduceAdd, Nat.reduceEqDiff, Nat.reduceSub, Nat.reduceMul, Nat.reduceLeDiff, Nat.reduceLT, Nat.reduceBEq, PV.scal, PV.scalL, SV.scal, SV.scalL, Ob.scal, PV.isCell, pure', resO]
    refine loop_at (fun s : J => mkEnv [(0, .p (.sl 1 (ints c))), (1, .ar 1000000), (2, si nd), (6, .p .nilsl), (7, .p (.sl 1 (sls (splL c)))), (8, si s.i), (9, s.a), (10, s.b), (16, s.c), (52, s.d)]) (fun s => mkO [(1000000, some (.arr 1 (ints tab))), (57, none)]) (fun s => s.i ≤ (splL c).length ∧ ∀ j, j < s.i → boQ tab nd c ((splL c).getD j []) = false) (fun s => (splL c).length - s.i) ⟨0, .junk, .junk, .junk, .junk, .junk, .junk, .junk, .junk, .junk, .junk, .junk, .junk, none, none, none⟩ (by simp) rfl rfl ?_
    rintro ⟨i, c1, c2, c3, c4, c5, c6, c7, c8, c9, c10, c11, c12, o1, o2, o3⟩ ⟨hi, hq⟩ R hR hN
    simp only at hi hq
    by_cases h : i < (splL c).length
    · have h1 : (i : Int) < (splL c).length := by omega
      have hw := wrap_one (i := i) (by omega)
      have hg := sls_get h
      obtain ⟨s, hs⟩ : ∃ s, (splL c).getD i [] = s := ⟨_, rfl⟩
      have hsm : s ∈ splL c := by rw [← hs, getD_lt h]; exact List.getElem_mem h
      rw [hs] at hg
      have hslen := spl_len hsm
      have hs8 := spl_in8 h8 hsm
      have hbs3 : bd 1000 s = true := bd_in8 hs8 (by omega)
      obtain ⟨_, hn8⟩ := hin s hsm
      have hnl : (noL c s).length = c.length := by rw [noL_len, hslen]
      have hsl3 : s.length ≤ 3 := by omega
      have hnl3 : (noL c s).length ≤ 3 := by omega
      obtain ⟨y0, y1⟩ := keyN_bd (p := c.length) hslen hs8
      obtain ⟨n0, n1⟩ := keyN_bd (p := c.length) hnl hn8
      have hlty : keyN s < tab.length := by omega
      have hltn : keyN (noL c s) < tab.length := by omega
      have hgy := ints_get hlty
      have hgn := ints_get hltn
      have ey : (keyL s).toNat = keyN s := rfl
      have en : (keyL (noL c s)).toNat = keyN (noL c s) := rfl
      obtain ⟨y, hy⟩ : ∃ y, tab.getD (keyN s) 0 = y := ⟨_, rfl⟩
      obtain ⟨z, hz⟩ : ∃ z, tab.getD (keyN (noL c s)) 0 = z := ⟨_, rfl⟩
      rw [hy] at hgy
      rw [hz] at hgn
      cases hwq : boQ tab nd c s with
      | true =>
        have hwq2 := hwq
        simp only [boQ, hy, hz, Bool.and_eq_true, decide_eq_true_eq] at hwq2
        obtain ⟨⟨⟨a1, a2⟩, a3⟩, a4⟩ := hwq2
        have a1' : y ≥ 0 := a1
        have a2' : z ≥ 0 := a2
        have hres : bsF tab nd c = some s := by
          rw [bsF, ← hs]
          exact find_at h (fun j hj => hq j hj) (by rw [hs]; exact hwq)
        simp only [h1, hw, hg, hcl, h1l, hslen, hb3, hbs3, hs8, hn8, hsl3, hl3, hnl3, y0, n0, ey, en, hlty, hltn, hgy, hgn, a1', a2', a1, a2, a3, a4, sls_len, h_l4No, c_l4No, h_l4Key, c_l4Key, ints_len, isI_ints, ofI_ints, Nat.zero_add, ↓SP, SQ, Gam.add, stepM, callC, argC, lendO, nmBy, nmC, likeL, likeB, plainOb, offs, exL, X, F, trP, trO, stepD, stepW, newA, SV.tr, SV.trL, fz, allP, Ob.tr, loadA, cellsA, SV.cells, binA, binI, eqOut, isSl, isPt, natOf, callee, snap, SV.refsL, SV.refs, thaw, fzAll, loA, hiA, elemOf, partsA, buildA, putCells, ↓reduceIte, reduceCtorEq, okCell, Nat.reduceAdd, Nat.reduceEqDiff, Nat.reduceSub, Nat.reduceMul, Nat.reduceLeDiff, Nat.reduceLT, Nat.reduceBEq, PV.scal, PV.scalL, SV.scal, SV.scalL, Ob.scal, PV.isCell, pure', resO]
        refine hR _ _ _ (by intro h; cases h) ?_
        rw [hres] at hrs
        simp only [Prod.mk.injEq] at hrs
        obtain ⟨rfl, rfl, rfl⟩ := hrs
        simp only [↓SP, SQ, Gam.add, stepM, callC, argC, lendO, nmBy, nmC, likeL, likeB, plainOb, offs, exL, X, F, trP, trO, stepD, stepW, newA, SV.tr, SV.trL, fz, allP, Ob.tr, loadA, cellsA, SV.cells, binA, binI, eqOut, isSl, isPt, natOf, callee, snap, SV.refsL, SV.refs, thaw, fzAll, loA, hiA, elemOf, partsA, buildA, putCells, ↓reduceIte, reduceCtorEq, okCell, Nat.reduceAdd, Nat.reduceEqDiff, Nat.reduceSub, Nat.reduceMul, Nat.reduceLeDiff, Nat.reduceLT, Nat.reduceBEq, PV.scal, PV.scalL, SV.scal, SV.scalL, Ob.scal, PV.isCell, pure', resO]
        refine finA_gen [] trivial (by simp [retA, rvA, mkE_cons, mk_nil, mkO_cons, mkO_nil, loadA, SV.tr, SV.trL, nmF, rn_nil, rn_cons1, rn_cons2, plainOb, SV.refsL, SV.refs, Ob.refs, X, F, List.range_succ, mkO, setO_mk]; rfl) ?_ ?_ ?_ ?_ ?_ ?_ ?_ <;> simp [retA, rvA, mkE_cons, mk_nil, mkO_cons, mkO_nil, loadA, SV.tr, SV.trL, nmF, rn_nil, rn_cons1, rn_cons2, plainOb, SV.refsL, SV.refs, Ob.refs, X, F, List.range_succ, mkO, setO_mk]
      | false =>
        have hnx : ∀ j, j < i + 1 → boQ tab nd c ((splL c).getD j []) = false := fun j hj => by
          by_cases hji : j = i
          · rw [hji, hs]; exact hwq
          · exact hq j (by omega)
        by_cases a1 : y ≥ 0
        · by_cases a2 : z ≥ 0
          · by_cases a3 : y < nd
            · have a4 : ¬ z < nd := by
                intro a4
                simp only [boQ, hy, hz, dec_t (show 0 ≤ y from a1), dec_t (show 0 ≤ z from a2), dec_t a3, dec_t a4, Bool.and_self] at hwq
                cases hwq
              simp only [h1, hw, hg, hcl, h1l, hslen, hb3, hbs3, hs8, hn8, hsl3, hl3, hnl3, y0, n0, ey, en, hlty, hltn, hgy, hgn, a1, a2, a3, a4, sls_len, h_l4No, c_l4No, h_l4Key, c_l4Key, ints_len, isI_ints, ofI_ints, Nat.zero_add, ↓SP, SQ, Gam.add, stepM, callC, argC, lendO, nmBy, nmC, likeL, likeB, plainOb, offs, exL, X, F, trP, trO, stepD, stepW, newA, SV.tr, SV.trL, fz, allP, Ob.tr, loadA, cellsA, SV.cells, binA, binI, eqOut, isSl, isPt, natOf, callee, snap, SV.refsL, SV.refs, thaw, fzAll, loA, hiA, elemOf, partsA, buildA, putCells, ↓reduceIte, reduceCtorEq, okCell, Nat.reduceAdd, Nat.reduceEqDiff, Nat.reduceSub, Nat.reduceMul, Nat.reduceLeDiff, Nat.reduceLT, Nat.reduceBEq, PV.scal, PV.scalL, SV.scal, SV.scalL, Ob.scal, PV.isCell, pure', resO]
              exact hN ⟨i + 1, _, _, _, _, .junk, .junk, .junk, .junk, .junk, .junk, .junk, .junk, none, none, none⟩ _ _ ⟨by simp only; omega, hnx⟩ (by simp only; omega) rfl rfl
            · simp only [h1, hw, hg, hcl, h1l, hslen, hb3, hbs3, hs8, hn8, hsl3, hl3, hnl3, y0, n0, ey, en, hlty, hltn, hgy, hgn, a1, a2, a3, sls_len, h_l4No, c_l4No, h_l4Key, c_l4Key, ints_len, isI_ints, ofI_ints, Nat.zero_add, ↓SP, SQ, Gam.add, stepM, callC, argC, lendO, nmBy, nmC, likeL, likeB, plainOb, offs, exL, X, F, trP, trO, stepD, stepW, newA, SV.tr, SV.trL, fz, allP, Ob.tr, loadA, cellsA, SV.cells, binA, binI, eqOut, isSl, isPt, natOf, callee, snap, SV.refsL, SV.refs, thaw, fzAll, loA, hiA, elemOf, partsA, buildA, putCells, ↓reduceIte, reduceCtorEq, okCell, Nat.reduceAdd, Nat.reduceEqDiff, Nat.reduceSub, Nat.reduceMul, Nat.reduceLeDiff, Nat.reduceLT, Nat.reduceBEq, PV.scal, PV.scalL, SV.scal, SV.scalL, Ob.scal, PV.isCell, pure', resO]
              exact hN ⟨i + 1, _, _, _, _, .junk, .junk, .junk, .junk, .junk, .junk, .junk, .junk, none, none, none⟩ _ _ ⟨by simp only; omega, hnx⟩ (by simp only; omega) rfl rfl
          · simp only [h1, hw, hg, hcl, h1l, hslen, hb3, hbs3, hs8, hn8, hsl3, hl3, hnl3, y0, n0, ey, en, hlty, hltn, hgy, hgn, a1, a2, sls_len, h_l4No, c_l4No, h_l4Key, c_l4Key, ints_len, isI_ints, ofI_ints, Nat.zero_add, ↓SP, SQ, Gam.add, stepM, callC, argC, lendO, nmBy, nmC, likeL, likeB, plainOb, offs, exL, X, F, trP, trO, stepD, stepW, newA, SV.tr, SV.trL, fz, allP, Ob.tr, loadA, cellsA, SV.cells, binA, binI, eqOut, isSl, isPt, natOf, callee, snap, SV.refsL, SV.refs, thaw, fzAll, loA, hiA, elemOf, partsA, buildA, putCells, ↓reduceIte, reduceCtorEq, okCell, Nat.reduceAdd, Nat.reduceEqDiff, Nat.reduceSub, Nat.reduceMul, Nat.reduceLeDiff, Nat.reduceLT, Nat.reduceBEq, PV.scal, PV.scalL, SV.scal, SV.scalL, Ob.scal, PV.isCell, pure', resO]
            exact hN ⟨i + 1, _, _, _, _, .junk, .junk, .junk, .junk, .junk, .junk, .junk, .junk, none, none, none⟩ _ _ ⟨by simp only; omega, hnx⟩ (by simp only; omega) rfl rfl
        · simp only [h1, hw, hg, hcl, h1l, hslen, hb3, hbs3, hs8, hn8, hsl3, hl3, hnl3, y0, n0, ey, en, hlty, hltn, hgy, hgn, a1, sls_len, h_l4No, c_l4No, h_l4Key, c_l4Key, ints_len, isI_ints, ofI_ints, Nat.zero_add, ↓SP, SQ, Gam.add, stepM, callC, argC, lendO, nmBy, nmC, likeL, likeB, plainOb, offs, exL, X, F, trP, trO, stepD, stepW, newA, SV.tr, SV.trL, fz, allP, Ob.tr, loadA, cellsA, SV.cells, binA, binI, eqOut, isSl, isPt, natOf, callee, snap, SV.refsL, SV.refs, thaw, fzAll, loA, hiA, elemOf, partsA, buildA, putCells, ↓reduceIte, reduceCtorEq, okCell, Nat.reduceAdd, Nat.reduceEqDiff, Nat.reduceSub, Nat.reduceMul, Nat.reduceLeDiff, Nat.reduceLT, Nat.reduceBEq, PV.scal, PV.scalL, SV.scal, SV.scalL, Ob.scal, PV.isCell, pure', resO]
          exact hN ⟨i + 1, _, _, _, _, .junk, .junk, .junk, .junk, .junk, .junk, .junk, .junk, none, none, none⟩ _ _ ⟨by simp only; omega, hnx⟩ (by simp only; omega) rfl rfl
    · have he : i = (splL c).length := by omega
      have h1 : ¬ (i : Int) < (splL c).length := by omega
      have hres : bsF tab nd c = none := find_no fun j hj => hq j (by omega)
      simp only [h1, sls_len, ↓SP, SQ, Gam.add, stepM, callC, argC, lendO, nmBy, nmC, likeL, likeB, plainOb, offs, exL, X, F, trP, trO, stepD, stepW, newA, SV.tr, SV.trL, fz, allP, Ob.tr, loadA, cellsA, SV.cells, binA, binI, eqOut, isSl, isPt, natOf, callee, snap, SV.refsL, SV.refs, thaw, fzAll, loA, hiA, elemOf, partsA, buildA, putCells, ↓reduceIte, reduceCtorEq, okCell, Nat.reduceAdd, Nat.reduceEqDiff, Nat.reduceSub, Nat.reduceMul, Nat.reduceLeDiff, Nat.reduceLT, Nat.reduceBEq, PV.scal, PV.scalL, SV.scal, SV.scalL, Ob.scal, PV.isCell, pure', resO]
      refine hR _ _ _ (by intro h; cases h) ?_
      rw [hres] at hrs
      simp only [Prod.mk.injEq] at hrs
      obtain ⟨rfl, rfl, rfl⟩ := hrs
      simp only [↓SP, SQ, Gam.add, stepM, callC, argC, lendO, nmBy, nmC, likeL, likeB, plainOb, offs, exL, X, F, trP, trO, stepD, stepW, newA, SV.tr, SV.trL, fz, allP, Ob.tr, loadA, cellsA, SV.cells, binA, binI, eqOut, isSl, isPt, natOf, callee, snap, SV.refsL, SV.refs, thaw, fzAll, loA, hiA, elemOf, partsA, buildA, putCells, ↓reduceIte, reduceCtorEq, okCell, Nat.reduceAdd, Nat.reduceEqDiff, Nat.reduceSub, Nat.reduceMul, Nat.reduceLeDiff, Nat.reduceLT, Nat.reduceBEq, PV.scal, PV.scalL, SV.scal, SV.scalL, Ob.scal, PV.isCell, pure', resO]
      refine finA_gen [57] trivial (by simp [retA, rvA, mkE_cons, mk_nil, mkO_cons, mkO_nil, loadA, SV.tr, SV.trL, nmF, rn_nil, rn_cons1, rn_cons2, plainOb, SV.refsL, SV.refs, Ob.refs, X, F, List.range_succ, mkO, setO_mk]; rfl) ?_ ?_ ?_ ?_ ?_ ?_ ?_ <;> simp [retA, rvA, mkE_cons, mk_nil, mkO_cons, mkO_nil, loadA, SV.tr, SV.trL, nmF, rn_nil, rn_cons1, rn_cons2, plainOb, SV.refsL, SV.refs, Ob.refs, X, F, List.range_succ, mkO, setO_mk]
end Go.Proofs.Ytmncbkkpchmjhaa.Pam
