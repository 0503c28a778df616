/- A part of the proof that stands in this folder: a small machine whose steps are shown to be the steps of the model, or walks of functions by it. No condition of its own. -/
import Derived.Test.YtmncbkkpchmjhaaGdMI
set_option linter.unusedVariables false
set_option linter.unusedSimpArgs false
namespace Go.Proofs.Ytmncbkkpchmjhaa.Pam
open Go
theorem s_needs {P : Program} (hm : P.follows .mixedOrders = true) {Γ : Gam} (hΓ : GS P Γ) {n : FuncId} {f_splits : FuncId} {f_needs1 : FuncId} {f_ContainsFuncS : FuncId} {f_needs2 : FuncId} {f_DelT : FuncId} (is : Is P n (a_needs f_splits f_needs1 f_ContainsFuncS f_needs2 f_DelT)) (h_splits : Γ f_splits = c_splits) {Γ0 Γ1 Γ2 Γ3 : Gam} (h_ContainsFuncS : Γ f_ContainsFuncS = c_ContainsFuncS Γ0) (h_needs1 : Γ0 f_needs1 = c_needs1 Γ1) (h_DelT : Γ f_DelT = c_DelT Γ2 Γ3) (h_needs2a : Γ2 f_needs2 = c_needs2) (h_needs2b : Γ3 f_needs2 = c_needs2) : Says P n (c_needs Γ1) := by
  refine Says.pure fun args r fs h => ?_
  split at h
  case h_2 => cases h
  rename_i g
  split at h
  · rename_i hg
    simp only [Option.some.injEq, Prod.mk.injEq] at h
    obtain ⟨rfl, rfl⟩ := h
    exact needs_walk hm hΓ is h_splits h_ContainsFuncS h_needs1 h_DelT h_needs2a h_needs2b ntB (by omega) (both := true) (by simpa [isRule] using hg)
  · split at h
    · rename_i hg
      simp only [Option.some.injEq, Prod.mk.injEq] at h
      obtain ⟨rfl, rfl⟩ := h
      exact needs_walk hm hΓ is h_splits h_ContainsFuncS h_needs1 h_DelT h_needs2a h_needs2b ntO (by omega) (both := false) (by simpa [isRule] using hg)
    · cases h
/-- The map of needs by a rule. -/
def nES (both : Bool) : List (PV × PV) := if both = true then ents (eL (ntT tabB) 9) else ents (eL (ntT tabO) 6)
theorem needs_both {Γ1 : Gam} {g : FuncId} (h : Γ1 g = c_bothWays) : c_needs Γ1 [.p (.fn g [] [])] [] = some (.mp 2000000, [], [.map (nES true)]) := by simp [c_needs, pure', h, nES]
theorem needs_one {Γ1 : Gam} {g : FuncId} (h : Γ1 g = c_oneWay) : c_needs Γ1 [.p (.fn g [] [])] [] = some (.mp 2000000, [], [.map (nES false)]) := by simp [c_needs, pure', h, nES, rules_apart]
def a_neederOf (f_needs : FuncId) : AFn := ⟨1, 
  .seq (.reg [⟨some 2, none, .w (.alloc [.nilfn, .nilmap])⟩])
  (.seq (.reg [⟨some 3, none, .d (.mv (.t 0))⟩,
    ⟨some 4, none, .d (.mv (.t 0))⟩,
    ⟨some 5, none, .d (.call (.f f_needs) [(.t 4)])⟩,
    ⟨some 6, none, .d (.build [.nilfn, .nilmap] [(0, 1, (.t 3)), (1, 1, (.t 5))])⟩,
    ⟨none, none, .w (.store 2 (.t 2) (.t 6))⟩])
  (.ret)), [.cell 2 2 true]⟩
def n_neederOf : Nat → Option Ann := fun _ => none
abbrev k_neederOf : List Nat := [0, 2]
abbrev o_neederOf : List Nat := [2]
open Classical in
noncomputable def c_neederOf (Γ1 : Gam) : Con := pure' fun
  | [.p (.fn g [] [])] => if Γ1 g = c_bothWays then some (.ag [.p (.fn g [] []), .p (.mapv (nES true))], []) else if Γ1 g = c_oneWay then some (.ag [.p (.fn g [] []), .p (.mapv (nES false))], []) else none
  | _ => none
theorem s_neederOf {P : Program} (hm : P.follows .mixedOrders = true) {Γ : Gam} (hΓ : GS P Γ) {n : FuncId} {f_needs : FuncId} (is : Is P n (a_neederOf f_needs)) {Γ1 : Gam} (h_needs : Γ f_needs = c_needs Γ1) : Says P n (c_neederOf Γ1) := by
  refine Says.pure fun args r fs h => ?_
  split at h
  case h_2 => cases h
  rename_i g
  split at h
  · rename_i hg
    simp only [Option.some.injEq, Prod.mk.injEq] at h
    obtain ⟨rfl, rfl⟩ := h
    have hn := needs_both hg
    refine is.go hm hΓ k_neederOf o_neederOf (by simp [a_neederOf]) ?_
    simp only [a_neederOf, h_needs, hn, List.zipIdx_cons, List.zipIdx_nil, ↓SP, SQ, Gam.add, stepM, callC, argC, lendO, nmBy, nmC, likeL, likeB, plainOb, offs, X, F, trP, trO, stepD, stepW, newA, SV.tr, SV.trL, fz, allP, Ob.tr, loadA, cellsA, SV.cells, binA, binI, eqOut, isSl, isPt, natOf, callee, snap, SV.refsL, SV.refs, thaw, fzAll, loA, hiA, elemOf, partsA, buildA, putCells, ↓reduceIte, reduceCtorEq, okCell, Nat.reduceAdd, Nat.reduceEqDiff, Nat.reduceSub, Nat.reduceMul, Nat.reduceLeDiff, Nat.reduceLT, Nat.reduceBEq, PV.scal, PV.scalL, SV.scal, SV.scalL, Ob.scal, PV.isCell, pure', resO]
    exact finA_val (by simp [retA, rvA, List.mapM_cons, List.mapM_nil, Option.pure_def, Option.bind_eq_bind, Option.bind_some, Option.map_some, mkE_cons, mk_nil, mkO_cons, mkO_nil, loadA, ↓reduceIte, List.take_succ_cons, List.take_zero, List.drop_zero, List.drop_succ_cons, List.length_cons, List.length_nil, Nat.reduceAdd, Nat.reduceEqDiff, Nat.reduceLeDiff, Nat.zero_add, Nat.le_refl, reduceCtorEq, SV.tr, SV.trL, nmF, rn_nil, rn_cons1, rn_cons2, List.map_cons, List.map_nil, List.all_cons, List.all_nil, plainOb, SV.refsL, SV.refs, Ob.refs, X, F, List.range_succ, List.range_zero, List.nil_append, List.cons_append, List.isEmpty_nil, decide_true, Nat.reduceLT, Bool.and_self, Bool.and_true, and_self, and_true, List.getElem?_cons_zero, List.getElem?_cons_succ, List.nodup_cons, List.nodup_nil, List.mem_cons, List.not_mem_nil, not_false_eq_true, or_false, List.append_nil, mkO, setO_mk, List.mem_singleton]) (by simp [SV.tr, SV.trL])
  · split at h
    · rename_i hg
      simp only [Option.some.injEq, Prod.mk.injEq] at h
      obtain ⟨rfl, rfl⟩ := h
      have hn := needs_one hg
      refine is.go hm hΓ k_neederOf o_neederOf (by simp [a_neederOf]) ?_
      simp only [a_neederOf, h_needs, hn, List.zipIdx_cons, List.zipIdx_nil, ↓SP, SQ, Gam.add, stepM, callC, argC, lendO, nmBy, nmC, likeL, likeB, plainOb, offs, X, F, trP, trO, stepD, stepW, newA, SV.tr, SV.trL, fz, allP, Ob.tr, loadA, cellsA, SV.cells, binA, binI, eqOut, isSl, isPt, natOf, callee, snap, SV.refsL, SV.refs, thaw, fzAll, loA, hiA, elemOf, partsA, buildA, putCells, ↓reduceIte, reduceCtorEq, okCell, Nat.reduceAdd, Nat.reduceEqDiff, Nat.reduceSub, Nat.reduceMul, Nat.reduceLeDiff, Nat.reduceLT, Nat.reduceBEq, PV.scal, PV.scalL, SV.scal, SV.scalL, Ob.scal, PV.isCell, pure', resO]
      exact finA_val (by simp [retA, rvA, List.mapM_cons, List.mapM_nil, Option.pure_def, Option.bind_eq_bind, Option.bind_some, Option.map_some, mkE_cons, mk_nil, mkO_cons, mkO_nil, loadA, ↓reduceIte, List.take_succ_cons, List.take_zero, List.drop_zero, List.drop_succ_cons, List.length_cons, List.length_nil, Nat.reduceAdd, Nat.reduceEqDiff, Nat.reduceLeDiff, Nat.zero_add, Nat.le_refl, reduceCtorEq, SV.tr, SV.trL, nmF, rn_nil, rn_cons1, rn_cons2, List.map_cons, List.map_nil, List.all_cons, List.all_nil, plainOb, SV.refsL, SV.refs, Ob.refs, X, F, List.range_succ, List.range_zero, List.nil_append, List.cons_append, List.isEmpty_nil, decide_true, Nat.reduceLT, Bool.and_self, Bool.and_true, and_self, and_true, List.getElem?_cons_zero, List.getElem?_cons_succ, List.nodup_cons, List.nodup_nil, List.mem_cons, List.not_mem_nil, not_false_eq_true, or_false, List.append_nil, mkO, setO_mk, List.mem_singleton]) (by simp [SV.tr, SV.trL])
    · cases h
/-- What a map tells of counts. -/
def ofE (es : List (PV × PV)) (c : List Int) : Int := match look (.agg (ints (pad3 c))) es with
  | some (some (.int _ v)) => v
  | _ => 0
theorem ofE_bd {es : List (PV × PV)} {c : List Int} (h : okE es = true) (hc : c.length ≤ 3) : -1000 ≤ ofE es c ∧ ofE es c ≤ 1000 := by
  obtain ⟨E, rfl, h3, hv⟩ := okE_out h
  simp only [ofE, look_ents (pad3_len hc) h3]
  cases hl : lk (pad3 c) E with
  | none => simp
  | some v => simpa using hv _ _ hl
def a_nOf (f_tripleOf : FuncId) : AFn := ⟨2, 
  .seq (.reg [⟨some 2, none, .w (.box 2 (.t 0))⟩,
    ⟨some 4, none, .d (.mv (.c (.int .i64 0)))⟩])
  (.seq (.dreg [] [([], ⟨some 5, none, .d (.fa 1 (.t 2))⟩),
    ([], ⟨some 6, none, .d (.load false 1 (.t 5))⟩),
    ([], ⟨some 7, none, .d (.mv (.t 1))⟩),
    ([], ⟨some 8, none, .d (.call (.f f_tripleOf) [(.t 7)])⟩)] [⟨some 9, none, .d (.lookup (.int .i64 0) false (some 3) (.t 6) (.t 8))⟩,
    ⟨some 4, none, .d (.mv (.t 9))⟩])
  (.ret)), [.tmp 4]⟩
def n_nOf : Nat → Option Ann := fun _ => none
abbrev k_nOf : List Nat := [0, 1, 2, 4]
abbrev o_nOf : List Nat := [2]
def c_nOf : Con := pure' fun
  | [.p (.agg [.fn g [] [], .mapv es]), .p (.sl 1 c_)] => if okE es = true ∧ isI c_ = true ∧ 1 ≤ c_.length ∧ c_.length ≤ 3 then some (.p (.int .i64 (ofE es (ofI c_))), []) else none
  | _ => none
theorem s_nOf {P : Program} (hm : P.follows .mixedOrders = true) {Γ : Gam} (hΓ : GS P Γ) {n : FuncId} {f_tripleOf : FuncId} (is : Is P n (a_nOf f_tripleOf)) (h_tripleOf : Γ f_tripleOf = c_tripleOf)  : Says P n c_nOf := by
  refine Says.pure fun args r fs h => ?_
  split at h
  case h_2 => cases h
  rename_i g es c_
  split at h
  case isFalse => cases h
  rename_i hc
  obtain ⟨hok, hc_, h1, h2⟩ := hc
  obtain ⟨c, rfl⟩ := isI_out hc_
  rw [ints_len] at h1 h2
  simp only [ofI_ints, Option.some.injEq, Prod.mk.injEq] at h
  obtain ⟨rfl, rfl⟩ := h
  obtain ⟨E, rfl, h3, hv⟩ := okE_out hok
  have hp3 := pad3_len h2
  have ht := tri hp3
  have hko := keysOk_ents h3
  have hlook := look_ents hp3 h3
  have hof : ofE (ents E) c = ((lk (pad3 c) E).getD 0) := by
    simp only [ofE, hlook]
    cases lk (pad3 c) E <;> rfl
  rw [hof]
  cases hl : lk (pad3 c) E with
  | none =>
    rw [hl] at hlook
    refine is.go hm hΓ k_nOf o_nOf (by simp [a_nOf]) ?_
    simp only [a_nOf, h_tripleOf, c_tripleOf, h1, h2, ht, hko, hlook, hp3, lookA, esOf, keyA, ints_isInt, ints_len, isI_ints, ofI_ints, Option.map_none, List.zipIdx_cons, List.zipIdx_nil, ↓SP, SQ, Gam.add, stepM, callC, argC, lendO, nmBy, nmC, likeL, likeB, plainOb, offs, X, F, trP, trO, stepD, stepW, newA, SV.tr, SV.trL, fz, allP, Ob.tr, loadA, cellsA, SV.cells, binA, binI, eqOut, isSl, isPt, natOf, callee, snap, SV.refsL, SV.refs, thaw, fzAll, loA, hiA, elemOf, partsA, buildA, putCells, ↓reduceIte, reduceCtorEq, okCell, Nat.reduceAdd, Nat.reduceEqDiff, Nat.reduceSub, Nat.reduceMul, Nat.reduceLeDiff, Nat.reduceLT, Nat.reduceBEq, PV.scal, PV.scalL, SV.scal, SV.scalL, Ob.scal, PV.isCell, pure', resO]
    exact finA_val (by simp [retA, rvA, List.mapM_cons, List.mapM_nil, Option.pure_def, Option.bind_eq_bind, Option.bind_some, Option.map_some, mkE_cons, mk_nil, mkO_cons, mkO_nil, loadA, ↓reduceIte, List.take_succ_cons, List.take_zero, List.drop_zero, List.drop_succ_cons, List.length_cons, List.length_nil, Nat.reduceAdd, Nat.reduceEqDiff, Nat.reduceLeDiff, Nat.zero_add, Nat.le_refl, reduceCtorEq, SV.tr, SV.trL, nmF, rn_nil, rn_cons1, rn_cons2, List.map_cons, List.map_nil, List.all_cons, List.all_nil, plainOb, SV.refsL, SV.refs, Ob.refs, X, F, List.range_succ, List.range_zero, List.nil_append, List.cons_append, List.isEmpty_nil, decide_true, Nat.reduceLT, Bool.and_self, Bool.and_true, and_self, and_true, List.getElem?_cons_zero, List.getElem?_cons_succ, List.nodup_cons, List.nodup_nil, List.mem_cons, List.not_mem_nil, not_false_eq_true, or_false, List.append_nil, mkO, setO_mk, List.mem_singleton]) (by simp [SV.tr, SV.trL])
  | some v =>
    rw [hl] at hlook
    refine is.go hm hΓ k_nOf o_nOf (by simp [a_nOf]) ?_
    simp only [a_nOf, h_tripleOf, c_tripleOf, h1, h2, ht, hko, hlook, hp3, lookA, esOf, keyA, ints_isInt, ints_len, isI_ints, ofI_ints, Option.map_some, List.zipIdx_cons, List.zipIdx_nil, ↓SP, SQ, Gam.add, stepM, callC, argC, lendO, nmBy, nmC, likeL, likeB, plainOb, offs, X, F, trP, trO, stepD, stepW, newA, SV.tr, SV.trL, fz, allP, Ob.tr, loadA, cellsA, SV.cells, binA, binI, eqOut, isSl, isPt, natOf, callee, snap, SV.refsL, SV.refs, thaw, fzAll, loA, hiA, elemOf, partsA, buildA, putCells, ↓reduceIte, reduceCtorEq, okCell, Nat.reduceAdd, Nat.reduceEqDiff, Nat.reduceSub, Nat.reduceMul, Nat.reduceLeDiff, Nat.reduceLT, Nat.reduceBEq, PV.scal, PV.scalL, SV.scal, SV.scalL, Ob.scal, PV.isCell, pure', resO]
    exact finA_val (by simp [retA, rvA, List.mapM_cons, List.mapM_nil, Option.pure_def, Option.bind_eq_bind, Option.bind_some, Option.map_some, mkE_cons, mk_nil, mkO_cons, mkO_nil, loadA, ↓reduceIte, List.take_succ_cons, List.take_zero, List.drop_zero, List.drop_succ_cons, List.length_cons, List.length_nil, Nat.reduceAdd, Nat.reduceEqDiff, Nat.reduceLeDiff, Nat.zero_add, Nat.le_refl, reduceCtorEq, SV.tr, SV.trL, nmF, rn_nil, rn_cons1, rn_cons2, List.map_cons, List.map_nil, List.all_cons, List.all_nil, plainOb, SV.refsL, SV.refs, Ob.refs, X, F, List.range_succ, List.range_zero, List.nil_append, List.cons_append, List.isEmpty_nil, decide_true, Nat.reduceLT, Bool.and_self, Bool.and_true, and_self, and_true, List.getElem?_cons_zero, List.getElem?_cons_succ, List.nodup_cons, List.nodup_nil, List.mem_cons, List.not_mem_nil, not_false_eq_true, or_false, List.append_nil, mkO, setO_mk, List.mem_singleton]) (by simp [SV.tr, SV.trL])
def a_isTold (f_sumC : FuncId) : AFn := ⟨1, 
  .seq (.reg [⟨some 2, none, .d (.mv (.c (.bool false)))⟩])
  (.seq (.reg [⟨some 3, none, .d (.mv (.t 0))⟩,
    ⟨some 4, none, .d (.call (.f f_sumC) [(.t 3)])⟩,
    ⟨some 5, none, .d (.bin .arith .leq (.t 4) (.c (.int .i64 1)))⟩,
    ⟨some 2, none, .d (.mv (.t 5))⟩])
  (.ret)), [.tmp 2]⟩
def n_isTold : Nat → Option Ann := fun _ => none
abbrev k_isTold : List Nat := [0, 2]
abbrev o_isTold : List Nat := []
def c_isTold : Con := pure' fun
  | [.p (.sl 1 c_)] => if isI c_ = true ∧ ((ofI c_).length ≤ 3 ∧ in8 (ofI c_) = true) then some (.p (.bool (told (ofI c_))), []) else none
  | _ => none
theorem s_isTold {P : Program} (hm : P.follows .mixedOrders = true) {Γ : Gam} (hΓ : GS P Γ) {n : FuncId} {f_sumC : FuncId} (is : Is P n (a_isTold f_sumC)) (h_sumC : Γ f_sumC = c_sumC)  : Says P n c_isTold := by
  refine Says.pure fun args r fs h => ?_
  split at h
  case h_2 => cases h
  rename_i c_
  split at h
  case isFalse => cases h
  rename_i hc
  obtain ⟨hc_, hc⟩ := hc
  obtain ⟨c, rfl⟩ := isI_out hc_
  simp only [ofI_ints, ofBo_bools, ofAs_asks, Option.some.injEq, Prod.mk.injEq] at h hc
  obtain ⟨rfl, rfl⟩ := h
  refine is.go hm hΓ k_isTold o_isTold (by simp [a_isTold]) ?_
  simp only [a_isTold, h_sumC, c_sumC, hc, List.zipIdx_cons, List.zipIdx_nil, ↓SP, SQ, Gam.add, stepM, callC, argC, lendO, nmBy, nmC, likeL, likeB, plainOb, offs, X, F, trP, trO, stepD, stepW, newA, SV.tr, SV.trL, fz, allP, Ob.tr, loadA, cellsA, SV.cells, binA, binI, eqOut, isSl, isPt, natOf, callee, snap, SV.refsL, SV.refs, thaw, fzAll, loA, hiA, elemOf, partsA, buildA, putCells, ↓reduceIte, reduceCtorEq, okCell, Nat.reduceAdd, Nat.reduceEqDiff, Nat.reduceSub, Nat.reduceMul, Nat.reduceLeDiff, Nat.reduceLT, Nat.reduceBEq, PV.scal, PV.scalL, SV.scal, SV.scalL, Ob.scal, PV.isCell, pure', resO]
  exact finA_val (by simp [told, retA, rvA, List.mapM_cons, List.mapM_nil, Option.pure_def, Option.bind_eq_bind, Option.bind_some, Option.map_some, mkE_cons, mk_nil, mkO_cons, mkO_nil, loadA, ↓reduceIte, List.take_succ_cons, List.take_zero, List.drop_zero, List.drop_succ_cons, List.length_cons, List.length_nil, Nat.reduceAdd, Nat.reduceEqDiff, Nat.reduceLeDiff, Nat.zero_add, Nat.le_refl, reduceCtorEq, SV.tr, SV.trL, nmF, rn_nil, rn_cons1, rn_cons2, List.map_cons, List.map_nil, List.all_cons, List.all_nil, plainOb, SV.refsL, SV.refs, Ob.refs, X, F, List.range_succ, List.range_zero, List.nil_append, List.cons_append, List.isEmpty_nil, decide_true, Nat.reduceLT, Bool.and_self, Bool.and_true, and_self, and_true, List.getElem?_cons_zero, List.getElem?_cons_succ, List.nodup_cons, List.nodup_nil, List.mem_cons, List.not_mem_nil, not_false_eq_true, or_false, List.append_nil, mkO, setO_mk, List.mem_singleton]) (by simp [SV.tr, SV.trL])
def a_isUntold (f_AreCounts : FuncId) (f_isTold : FuncId) : AFn := ⟨1, 
  .seq (.reg [⟨some 2, none, .d (.mv (.c (.bool false)))⟩])
  (.seq (.reg [⟨some 3, none, .d (.mv (.t 0))⟩,
    ⟨some 4, none, .d (.call (.f f_AreCounts) [(.t 3)])⟩,
    ⟨some 5, none, .d (.mv (.t 4))⟩,
    ⟨some 6, some (5, true), .d (.mv (.t 0))⟩,
    ⟨some 7, some (5, true), .d (.call (.f f_isTold) [(.t 6)])⟩,
    ⟨some 8, some (5, true), .d (.not (.t 7))⟩,
    ⟨some 9, none, .d (.pick (.t 5) (.t 8) (.c (.bool false)))⟩,
    ⟨some 2, none, .d (.mv (.t 9))⟩])
  (.ret)), [.tmp 2]⟩
def n_isUntold : Nat → Option Ann := fun _ => none
abbrev k_isUntold : List Nat := [0, 2]
abbrev o_isUntold : List Nat := []
def c_isUntold : Con := pure' fun
  | [.p (.sl 1 c_)] => if isI c_ = true ∧ ((ofI c_).length ≤ 1100000) then some (.p (.bool (okC (ofI c_) && !told (ofI c_))), []) else none
  | _ => none
theorem s_isUntold {P : Program} (hm : P.follows .mixedOrders = true) {Γ : Gam} (hΓ : GS P Γ) {n : FuncId} {f_AreCounts : FuncId} {f_isTold : FuncId} (is : Is P n (a_isUntold f_AreCounts f_isTold)) (h_AreCounts : Γ f_AreCounts = c_AreCounts) (h_isTold : Γ f_isTold = c_isTold)  : Says P n c_isUntold := by
  refine Says.pure fun args r fs h => ?_
  split at h
  case h_2 => cases h
  rename_i c_
  split at h
  case isFalse => cases h
  rename_i hc
  obtain ⟨hc_, hc⟩ := hc
  obtain ⟨c, rfl⟩ := isI_out hc_
  simp only [ofI_ints, ofBo_bools, ofAs_asks, Option.some.injEq, Prod.mk.injEq] at h hc
  obtain ⟨rfl, rfl⟩ := h
  cases h1 : okC c with
  | false =>
    refine is.go hm hΓ k_isUntold o_isUntold (by simp [a_isUntold]) ?_
    simp only [a_isUntold, h_AreCounts, c_AreCounts, h_isTold, c_isTold, hc, h1, List.zipIdx_cons, List.zipIdx_nil, ↓SP, SQ, Gam.add, stepM, callC, argC, lendO, nmBy, nmC, likeL, likeB, plainOb, offs, X, F, trP, trO, stepD, stepW, newA, SV.tr, SV.trL, fz, allP, Ob.tr, loadA, cellsA, SV.cells, binA, binI, eqOut, isSl, isPt, natOf, callee, snap, SV.refsL, SV.refs, thaw, fzAll, loA, hiA, elemOf, partsA, buildA, putCells, ↓reduceIte, reduceCtorEq, okCell, Nat.reduceAdd, Nat.reduceEqDiff, Nat.reduceSub, Nat.reduceMul, Nat.reduceLeDiff, Nat.reduceLT, Nat.reduceBEq, PV.scal, PV.scalL, SV.scal, SV.scalL, Ob.scal, PV.isCell, pure', resO]
    exact finA_val (by simp [retA, rvA, List.mapM_cons, List.mapM_nil, Option.pure_def, Option.bind_eq_bind, Option.bind_some, Option.map_some, mkE_cons, mk_nil, mkO_cons, mkO_nil, loadA, ↓reduceIte, List.take_succ_cons, List.take_zero, List.drop_zero, List.drop_succ_cons, List.length_cons, List.length_nil, Nat.reduceAdd, Nat.reduceEqDiff, Nat.reduceLeDiff, Nat.zero_add, Nat.le_refl, reduceCtorEq, SV.tr, SV.trL, nmF, rn_nil, rn_cons1, rn_cons2, List.map_cons, List.map_nil, List.all_cons, List.all_nil, plainOb, SV.refsL, SV.refs, Ob.refs, X, F, List.range_succ, List.range_zero, List.nil_append, List.cons_append, List.isEmpty_nil, decide_true, Nat.reduceLT, Bool.and_self, Bool.and_true, and_self, and_true, List.getElem?_cons_zero, List.getElem?_cons_succ, List.nodup_cons, List.nodup_nil, List.mem_cons, List.not_mem_nil, not_false_eq_true, or_false, List.append_nil, mkO, setO_mk, List.mem_singleton]) (by simp [SV.tr, SV.trL])
  | true =>
    obtain ⟨⟨_, h2⟩, h3, _⟩ := okC_out h1
    refine is.go hm hΓ k_isUntold o_isUntold (by simp [a_isUntold]) ?_
    simp only [a_isUntold, h_AreCounts, c_AreCounts, h_isTold, c_isTold, hc, h1, h2, h3, List.zipIdx_cons, List.zipIdx_nil, ↓SP, SQ, Gam.add, stepM, callC, argC, lendO, nmBy, nmC, likeL, likeB, plainOb, offs, X, F, trP, trO, stepD, stepW, newA, SV.tr, SV.trL, fz, allP, Ob.tr, loadA, cellsA, SV.cells, binA, binI, eqOut, isSl, isPt, natOf, callee, snap, SV.refsL, SV.refs, thaw, fzAll, loA, hiA, elemOf, partsA, buildA, putCells, ↓reduceIte, reduceCtorEq, okCell, Nat.reduceAdd, Nat.reduceEqDiff, Nat.reduceSub, Nat.reduceMul, Nat.reduceLeDiff, Nat.reduceLT, Nat.reduceBEq, PV.scal, PV.scalL, SV.scal, SV.scalL, Ob.scal, PV.isCell, pure', resO]
    exact finA_val (by simp [retA, rvA, List.mapM_cons, List.mapM_nil, Option.pure_def, Option.bind_eq_bind, Option.bind_some, Option.map_some, mkE_cons, mk_nil, mkO_cons, mkO_nil, loadA, ↓reduceIte, List.take_succ_cons, List.take_zero, List.drop_zero, List.drop_succ_cons, List.length_cons, List.length_nil, Nat.reduceAdd, Nat.reduceEqDiff, Nat.reduceLeDiff, Nat.zero_add, Nat.le_refl, reduceCtorEq, SV.tr, SV.trL, nmF, rn_nil, rn_cons1, rn_cons2, List.map_cons, List.map_nil, List.all_cons, List.all_nil, plainOb, SV.refsL, SV.refs, Ob.refs, X, F, List.range_succ, List.range_zero, List.nil_append, List.cons_append, List.isEmpty_nil, decide_true, Nat.reduceLT, Bool.and_self, Bool.and_true, and_self, and_true, List.getElem?_cons_zero, List.getElem?_cons_succ, List.nodup_cons, List.nodup_nil, List.mem_cons, List.not_mem_nil, not_false_eq_true, or_false, List.append_nil, mkO, setO_mk, List.mem_singleton]) (by simp [SV.tr, SV.trL])
def a_l4Told : AFn := ⟨1, 
  .seq (.reg [⟨some 2, none, .d (.mv (.c (.bool false)))⟩])
  (.seq (.reg [⟨some 3, none, .d (.mv (.c (.int .i64 0)))⟩])
  (.seq (.seq (.reg [⟨some 4, none, .d (.mv (.c (.int .i64 0)))⟩])
  (.block 0 (.loop (.seq (.seq (.reg [⟨some 5, none, .d (.mv (.t 4))⟩,
      ⟨some 6, none, .d (.mv (.t 0))⟩,
      ⟨some 7, none, .d (.len (.t 6))⟩,
      ⟨some 8, none, .d (.bin .arith .lss (.t 5) (.t 7))⟩])
    (.cond (.t 8) (.skip) (.exit 0)))
    (.seq (.block 1 (.reg [⟨some 11, none, .d (.mv (.t 3))⟩,
       ⟨some 12, none, .d (.mv (.t 0))⟩,
       ⟨some 13, none, .d (.mv (.t 4))⟩,
       ⟨some 14, none, .d (.ia 1 (.t 12) (.t 13))⟩,
       ⟨some 15, none, .d (.load false 1 (.t 14))⟩,
       ⟨some 16, none, .d (.bin .arith .add (.t 11) (.t 15))⟩,
       ⟨some 3, none, .d (.mv (.t 16))⟩]))
    (.reg [⟨some 9, none, .d (.mv (.t 4))⟩,
      ⟨some 10, none, .d (.bin .arith .add (.t 9) (.c (.int .i64 1)))⟩,
      ⟨some 4, none, .d (.mv (.t 10))⟩]))))))
  (.seq (.reg [⟨some 17, none, .d (.mv (.t 3))⟩,
    ⟨some 18, none, .d (.bin .arith .leq (.t 17) (.c (.int .i64 1)))⟩,
    ⟨some 2, none, .d (.mv (.t 18))⟩])
  (.ret)))), [.tmp 2]⟩
def n_l4Told : Nat → Option Ann := fun _ => none
abbrev k_l4Told : List Nat := [0, 2, 3, 4, 8]
abbrev o_l4Told : List Nat := []
theorem s_l4Told {P : Program} (hm : P.follows .mixedOrders = true) {Γ : Gam} (hΓ : GS P Γ) {n : FuncId} (is : Is P n a_l4Told)  : Says P n c_isTold := by
  refine Says.pure fun args r fs h => ?_
  split at h
  case h_2 => cases h
  rename_i c_
  split at h
  case isFalse => cases h
  rename_i hc
  obtain ⟨hc_, hc⟩ := hc
  obtain ⟨c, rfl⟩ := isI_out hc_
  simp only [ofI_ints, ofBo_bools, ofAs_asks, Option.some.injEq, Prod.mk.injEq] at h hc
  obtain ⟨rfl, rfl⟩ := h
  obtain ⟨hl3, h8⟩ := hc
  refine is.go hm hΓ k_l4Told o_l4Told (by simp [a_l4Told]) ?_
  simp only [a_l4Told, List.zipIdx_cons, List.zipIdx_nil, ↓SP, SQ, Gam.add, stepM, callC, argC, lendO, nmBy, nmC, likeL, likeB, plainOb, offs, X, F, trP, trO, stepD, stepW, newA, SV.tr, SV.trL, fz, allP, Ob.tr, loadA, cellsA, SV.cells, binA, binI, eqOut, isSl, isPt, natOf, callee, snap, SV.refsL, SV.refs, thaw, fzAll, loA, hiA, elemOf, partsA, buildA, putCells, ↓reduceIte, reduceCtorEq, okCell, Nat.reduceAdd, Nat.reduceEqDiff, Nat.reduceSub, Nat.reduceMul, Nat.reduceLeDiff, Nat.reduceLT, Nat.reduceBEq, PV.scal, PV.scalL, SV.scal, SV.scalL, Ob.scal, PV.isCell, pure', resO]
  refine loop_at (fun s : Nat × SV => mkEnv [(0, .p (.sl 1 (ints c))), (2, sb false), (3, si (c.take s.1).sum), (4, si s.1), (8, s.2)]) (fun s => mkO []) (fun s => s.1 ≤ c.length) (fun s => c.length - s.1) (0, .junk) (by simp) rfl rfl ?_
  rintro ⟨i, c1⟩ hi R hR hN
  simp only at hi
  by_cases h : i < c.length
  · have h1 : (i : Int) < c.length := by omega
    have hw := wrap_one (i := i) (by omega)
    have hg := ints_get h
    have hb := sum_bd h8 (i + 1) (by omega)
    rw [sum_step c h] at hb
    have hws : IntKind.i64.wrap ((c.take i).sum + c.getD i 0) = (c.take (i + 1)).sum := by rw [sum_step c h]; exact wrap64 (by omega) (by omega)
    simp only [h1, hw, hg, hws, ↓SP, SQ, Gam.add, stepM, callC, argC, lendO, nmBy, nmC, likeL, likeB, plainOb, offs, X, F, trP, trO, stepD, stepW, newA, SV.tr, SV.trL, fz, allP, Ob.tr, loadA, cellsA, SV.cells, binA, binI, eqOut, isSl, isPt, natOf, callee, snap, SV.refsL, SV.refs, thaw, fzAll, loA, hiA, elemOf, partsA, buildA, putCells, ↓reduceIte, reduceCtorEq, okCell, Nat.reduceAdd, Nat.reduceEqDiff, Nat.reduceSub, Nat.reduceMul, Nat.reduceLeDiff, Nat.reduceLT, Nat.reduceBEq, PV.scal, PV.scalL, SV.scal, SV.scalL, Ob.scal, PV.isCell, pure', resO]
    exact hN (i + 1, _) _ _ (by simp only; omega) (by simp only; omega) rfl rfl
  · have he : i = c.length := by omega
    have h1 : ¬ (i : Int) < c.length := by omega
    simp only [h1, ↓SP, SQ, Gam.add, stepM, callC, argC, lendO, nmBy, nmC, likeL, likeB, plainOb, offs, X, F, trP, trO, stepD, stepW, newA, SV.tr, SV.trL, fz, allP, Ob.tr, loadA, cellsA, SV.cells, binA, binI, eqOut, isSl, isPt, natOf, callee, snap, SV.refsL, SV.refs, thaw, fzAll, loA, hiA, elemOf, partsA, buildA, putCells, ↓reduceIte, reduceCtorEq, okCell, Nat.reduceAdd, Nat.reduceEqDiff, Nat.reduceSub, Nat.reduceMul, Nat.reduceLeDiff, Nat.reduceLT, Nat.reduceBEq, PV.scal, PV.scalL, SV.scal, SV.scalL, Ob.scal, PV.isCell, pure', resO]
    refine hR _ _ _ (by intro h; cases h) ?_
    simp only [↓SP, SQ, Gam.add, stepM, callC, argC, lendO, nmBy, nmC, likeL, likeB, plainOb, offs, X, F, trP, trO, stepD, stepW, newA, SV.tr, SV.trL, fz, allP, Ob.tr, loadA, cellsA, SV.cells, binA, binI, eqOut, isSl, isPt, natOf, callee, snap, SV.refsL, SV.refs, thaw, fzAll, loA, hiA, elemOf, partsA, buildA, putCells, ↓reduceIte, reduceCtorEq, okCell, Nat.reduceAdd, Nat.reduceEqDiff, Nat.reduceSub, Nat.reduceMul, Nat.reduceLeDiff, Nat.reduceLT, Nat.reduceBEq, PV.scal, PV.scalL, SV.scal, SV.scalL, Ob.scal, PV.isCell, pure', resO]
    subst he
    exact finA_val (by simp [told, List.take_length, retA, rvA, List.mapM_cons, List.mapM_nil, Option.pure_def, Option.bind_eq_bind, Option.bind_some, Option.map_some, mkE_cons, mk_nil, mkO_cons, mkO_nil, loadA, ↓reduceIte, List.take_succ_cons, List.take_zero, List.drop_zero, List.drop_succ_cons, List.length_cons, List.length_nil, Nat.reduceAdd, Nat.reduceEqDiff, Nat.reduceLeDiff, Nat.zero_add, Nat.le_refl, reduceCtorEq, SV.tr, SV.trL, nmF, rn_nil, rn_cons1, rn_cons2, List.map_cons, List.map_nil, List.all_cons, List.all_nil, plainOb, SV.refsL, SV.refs, Ob.refs, X, F, List.range_succ, List.range_zero, List.nil_append, List.cons_append, List.isEmpty_nil, decide_true, Nat.reduceLT, Bool.and_self, Bool.and_true, and_self, and_true, List.getElem?_cons_zero, List.getElem?_cons_succ, List.nodup_cons, List.nodup_nil, List.mem_cons, List.not_mem_nil, not_false_eq_true, or_false, List.append_nil, mkO, setO_mk, List.mem_singleton]) (by simp [SV.tr, SV.trL])
/-- A number that tells counts. -/
def keyI (c : List Int) : Nat → Int
  | 0 => 0
  | i + 1 => keyI c i * 9 + c.getD i 0
def keyL (c : List Int) : Int := keyI c c.length
theorem keyI_bd {c : List Int} (h8 : in8 c = true) : ∀ i, 0 ≤ keyI c i ∧ keyI c i < ((9 ^ i : Nat) : Int)
  | 0 => by simp [keyI]
  | i + 1 => by
    have ⟨h1, h2⟩ := keyI_bd h8 i
    have h3 := in8_get h8 i
    simp only [keyI, Nat.pow_succ]
    omega
def a_l4Key : AFn := ⟨1, 
  .seq (.reg [⟨some 2, none, .d (.mv (.c (.int .i64 0)))⟩])
  (.seq (.reg [⟨some 3, none, .d (.mv (.c (.int .i64 0)))⟩])
  (.seq (.seq (.reg [⟨some 4, none, .d (.mv (.c (.int .i64 0)))⟩])
  (.block 0 (.loop (.seq (.seq (.reg [⟨some 5, none, .d (.mv (.t 4))⟩,
      ⟨some 6, none, .d (.mv (.t 0))⟩,
      ⟨some 7, none, .d (.len (.t 6))⟩,
      ⟨some 8, none, .d (.bin .arith .lss (.t 5) (.t 7))⟩])
    (.cond (.t 8) (.skip) (.exit 0)))
    (.seq (.block 1 (.reg [⟨some 11, none, .d (.mv (.t 3))⟩,
       ⟨some 12, none, .d (.bin .arith .mul (.t 11) (.c (.int .i64 9)))⟩,
       ⟨some 13, none, .d (.mv (.t 0))⟩,
       ⟨some 14, none, .d (.mv (.t 4))⟩,
       ⟨some 15, none, .d (.ia 1 (.t 13) (.t 14))⟩,
       ⟨some 16, none, .d (.load false 1 (.t 15))⟩,
       ⟨some 17, none, .d (.bin .arith .add (.t 12) (.t 16))⟩,
       ⟨some 3, none, .d (.mv (.t 17))⟩]))
    (.reg [⟨some 9, none, .d (.mv (.t 4))⟩,
      ⟨some 10, none, .d (.bin .arith .add (.t 9) (.c (.int .i64 1)))⟩,
      ⟨some 4, none, .d (.mv (.t 10))⟩]))))))
  (.seq (.reg [⟨some 18, none, .d (.mv (.t 3))⟩,
    ⟨some 2, none, .d (.mv (.t 18))⟩])
  (.ret)))), [.tmp 2]⟩
def n_l4Key : Nat → Option Ann := fun _ => none
abbrev k_l4Key : List Nat := [0, 2, 3, 4, 8]
abbrev o_l4Key : List Nat := []
def c_l4Key : Con := pure' fun
  | [.p (.sl 1 c_)] => if isI c_ = true ∧ ((ofI c_).length ≤ 3 ∧ in8 (ofI c_) = true) then some (.p (.int .i64 (keyL (ofI c_))), []) else none
  | _ => none
theorem pow9 {i : Nat} (h : i ≤ 3) : 9 ^ i ≤ 729 := by
  match i, h with
  | 0, _ | 1, _ | 2, _ | 3, _ => omega
theorem s_l4Key {P : Program} (hm : P.follows .mixedOrders = true) {Γ : Gam} (hΓ : GS P Γ) {n : FuncId} (is : Is P n a_l4Key)  : Says P n c_l4Key := by
  refine Says.pure fun args r fs h => ?_
  split at h
  case h_2 => cases h
  rename_i c_
  split at h
  case isFalse => cases h
  rename_i hc
  obtain ⟨hc_, hc⟩ := hc
  obtain ⟨c, rfl⟩ := isI_out hc_
  simp only [ofI_ints, ofBo_bools, ofAs_asks, Option.some.injEq, Prod.mk.injEq] at h hc
  obtain ⟨rfl, rfl⟩ := h
  obtain ⟨hl3, h8⟩ := hc
  refine is.go hm hΓ k_l4Key o_l4Key (by simp [a_l4Key]) ?_
  simp only [a_l4Key, List.zipIdx_cons, List.zipIdx_nil, ↓SP, SQ, Gam.add, stepM, callC, argC, lendO, nmBy, nmC, likeL, likeB, plainOb, offs, X, F, trP, trO, stepD, stepW, newA, SV.tr, SV.trL, fz, allP, Ob.tr, loadA, cellsA, SV.cells, binA, binI, eqOut, isSl, isPt, natOf, callee, snap, SV.refsL, SV.refs, thaw, fzAll, loA, hiA, elemOf, partsA, buildA, putCells, ↓reduceIte, reduceCtorEq, okCell, Nat.reduceAdd, Nat.reduceEqDiff, Nat.reduceSub, Nat.reduceMul, Nat.reduceLeDiff, Nat.reduceLT, Nat.reduceBEq, PV.scal, PV.scalL, SV.scal, SV.scalL, Ob.scal, PV.isCell, pure', resO]
  refine loop_at (fun s : Nat × SV => mkEnv [(0, .p (.sl 1 (ints c))), (2, si 0), (3, si (keyI c s.1)), (4, si s.1), (8, s.2)]) (fun s => mkO []) (fun s => s.1 ≤ c.length) (fun s => c.length - s.1) (0, .junk) (by simp) rfl rfl ?_
  rintro ⟨i, c1⟩ hi R hR hN
  simp only at hi
  by_cases h : i < c.length
  · have h1 : (i : Int) < c.length := by omega
    have hw := wrap_one (i := i) (by omega)
    have hg := ints_get h
    have hb := keyI_bd h8 i
    have hp := pow9 (i := i) (by omega)
    have h3 := in8_get h8 i
    have hwm : IntKind.i64.wrap (keyI c i * 9) = keyI c i * 9 := wrap64 (by omega) (by omega)
    have hws : IntKind.i64.wrap (keyI c i * 9 + c.getD i 0) = keyI c (i + 1) := wrap64 (by omega) (by omega)
    simp only [h1, hw, hg, hwm, hws, ↓SP, SQ, Gam.add, stepM, callC, argC, lendO, nmBy, nmC, likeL, likeB, plainOb, offs, X, F, trP, trO, stepD, stepW, newA, SV.tr, SV.trL, fz, allP, Ob.tr, loadA, cellsA, SV.cells, binA, binI, eqOut, isSl, isPt, natOf, callee, snap, SV.refsL, SV.refs, thaw, fzAll, loA, hiA, elemOf, partsA, buildA, putCells, ↓reduceIte, reduceCtorEq, okCell, Nat.reduceAdd, Nat.reduceEqDiff, Nat.reduceSub, Nat.reduceMul, Nat.reduceLeDiff, Nat.reduceLT, Nat.reduceBEq, PV.scal, PV.scalL, SV.scal, SV.scalL, Ob.scal, PV.isCell, pure', resO]
    exact hN (i + 1, _) _ _ (by simp only; omega) (by simp only; omega) rfl rfl
  · have he : i = c.length := by omega
    have h1 : ¬ (i : Int) < c.length := by omega
    simp only [h1, ↓SP, SQ, Gam.add, stepM, callC, argC, lendO, nmBy, nmC, likeL, likeB, plainOb, offs, X, F, trP, trO, stepD, stepW, newA, SV.tr, SV.trL, fz, allP, Ob.tr, loadA, cellsA, SV.cells, binA, binI, eqOut, isSl, isPt, natOf, callee, snap, SV.refsL, SV.refs, thaw, fzAll, loA, hiA, elemOf, partsA, buildA, putCells, ↓reduceIte, reduceCtorEq, okCell, Nat.reduceAdd, Nat.reduceEqDiff, Nat.reduceSub, Nat.reduceMul, Nat.reduceLeDiff, Nat.reduceLT, Nat.reduceBEq, PV.scal, PV.scalL, SV.scal, SV.scalL, Ob.scal, PV.isCell, pure', resO]
    refine hR _ _ _ (by intro h; cases h) ?_
    simp only [↓SP, SQ, Gam.add, stepM, callC, argC, lendO, nmBy, nmC, likeL, likeB, plainOb, offs, X, F, trP, trO, stepD, stepW, newA, SV.tr, SV.trL, fz, allP, Ob.tr, loadA, cellsA, SV.cells, binA, binI, eqOut, isSl, isPt, natOf, callee, snap, SV.refsL, SV.refs, thaw, fzAll, loA, hiA, elemOf, partsA, buildA, putCells, ↓reduceIte, reduceCtorEq, okCell, Nat.reduceAdd, Nat.reduceEqDiff, Nat.reduceSub, Nat.reduceMul, Nat.reduceLeDiff, Nat.reduceLT, Nat.reduceBEq, PV.scal, PV.scalL, SV.scal, SV.scalL, Ob.scal, PV.isCell, pure', resO]
    subst he
    exact finA_val (by simp [keyL, retA, rvA, List.mapM_cons, List.mapM_nil, Option.pure_def, Option.bind_eq_bind, Option.bind_some, Option.map_some, mkE_cons, mk_nil, mkO_cons, mkO_nil, loadA, ↓reduceIte, List.take_succ_cons, List.take_zero, List.drop_zero, List.drop_succ_cons, List.length_cons, List.length_nil, Nat.reduceAdd, Nat.reduceEqDiff, Nat.reduceLeDiff, Nat.zero_add, Nat.le_refl, reduceCtorEq, SV.tr, SV.trL, nmF, rn_nil, rn_cons1, rn_cons2, List.map_cons, List.map_nil, List.all_cons, List.all_nil, plainOb, SV.refsL, SV.refs, Ob.refs, X, F, List.range_succ, List.range_zero, List.nil_append, List.cons_append, List.isEmpty_nil, decide_true, Nat.reduceLT, Bool.and_self, Bool.and_true, and_self, and_true, List.getElem?_cons_zero, List.getElem?_cons_succ, List.nodup_cons, List.nodup_nil, List.mem_cons, List.not_mem_nil, not_false_eq_true, or_false, List.append_nil, mkO, setO_mk, List.mem_singleton]) (by simp [SV.tr, SV.trL])
/-- The counts of a number. -/
def dg (key : Nat) : Nat → List Int
  | 0 => []
  | j + 1 => ((key / 9 ^ j % 9 : Nat) : Int) :: dg key j
theorem dg_len (key : Nat) : ∀ j, (dg key j).length = j
  | 0 => rfl
  | j + 1 => by simp [dg, dg_len key j]
theorem dg_in8 (key : Nat) : ∀ j, in8 (dg key j) = true
  | 0 => rfl
  | j + 1 => by
    have := dg_in8 key j
    simp only [in8] at this
    simp only [dg, in8, List.all_cons, this, Bool.and_true, Bool.and_eq_true, decide_eq_true_eq]
    omega
theorem dg_set (key p i : Nat) (h : i < p) : (List.replicate (p - i) (0 : Int) ++ dg key i).set (p - 1 - i) ((key / 9 ^ i % 9 : Nat) : Int) = List.replicate (p - (i + 1)) 0 ++ dg key (i + 1) := by
  have e : p - i = (p - (i + 1)) + 1 := by omega
  have e2 : p - 1 - i = p - (i + 1) := by omega
  rw [e, e2, List.replicate_succ', List.append_assoc, List.set_append_right _ _ (by simp)]
  simp [dg]
theorem tmod9 (k : Nat) : ((k : Nat) : Int).tmod 9 = ((k % 9 : Nat) : Int) := rfl
theorem tdiv9 (k : Nat) : ((k : Nat) : Int).tdiv 9 = ((k / 9 : Nat) : Int) := rfl
def a_l4Counted : AFn := ⟨2, 
  .seq (.reg [⟨some 4, none, .d (.mv (.c (.nilsl)))⟩])
  (.seq (.reg [⟨some 7, none, .d (.mv (.t 1))⟩,
    ⟨some 8, none, .w (.mkslice 1 (.int .i64 0) (.t 7))⟩,
    ⟨some 5, none, .d (.mv (.t 8))⟩])
  (.seq (.seq (.reg [⟨some 9, none, .d (.mv (.t 1))⟩,
    ⟨some 10, none, .d (.bin .arith .sub (.t 9) (.c (.int .i64 1)))⟩,
    ⟨some 6, none, .d (.mv (.t 10))⟩])
  (.block 0 (.loop (.seq (.seq (.reg [⟨some 11, none, .d (.mv (.t 6))⟩,
      ⟨some 12, none, .d (.bin .arith .geq (.t 11) (.c (.int .i64 0)))⟩])
    (.cond (.t 12) (.skip) (.exit 0)))
    (.seq (.block 1 (.seq (.reg [⟨some 15, none, .d (.mv (.t 5))⟩,
       ⟨some 16, none, .d (.mv (.t 6))⟩,
       ⟨some 17, none, .d (.mv (.t 0))⟩,
       ⟨some 18, none, .d (.bin .arith .rem (.t 17) (.c (.int .i64 9)))⟩,
       ⟨some 19, none, .d (.ia 1 (.t 15) (.t 16))⟩,
       ⟨none, none, .w (.store 1 (.t 19) (.t 18))⟩])
     (.reg [⟨some 20, none, .d (.mv (.t 0))⟩,
       ⟨some 21, none, .d (.bin .arith .quo (.t 20) (.c (.int .i64 9)))⟩,
       ⟨some 0, none, .d (.mv (.t 21))⟩])))
    (.reg [⟨some 13, none, .d (.mv (.t 6))⟩,
      ⟨some 14, none, .d (.bin .arith .sub (.t 13) (.c (.int .i64 1)))⟩,
      ⟨some 6, none, .d (.mv (.t 14))⟩]))))))
  (.seq (.reg [⟨some 22, none, .d (.mv (.t 5))⟩,
    ⟨some 4, none, .d (.mv (.t 22))⟩])
  (.ret)))), [.tmp 4]⟩
def n_l4Counted : Nat → Option Ann := fun _ => none
abbrev k_l4Counted : List Nat := [0, 1, 4, 5, 6, 12]
abbrev o_l4Counted : List Nat := [8]
def c_l4Counted : Con := pure' fun
  | [.p (.int .i64 key), .p (.int .i64 p)] => if (0 ≤ key ∧ key ≤ 1000000 ∧ 0 ≤ p ∧ p ≤ 3) then some (.ar 2000000, [.arr 1 (ints (dg key.toNat p.toNat))]) else none
  | _ => none
theorem s_l4Counted {P : Program} (hm : P.follows .mixedOrders = true) {Γ : Gam} (hΓ : GS P Γ) {n : FuncId} (is : Is P n a_l4Counted)  : Says P n c_l4Counted := by
  refine Says.pure fun args r fs h => ?_
  split at h
  case h_2 => cases h
  rename_i key p
  split at h
  case isFalse => cases h
  rename_i hc
  simp only [ofI_ints, ofBo_bools, ofAs_asks, Option.some.injEq, Prod.mk.injEq] at h hc
  obtain ⟨rfl, rfl⟩ := h
  obtain ⟨hk0, hk1, hp0, hp3⟩ := hc
  obtain ⟨key, rfl⟩ : ∃ j : Nat, key = j := ⟨key.toNat, by omega⟩
  obtain ⟨p, rfl⟩ : ∃ j : Nat, p = j := ⟨p.toNat, by omega⟩
  simp only [Int.toNat_natCast]
  have hroom : p ≤ roomA := by unfold roomA; omega
  have hp00 : (0 : Int) ≤ (p : Int) := by omega
  have hw0 : IntKind.i64.wrap ((p : Int) - 1) = (p : Int) - 1 := wrap64 (by omega) (by omega)
  refine is.go hm hΓ k_l4Counted o_l4Counted (by simp [a_l4Counted]) ?_
  simp only [a_l4Counted, hroom, hp00, hw0, Int.toNat_natCast, ints_rep, List.zipIdx_cons, List.zipIdx_nil, ↓SP, SQ, Gam.add, stepM, callC, argC, lendO, nmBy, nmC, likeL, likeB, plainOb, offs, X, F, trP, trO, stepD, stepW, newA, SV.tr, SV.trL, fz, allP, Ob.tr, loadA, cellsA, SV.cells, binA, binI, eqOut, isSl, isPt, natOf, callee, snap, SV.refsL, SV.refs, thaw, fzAll, loA, hiA, elemOf, partsA, buildA, putCells, ↓reduceIte, reduceCtorEq, okCell, Nat.reduceAdd, Nat.reduceEqDiff, Nat.reduceSub, Nat.reduceMul, Nat.reduceLeDiff, Nat.reduceLT, Nat.reduceBEq, PV.scal, PV.scalL, SV.scal, SV.scalL, Ob.scal, PV.isCell, pure', resO]
  refine loop_at (fun s : Nat × SV => mkEnv [(0, si ((key / 9 ^ s.1 : Nat) : Int)), (1, si p), (4, .p .nilsl), (5, .ar 8), (6, si ((p : Int) - 1 - s.1)), (12, s.2)]) (fun s => mkO [(8, some (.arr 1 (ints (List.replicate (p - s.1) 0 ++ dg key s.1))))]) (fun s => s.1 ≤ p) (fun s => p - s.1) (0, .junk) (by simp) (by simp) (by simp [dg]) ?_
  rintro ⟨i, c1⟩ hi R hR hN
  simp only at hi
  by_cases h : i < p
  · have h1 : (p : Int) - 1 - i ≥ 0 := by omega
    have h1' : (0 : Int) ≤ (p : Int) - 1 - i := h1
    have hn : ((p : Int) - 1 - i).toNat = p - 1 - i := by omega
    have hlen : (List.replicate (p - i) (0 : Int) ++ dg key i).length = p := by simp [dg_len]; omega
    have hlt : p - 1 - i < p := by omega
    have hle := Nat.div_le_self key (9 ^ i)
    have hwq : IntKind.i64.wrap ((key / 9 ^ i / 9 : Nat) : Int) = ((key / 9 ^ (i + 1) : Nat) : Int) := by
      have e9 : 9 ^ i * 9 = 9 ^ (i + 1) := (Nat.pow_succ 9 i).symm
      rw [Nat.div_div_eq_div_mul, e9]
      have hz := Nat.div_le_self key (9 ^ (i + 1))
      generalize key / 9 ^ (i + 1) = z at hz
      exact wrap64 (by omega) (by omega)
    have hwi : IntKind.i64.wrap ((p : Int) - 1 - i - 1) = (p : Int) - 1 - ((i + 1 : Nat) : Int) := by rw [wrap64 (by omega) (by omega)]; omega
    have hset := dg_set key p i h
    obtain ⟨e, he⟩ : ∃ e, (ints (List.replicate (p - i) (0 : Int) ++ dg key i))[p - 1 - i]? = some e := ⟨_, List.getElem?_eq_getElem (by rw [ints_len, hlen]; exact hlt)⟩
    simp only [h1, h1', hn, hlen, hlt, he, tmod9, tdiv9, hwq, hwi, ints_len, ints_set, hset, Int.reduceEq, ↓SP, SQ, Gam.add, stepM, callC, argC, lendO, nmBy, nmC, likeL, likeB, plainOb, offs, X, F, trP, trO, stepD, stepW, newA, SV.tr, SV.trL, fz, allP, Ob.tr, loadA, cellsA, SV.cells, binA, binI, eqOut, isSl, isPt, natOf, callee, snap, SV.refsL, SV.refs, thaw, fzAll, loA, hiA, elemOf, partsA, buildA, putCells, ↓reduceIte, reduceCtorEq, okCell, Nat.reduceAdd, Nat.reduceEqDiff, Nat.reduceSub, Nat.reduceMul, Nat.reduceLeDiff, Nat.reduceLT, Nat.reduceBEq, PV.scal, PV.scalL, SV.scal, SV.scalL, Ob.scal, PV.isCell, pure', resO]
    exact hN (i + 1, _) _ _ (by simp only; omega) (by simp only; omega) rfl rfl
  · have he : i = p := by omega
    have h1 : ¬ (p : Int) - 1 - i ≥ 0 := by omega
    simp only [h1, ↓SP, SQ, Gam.add, stepM, callC, argC, lendO, nmBy, nmC, likeL, likeB, plainOb, offs, X, F, trP, trO, stepD, stepW, newA, SV.tr, SV.trL, fz, allP, Ob.tr, loadA, cellsA, SV.cells, binA, binI, eqOut, isSl, isPt, natOf, callee, snap, SV.refsL, SV.refs, thaw, fzAll, loA, hiA, elemOf, partsA, buildA, putCells, ↓reduceIte, reduceCtorEq, okCell, Nat.reduceAdd, Nat.reduceEqDiff, Nat.reduceSub, Nat.reduceMul, Nat.reduceLeDiff, Nat.reduceLT, Nat.reduceBEq, PV.scal, PV.scalL, SV.scal, SV.scalL, Ob.scal, PV.isCell, pure', resO]
    refine hR _ _ _ (by intro h; cases h) ?_
    simp only [↓SP, SQ, Gam.add, stepM, callC, argC, lendO, nmBy, nmC, likeL, likeB, plainOb, offs, X, F, trP, trO, stepD, stepW, newA, SV.tr, SV.trL, fz, allP, Ob.tr, loadA, cellsA, SV.cells, binA, binI, eqOut, isSl, isPt, natOf, callee, snap, SV.refsL, SV.refs, thaw, fzAll, loA, hiA, elemOf, partsA, buildA, putCells, ↓reduceIte, reduceCtorEq, okCell, Nat.reduceAdd, Nat.reduceEqDiff, Nat.reduceSub, Nat.reduceMul, Nat.reduceLeDiff, Nat.reduceLT, Nat.reduceBEq, PV.scal, PV.scalL, SV.scal, SV.scalL, Ob.scal, PV.isCell, pure', resO]
    subst he
    have hfe : List.replicate (i - i) (0 : Int) ++ dg key i = dg key i := by simp
    refine finA_gen [8] trivial (by simp [retA, rvA, List.mapM_cons, List.mapM_nil, Option.pure_def, Option.bind_eq_bind, Option.bind_some, Option.map_some, mkE_cons, mk_nil, mkO_cons, mkO_nil, loadA, ↓reduceIte, List.take_succ_cons, List.take_zero, List.drop_zero, List.drop_succ_cons, List.length_cons, List.length_nil, Nat.reduceAdd, Nat.reduceEqDiff, Nat.reduceLeDiff, Nat.zero_add, Nat.le_refl, reduceCtorEq, SV.tr, SV.trL, nmF, rn_nil, rn_cons1, rn_cons2, List.map_cons, List.map_nil, List.all_cons, List.all_nil, plainOb, SV.refsL, SV.refs, Ob.refs, X, F, List.range_succ, List.range_zero, List.nil_append, List.cons_append, List.isEmpty_nil, decide_true, Nat.reduceLT, Bool.and_self, Bool.and_true, and_self, and_true, List.getElem?_cons_zero, List.getElem?_cons_succ, List.nodup_cons, List.nodup_nil, List.mem_cons, List.not_mem_nil, not_false_eq_true, or_false, List.append_nil, mkO, setO_mk, List.mem_singleton]; rfl) ?_ ?_ ?_ ?_ ?_ ?_ ?_ <;> simp [hfe, retA, rvA, List.mapM_cons, List.mapM_nil, Option.pure_def, Option.bind_eq_bind, Option.bind_some, Option.map_some, mkE_cons, mk_nil, mkO_cons, mkO_nil, loadA, ↓reduceIte, List.take_succ_cons, List.take_zero, List.drop_zero, List.drop_succ_cons, List.length_cons, List.length_nil, Nat.reduceAdd, Nat.reduceEqDiff, Nat.reduceLeDiff, Nat.zero_add, Nat.le_refl, reduceCtorEq, SV.tr, SV.trL, nmF, rn_nil, rn_cons1, rn_cons2, List.map_cons, List.map_nil, List.all_cons, List.all_nil, plainOb, SV.refsL, SV.refs, Ob.refs, X, F, List.range_succ, List.range_zero, List.nil_append, List.cons_append, List.isEmpty_nil, decide_true, Nat.reduceLT, Bool.and_self, Bool.and_true, and_self, and_true, List.getElem?_cons_zero, List.getElem?_cons_succ, List.nodup_cons, List.nodup_nil, List.mem_cons, List.not_mem_nil, not_false_eq_true, or_false, List.append_nil, mkO, setO_mk, List.mem_singleton]
end Go.Proofs.Ytmncbkkpchmjhaa.Pam
