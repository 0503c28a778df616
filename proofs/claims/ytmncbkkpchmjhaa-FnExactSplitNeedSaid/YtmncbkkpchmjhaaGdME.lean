/- A part of the proof that stands in this folder: a small machine whose steps are shown to be the steps of the model, or walks of functions by it. No condition of its own. -/
import Derived.Test.YtmncbkkpchmjhaaGdMD
set_option linter.unusedVariables false
set_option linter.unusedSimpArgs false
namespace Go.Proofs.Ytmncbkkpchmjhaa.Pam
open Go
def a_needs2 (f_ContainsT : FuncId) : AFn := ⟨2, 
  .seq (.reg [⟨some 2, none, .w (.box 3 (.t 0))⟩,
    ⟨some 3, none, .d (.mv (.c (.bool false)))⟩])
  (.seq (.reg [⟨some 4, none, .d (.load false 1 (.t 1))⟩,
    ⟨some 5, none, .d (.load true 3 (.t 2))⟩,
    ⟨some 6, none, .d (.call (.f f_ContainsT) [(.t 4), (.t 5)])⟩,
    ⟨some 3, none, .d (.mv (.t 6))⟩])
  (.ret)), [.tmp 3]⟩
def n_needs2 : Nat → Option Ann := fun _ => none
abbrev k_needs2 : List Nat := [0, 1, 2, 3]
abbrev o_needs2 : List Nat := [2]
def c_needs2 : Con := pure' fun
  | [.p (.agg [.int .i64 a, .int .i64 b, .int .i64 c]), .p (.cp [.sl 3 xs])] => if isG xs = true ∧ xs.length ≤ 1100000 then some (.p (.bool ((xs.map (isT [a, b, c])).any id)), []) else none
  | _ => none
theorem s_needs2 {P : Program} (hm : P.follows .mixedOrders = true) {Γ : Gam} (hΓ : GS P Γ) {n : FuncId} {f_ContainsT : FuncId} (is : Is P n (a_needs2 f_ContainsT)) (h_ContainsT : Γ f_ContainsT = c_ContainsT)  : Says P n c_needs2 := by
  refine Says.pure fun args r fs h => ?_
  split at h
  case h_2 => cases h
  rename_i a b c xs
  split at h
  case isFalse => cases h
  rename_i hc
  simp only [Option.some.injEq, Prod.mk.injEq] at h
  obtain ⟨rfl, rfl⟩ := h
  refine is.go hm hΓ k_needs2 o_needs2 (by simp [a_needs2]) ?_
  simp only [a_needs2, h_ContainsT, c_ContainsT, hc, List.zipIdx_cons, List.zipIdx_nil, ↓SP, SQ, Gam.add, stepM, callC, argC, lendO, nmBy, nmC, likeL, likeB, plainOb, offs, X, F, trP, trO, stepD, stepW, newA, SV.tr, SV.trL, fz, allP, Ob.tr, loadA, cellsA, SV.cells, binA, binI, eqOut, isSl, isPt, natOf, callee, snap, SV.refsL, SV.refs, thaw, fzAll, loA, hiA, elemOf, partsA, buildA, putCells, ↓reduceIte, reduceCtorEq, okCell, Nat.reduceAdd, Nat.reduceEqDiff, Nat.reduceSub, Nat.reduceMul, Nat.reduceLeDiff, Nat.reduceLT, Nat.reduceBEq, PV.scal, PV.scalL, SV.scal, SV.scalL, Ob.scal, PV.isCell, pure', resO]
  exact finA_val (by simp [retA, rvA, List.mapM_cons, List.mapM_nil, Option.pure_def, Option.bind_eq_bind, Option.bind_some, Option.map_some, mkE_cons, mk_nil, mkO_cons, mkO_nil, loadA, ↓reduceIte, List.take_succ_cons, List.take_zero, List.drop_zero, List.drop_succ_cons, List.length_cons, List.length_nil, Nat.reduceAdd, Nat.reduceEqDiff, Nat.reduceLeDiff, Nat.zero_add, Nat.le_refl, reduceCtorEq, SV.tr, SV.trL, nmF, rn_nil, rn_cons1, rn_cons2, List.map_cons, List.map_nil, List.all_cons, List.all_nil, plainOb, SV.refsL, SV.refs, Ob.refs, X, F, List.range_succ, List.range_zero, List.nil_append, List.cons_append, List.isEmpty_nil, decide_true, Nat.reduceLT, Bool.and_self, Bool.and_true, and_self, and_true, List.getElem?_cons_zero, List.getElem?_cons_succ, List.nodup_cons, List.nodup_nil, List.mem_cons, List.not_mem_nil, not_false_eq_true, or_false, List.append_nil, mkO, setO_mk, List.mem_singleton]) (by simp [SV.tr, SV.trL])
/-- The counts to which yes leads by a rule. -/
noncomputable def ruleY (Γ0 : Gam) (g : FuncId) (c s : List Int) : List Int := by
  classical
  exact if Γ0 g = c_bothWays then yesL c s else s
theorem rules_apart : c_oneWay ≠ c_bothWays := by
  intro h
  have := congrFun (congrFun h [.p (.sl 1 (ints [0])), .p (.sl 1 (ints [0]))]) []
  simp [c_oneWay, c_bothWays, pure', isI_ints, ofI_ints, bd] at this
theorem ruleY_both {Γ0 : Gam} {g : FuncId} (h : Γ0 g = c_bothWays) (c s : List Int) : ruleY Γ0 g c s = yesL c s := by simp [ruleY, h]
theorem ruleY_one {Γ0 : Gam} {g : FuncId} (h : Γ0 g = c_oneWay) (c s : List Int) : ruleY Γ0 g c s = s := by simp [ruleY, h, rules_apart]
def a_needs1 (f_tripleOf : FuncId) : AFn := ⟨4, 
  .seq (.reg [⟨some 5, none, .d (.mv (.c (.bool false)))⟩])
  (.seq (.dreg [] [([], ⟨some 13, none, .d (.load false 1 (.t 1))⟩),
    ([], ⟨some 14, none, .d (.slcA 3 1 (.t 2) none none)⟩),
    ([], ⟨some 15, none, .d (.mv (.t 0))⟩),
    ([], ⟨some 16, none, .d (.call (.t 13) [(.t 14), (.t 15)])⟩),
    ([], ⟨some 12, none, .d (.mv (.t 16))⟩),
    ([], ⟨some 17, none, .d (.extract (.t 12) 0)⟩),
    ([], ⟨some 18, none, .d (.extract (.t 12) 1)⟩),
    ([], ⟨some 6, none, .d (.mv (.t 17))⟩)] [⟨some 7, none, .d (.mv (.t 18))⟩])
  (.seq (.dreg [] [([], ⟨some 20, none, .d (.load false 1 (.t 3))⟩),
    ([], ⟨some 21, none, .d (.mv (.t 6))⟩),
    ([], ⟨some 22, none, .d (.call (.f f_tripleOf) [(.t 21)])⟩),
    ([], ⟨some 23, none, .d (.lookup (.int .i64 0) true (some 3) (.t 20) (.t 22))⟩),
    ([], ⟨some 19, none, .d (.mv (.t 23))⟩),
    ([], ⟨some 24, none, .d (.extract (.t 19) 0)⟩),
    ([], ⟨some 25, none, .d (.extract (.t 19) 1)⟩),
    ([], ⟨some 8, none, .d (.mv (.t 24))⟩)] [⟨some 9, none, .d (.mv (.t 25))⟩])
  (.seq (.dreg [] [([], ⟨some 27, none, .d (.load false 1 (.t 3))⟩),
    ([], ⟨some 28, none, .d (.mv (.t 7))⟩),
    ([], ⟨some 29, none, .d (.call (.f f_tripleOf) [(.t 28)])⟩),
    ([], ⟨some 30, none, .d (.lookup (.int .i64 0) true (some 3) (.t 27) (.t 29))⟩),
    ([], ⟨some 26, none, .d (.mv (.t 30))⟩),
    ([], ⟨some 31, none, .d (.extract (.t 26) 0)⟩),
    ([], ⟨some 32, none, .d (.extract (.t 26) 1)⟩),
    ([], ⟨some 10, none, .d (.mv (.t 31))⟩)] [⟨some 11, none, .d (.mv (.t 32))⟩])
  (.seq (.reg [⟨some 33, none, .d (.mv (.t 9))⟩,
    ⟨some 34, none, .d (.mv (.t 33))⟩,
    ⟨some 35, some (34, true), .d (.mv (.t 11))⟩,
    ⟨some 36, none, .d (.pick (.t 34) (.t 35) (.c (.bool false)))⟩,
    ⟨some 5, none, .d (.mv (.t 36))⟩])
  (.ret))))), [.tmp 5]⟩
def n_needs1 : Nat → Option Ann := fun _ => none
abbrev k_needs1 : List Nat := [0, 1, 2, 3, 5, 6, 7, 9, 11]
abbrev o_needs1 : List Nat := []
open Classical in
noncomputable def c_needs1 (Γ0 : Gam) : Con := pure' fun
  | [.p (.sl 1 s_), .p (.cp [.fn g [] []]), .p (.cp [.int .i64 a, .int .i64 b, .int .i64 c]), .p (.cp [.mapv es])] =>
    if (Γ0 g = c_bothWays ∨ Γ0 g = c_oneWay) ∧ isI s_ = true ∧ s_.length = 3 ∧ bd 1000 [a, b, c] = true ∧ bd 1000 (ofI s_) = true ∧ keysOk (some 3) es = true then
      (match look (.agg (ints (ruleY Γ0 g [a, b, c] (ofI s_)))) es, look (.agg (ints (noL [a, b, c] (ofI s_)))) es with
        | some u, some v => some (.p (.bool (u.isSome && v.isSome)), [])
        | _, _ => none)
    else none
  | _ => none
theorem pad3_id {l : List Int} (h : l.length = 3) : pad3 l = l := by simp [pad3, h]
theorem s_needs1 {P : Program} (hm : P.follows .mixedOrders = true) {Γ : Gam} (hΓ : GS P Γ) {n : FuncId} {f_tripleOf : FuncId} (is : Is P n (a_needs1 f_tripleOf)) (h_tripleOf : Γ f_tripleOf = c_tripleOf)  : Says P n (c_needs1 Γ) := by
  refine Says.pure fun args r fs h => ?_
  split at h
  case h_2 => cases h
  rename_i s_ g a b c es
  split at h
  case isFalse => cases h
  rename_i hc
  obtain ⟨hg, hs_, hl, hb1, hb2, hko⟩ := hc
  obtain ⟨s, rfl⟩ := isI_out hs_
  rw [ints_len] at hl
  rw [ofI_ints] at hb2
  simp only [ofI_ints] at h
  split at h
  case h_2 => cases h
  rename_i u v hu hv
  simp only [Option.some.injEq, Prod.mk.injEq] at h
  obtain ⟨rfl, rfl⟩ := h
  have hyl : (yesL [a, b, c] s).length = 3 := by rw [yesL_len, hl]
  have hnl : (noL [a, b, c] s).length = 3 := by rw [noL_len, hl]
  have hsl : s.length ≤ 1100000 := by omega
  have h3l : [a, b, c].length = 3 := rfl
  have hI : [PV.int .i64 a, .int .i64 b, .int .i64 c] = ints [a, b, c] := rfl
  have htk : (ints [a, b, c]).take 3 = ints [a, b, c] := rfl
  have htn := tri hnl
  have hpn := pad3_id hnl
  rcases hg with hg | hg
  · have htY := tri hyl
    have hpY := pad3_id hyl
    rw [ruleY_both hg] at hu
    rcases u with _ | u <;> rcases v with _ | v
    · refine is.go hm hΓ k_needs1 o_needs1 (by simp [a_needs1]) ?_
      simp only [a_needs1, h_tripleOf, c_tripleOf, hg, c_bothWays, h3l, hI, htk, hl, hsl, hb1, hb2, htn, htY, hpn, hpY, hyl, hnl, hko, hu, hv, lookA, esOf, keyA, ints_isInt, ints_isCell, isI_ints, ofI_ints, ints_len, List.zipIdx_cons, List.zipIdx_nil, ↓SP, SQ, Gam.add, stepM, callC, argC, lendO, nmBy, nmC, likeL, likeB, plainOb, offs, X, F, trP, trO, stepD, stepW, newA, SV.tr, SV.trL, fz, allP, Ob.tr, loadA, cellsA, SV.cells, binA, binI, eqOut, isSl, isPt, natOf, callee, snap, SV.refsL, SV.refs, thaw, fzAll, loA, hiA, elemOf, partsA, buildA, putCells, ↓reduceIte, reduceCtorEq, okCell, Nat.reduceAdd, Nat.reduceEqDiff, Nat.reduceSub, Nat.reduceMul, Nat.reduceLeDiff, Nat.reduceLT, Nat.reduceBEq, PV.scal, PV.scalL, SV.scal, SV.scalL, Ob.scal, PV.isCell, pure', resO]
      exact finA_val (by simp [retA, rvA, List.mapM_cons, List.mapM_nil, Option.pure_def, Option.bind_eq_bind, Option.bind_some, Option.map_some, mkE_cons, mk_nil, mkO_cons, mkO_nil, loadA, ↓reduceIte, List.take_succ_cons, List.take_zero, List.drop_zero, List.drop_succ_cons, List.length_cons, List.length_nil, Nat.reduceAdd, Nat.reduceEqDiff, Nat.reduceLeDiff, Nat.zero_add, Nat.le_refl, reduceCtorEq, SV.tr, SV.trL, nmF, rn_nil, rn_cons1, rn_cons2, List.map_cons, List.map_nil, List.all_cons, List.all_nil, plainOb, SV.refsL, SV.refs, Ob.refs, X, F, List.range_succ, List.range_zero, List.nil_append, List.cons_append, List.isEmpty_nil, decide_true, Nat.reduceLT, Bool.and_self, Bool.and_true, and_self, and_true, List.getElem?_cons_zero, List.getElem?_cons_succ, List.nodup_cons, List.nodup_nil, List.mem_cons, List.not_mem_nil, not_false_eq_true, or_false, List.append_nil, mkO, setO_mk, List.mem_singleton]) (by simp [SV.tr, SV.trL])
    · refine is.go hm hΓ k_needs1 o_needs1 (by simp [a_needs1]) ?_
      simp only [a_needs1, h_tripleOf, c_tripleOf, hg, c_bothWays, h3l, hI, htk, hl, hsl, hb1, hb2, htn, htY, hpn, hpY, hyl, hnl, hko, hu, hv, lookA, esOf, keyA, ints_isInt, ints_isCell, isI_ints, ofI_ints, ints_len, List.zipIdx_cons, List.zipIdx_nil, ↓SP, SQ, Gam.add, stepM, callC, argC, lendO, nmBy, nmC, likeL, likeB, plainOb, offs, X, F, trP, trO, stepD, stepW, newA, SV.tr, SV.trL, fz, allP, Ob.tr, loadA, cellsA, SV.cells, binA, binI, eqOut, isSl, isPt, natOf, callee, snap, SV.refsL, SV.refs, thaw, fzAll, loA, hiA, elemOf, partsA, buildA, putCells, ↓reduceIte, reduceCtorEq, okCell, Nat.reduceAdd, Nat.reduceEqDiff, Nat.reduceSub, Nat.reduceMul, Nat.reduceLeDiff, Nat.reduceLT, Nat.reduceBEq, PV.scal, PV.scalL, SV.scal, SV.scalL, Ob.scal, PV.isCell, pure', resO]
      exact finA_val (by simp [retA, rvA, List.mapM_cons, List.mapM_nil, Option.pure_def, Option.bind_eq_bind, Option.bind_some, Option.map_some, mkE_cons, mk_nil, mkO_cons, mkO_nil, loadA, ↓reduceIte, List.take_succ_cons, List.take_zero, List.drop_zero, List.drop_succ_cons, List.length_cons, List.length_nil, Nat.reduceAdd, Nat.reduceEqDiff, Nat.reduceLeDiff, Nat.zero_add, Nat.le_refl, reduceCtorEq, SV.tr, SV.trL, nmF, rn_nil, rn_cons1, rn_cons2, List.map_cons, List.map_nil, List.all_cons, List.all_nil, plainOb, SV.refsL, SV.refs, Ob.refs, X, F, List.range_succ, List.range_zero, List.nil_append, List.cons_append, List.isEmpty_nil, decide_true, Nat.reduceLT, Bool.and_self, Bool.and_true, and_self, and_true, List.getElem?_cons_zero, List.getElem?_cons_succ, List.nodup_cons, List.nodup_nil, List.mem_cons, List.not_mem_nil, not_false_eq_true, or_false, List.append_nil, mkO, setO_mk, List.mem_singleton]) (by simp [SV.tr, SV.trL])
    · refine is.go hm hΓ k_needs1 o_needs1 (by simp [a_needs1]) ?_
      simp only [a_needs1, h_tripleOf, c_tripleOf, hg, c_bothWays, h3l, hI, htk, hl, hsl, hb1, hb2, htn, htY, hpn, hpY, hyl, hnl, hko, hu, hv, lookA, esOf, keyA, ints_isInt, ints_isCell, isI_ints, ofI_ints, ints_len, List.zipIdx_cons, List.zipIdx_nil, ↓SP, SQ, Gam.add, stepM, callC, argC, lendO, nmBy, nmC, likeL, likeB, plainOb, offs, X, F, trP, trO, stepD, stepW, newA, SV.tr, SV.trL, fz, allP, Ob.tr, loadA, cellsA, SV.cells, binA, binI, eqOut, isSl, isPt, natOf, callee, snap, SV.refsL, SV.refs, thaw, fzAll, loA, hiA, elemOf, partsA, buildA, putCells, ↓reduceIte, reduceCtorEq, okCell, Nat.reduceAdd, Nat.reduceEqDiff, Nat.reduceSub, Nat.reduceMul, Nat.reduceLeDiff, Nat.reduceLT, Nat.reduceBEq, PV.scal, PV.scalL, SV.scal, SV.scalL, Ob.scal, PV.isCell, pure', resO]
      exact finA_val (by simp [retA, rvA, List.mapM_cons, List.mapM_nil, Option.pure_def, Option.bind_eq_bind, Option.bind_some, Option.map_some, mkE_cons, mk_nil, mkO_cons, mkO_nil, loadA, ↓reduceIte, List.take_succ_cons, List.take_zero, List.drop_zero, List.drop_succ_cons, List.length_cons, List.length_nil, Nat.reduceAdd, Nat.reduceEqDiff, Nat.reduceLeDiff, Nat.zero_add, Nat.le_refl, reduceCtorEq, SV.tr, SV.trL, nmF, rn_nil, rn_cons1, rn_cons2, List.map_cons, List.map_nil, List.all_cons, List.all_nil, plainOb, SV.refsL, SV.refs, Ob.refs, X, F, List.range_succ, List.range_zero, List.nil_append, List.cons_append, List.isEmpty_nil, decide_true, Nat.reduceLT, Bool.and_self, Bool.and_true, and_self, and_true, List.getElem?_cons_zero, List.getElem?_cons_succ, List.nodup_cons, List.nodup_nil, List.mem_cons, List.not_mem_nil, not_false_eq_true, or_false, List.append_nil, mkO, setO_mk, List.mem_singleton]) (by simp [SV.tr, SV.trL])
    · refine is.go hm hΓ k_needs1 o_needs1 (by simp [a_needs1]) ?_
      simp only [a_needs1, h_tripleOf, c_tripleOf, hg, c_bothWays, h3l, hI, htk, hl, hsl, hb1, hb2, htn, htY, hpn, hpY, hyl, hnl, hko, hu, hv, lookA, esOf, keyA, ints_isInt, ints_isCell, isI_ints, ofI_ints, ints_len, List.zipIdx_cons, List.zipIdx_nil, ↓SP, SQ, Gam.add, stepM, callC, argC, lendO, nmBy, nmC, likeL, likeB, plainOb, offs, X, F, trP, trO, stepD, stepW, newA, SV.tr, SV.trL, fz, allP, Ob.tr, loadA, cellsA, SV.cells, binA, binI, eqOut, isSl, isPt, natOf, callee, snap, SV.refsL, SV.refs, thaw, fzAll, loA, hiA, elemOf, partsA, buildA, putCells, ↓reduceIte, reduceCtorEq, okCell, Nat.reduceAdd, Nat.reduceEqDiff, Nat.reduceSub, Nat.reduceMul, Nat.reduceLeDiff, Nat.reduceLT, Nat.reduceBEq, PV.scal, PV.scalL, SV.scal, SV.scalL, Ob.scal, PV.isCell, pure', resO]
      exact finA_val (by simp [retA, rvA, List.mapM_cons, List.mapM_nil, Option.pure_def, Option.bind_eq_bind, Option.bind_some, Option.map_some, mkE_cons, mk_nil, mkO_cons, mkO_nil, loadA, ↓reduceIte, List.take_succ_cons, List.take_zero, List.drop_zero, List.drop_succ_cons, List.length_cons, List.length_nil, Nat.reduceAdd, Nat.reduceEqDiff, Nat.reduceLeDiff, Nat.zero_add, Nat.le_refl, reduceCtorEq, SV.tr, SV.trL, nmF, rn_nil, rn_cons1, rn_cons2, List.map_cons, List.map_nil, List.all_cons, List.all_nil, plainOb, SV.refsL, SV.refs, Ob.refs, X, F, List.range_succ, List.range_zero, List.nil_append, List.cons_append, List.isEmpty_nil, decide_true, Nat.reduceLT, Bool.and_self, Bool.and_true, and_self, and_true, List.getElem?_cons_zero, List.getElem?_cons_succ, List.nodup_cons, List.nodup_nil, List.mem_cons, List.not_mem_nil, not_false_eq_true, or_false, List.append_nil, mkO, setO_mk, List.mem_singleton]) (by simp [SV.tr, SV.trL])
  · have htY := tri hl
    have hpY := pad3_id hl
    rw [ruleY_one hg] at hu
    rcases u with _ | u <;> rcases v with _ | v
    · refine is.go hm hΓ k_needs1 o_needs1 (by simp [a_needs1]) ?_
      simp only [a_needs1, h_tripleOf, c_tripleOf, hg, c_oneWay, h3l, hI, htk, hl, hsl, hb1, hb2, htn, htY, hpn, hpY, hyl, hnl, hko, hu, hv, lookA, esOf, keyA, ints_isInt, ints_isCell, isI_ints, ofI_ints, ints_len, List.zipIdx_cons, List.zipIdx_nil, ↓SP, SQ, Gam.add, stepM, callC, argC, lendO, nmBy, nmC, likeL, likeB, plainOb, offs, X, F, trP, trO, stepD, stepW, newA, SV.tr, SV.trL, fz, allP, Ob.tr, loadA, cellsA, SV.cells, binA, binI, eqOut, isSl, isPt, natOf, callee, snap, SV.refsL, SV.refs, thaw, fzAll, loA, hiA, elemOf, partsA, buildA, putCells, ↓reduceIte, reduceCtorEq, okCell, Nat.reduceAdd, Nat.reduceEqDiff, Nat.reduceSub, Nat.reduceMul, Nat.reduceLeDiff, Nat.reduceLT, Nat.reduceBEq, PV.scal, PV.scalL, SV.scal, SV.scalL, Ob.scal, PV.isCell, pure', resO]
      exact finA_val (by simp [retA, rvA, List.mapM_cons, List.mapM_nil, Option.pure_def, Option.bind_eq_bind, Option.bind_some, Option.map_some, mkE_cons, mk_nil, mkO_cons, mkO_nil, loadA, ↓reduceIte, List.take_succ_cons, List.take_zero, List.drop_zero, List.drop_succ_cons, List.length_cons, List.length_nil, Nat.reduceAdd, Nat.reduceEqDiff, Nat.reduceLeDiff, Nat.zero_add, Nat.le_refl, reduceCtorEq, SV.tr, SV.trL, nmF, rn_nil, rn_cons1, rn_cons2, List.map_cons, List.map_nil, List.all_cons, List.all_nil, plainOb, SV.refsL, SV.refs, Ob.refs, X, F, List.range_succ, List.range_zero, List.nil_append, List.cons_append, List.isEmpty_nil, decide_true, Nat.reduceLT, Bool.and_self, Bool.and_true, and_self, and_true, List.getElem?_cons_zero, List.getElem?_cons_succ, List.nodup_cons, List.nodup_nil, List.mem_cons, List.not_mem_nil, not_false_eq_true, or_false, List.append_nil, mkO, setO_mk, List.mem_singleton]) (by simp [SV.tr, SV.trL])
    · refine is.go hm hΓ k_needs1 o_needs1 (by simp [a_needs1]) ?_
      simp only [a_needs1, h_tripleOf, c_tripleOf, hg, c_oneWay, h3l, hI, htk, hl, hsl, hb1, hb2, htn, htY, hpn, hpY, hyl, hnl, hko, hu, hv, lookA, esOf, keyA, ints_isInt, ints_isCell, isI_ints, ofI_ints, ints_len, List.zipIdx_cons, List.zipIdx_nil, ↓SP, SQ, Gam.add, stepM, callC, argC, lendO, nmBy, nmC, likeL, likeB, plainOb, offs, X, F, trP, trO, stepD, stepW, newA, SV.tr, SV.trL, fz, allP, Ob.tr, loadA, cellsA, SV.cells, binA, binI, eqOut, isSl, isPt, natOf, callee, snap, SV.refsL, SV.refs, thaw, fzAll, loA, hiA, elemOf, partsA, buildA, putCells, ↓reduceIte, reduceCtorEq, okCell, Nat.reduceAdd, Nat.reduceEqDiff, Nat.reduceSub, Nat.reduceMul, Nat.reduceLeDiff, Nat.reduceLT, Nat.reduceBEq, PV.scal, PV.scalL, SV.scal, SV.scalL, Ob.scal, PV.isCell, pure', resO]
      exact finA_val (by simp [retA, rvA, List.mapM_cons, List.mapM_nil, Option.pure_def, Option.bind_eq_bind, Option.bind_some, Option.map_some, mkE_cons, mk_nil, mkO_cons, mkO_nil, loadA, ↓reduceIte, List.take_succ_cons, List.take_zero, List.drop_zero, List.drop_succ_cons, List.length_cons, List.length_nil, Nat.reduceAdd, Nat.reduceEqDiff, Nat.reduceLeDiff, Nat.zero_add, Nat.le_refl, reduceCtorEq, SV.tr, SV.trL, nmF, rn_nil, rn_cons1, rn_cons2, List.map_cons, List.map_nil, List.all_cons, List.all_nil, plainOb, SV.refsL, SV.refs, Ob.refs, X, F, List.range_succ, List.range_zero, List.nil_append, List.cons_append, List.isEmpty_nil, decide_true, Nat.reduceLT, Bool.and_self, Bool.and_true, and_self, and_true, List.getElem?_cons_zero, List.getElem?_cons_succ, List.nodup_cons, List.nodup_nil, List.mem_cons, List.not_mem_nil, not_false_eq_true, or_false, List.append_nil, mkO, setO_mk, List.mem_singleton]) (by simp [SV.tr, SV.trL])
    · refine is.go hm hΓ k_needs1 o_needs1 (by simp [a_needs1]) ?_
      simp only [a_needs1, h_tripleOf, c_tripleOf, hg, c_oneWay, h3l, hI, htk, hl, hsl, hb1, hb2, htn, htY, hpn, hpY, hyl, hnl, hko, hu, hv, lookA, esOf, keyA, ints_isInt, ints_isCell, isI_ints, ofI_ints, ints_len, List.zipIdx_cons, List.zipIdx_nil, ↓SP, SQ, Gam.add, stepM, callC, argC, lendO, nmBy, nmC, likeL, likeB, plainOb, offs, X, F, trP, trO, stepD, stepW, newA, SV.tr, SV.trL, fz, allP, Ob.tr, loadA, cellsA, SV.cells, binA, binI, eqOut, isSl, isPt, natOf, callee, snap, SV.refsL, SV.refs, thaw, fzAll, loA, hiA, elemOf, partsA, buildA, putCells, ↓reduceIte, reduceCtorEq, okCell, Nat.reduceAdd, Nat.reduceEqDiff, Nat.reduceSub, Nat.reduceMul, Nat.reduceLeDiff, Nat.reduceLT, Nat.reduceBEq, PV.scal, PV.scalL, SV.scal, SV.scalL, Ob.scal, PV.isCell, pure', resO]
      exact finA_val (by simp [retA, rvA, List.mapM_cons, List.mapM_nil, Option.pure_def, Option.bind_eq_bind, Option.bind_some, Option.map_some, mkE_cons, mk_nil, mkO_cons, mkO_nil, loadA, ↓reduceIte, List.take_succ_cons, List.take_zero, List.drop_zero, List.drop_succ_cons, List.length_cons, List.length_nil, Nat.reduceAdd, Nat.reduceEqDiff, Nat.reduceLeDiff, Nat.zero_add, Nat.le_refl, reduceCtorEq, SV.tr, SV.trL, nmF, rn_nil, rn_cons1, rn_cons2, List.map_cons, List.map_nil, List.all_cons, List.all_nil, plainOb, SV.refsL, SV.refs, Ob.refs, X, F, List.range_succ, List.range_zero, List.nil_append, List.cons_append, List.isEmpty_nil, decide_true, Nat.reduceLT, Bool.and_self, Bool.and_true, and_self, and_true, List.getElem?_cons_zero, List.getElem?_cons_succ, List.nodup_cons, List.nodup_nil, List.mem_cons, List.not_mem_nil, not_false_eq_true, or_false, List.append_nil, mkO, setO_mk, List.mem_singleton]) (by simp [SV.tr, SV.trL])
    · refine is.go hm hΓ k_needs1 o_needs1 (by simp [a_needs1]) ?_
      simp only [a_needs1, h_tripleOf, c_tripleOf, hg, c_oneWay, h3l, hI, htk, hl, hsl, hb1, hb2, htn, htY, hpn, hpY, hyl, hnl, hko, hu, hv, lookA, esOf, keyA, ints_isInt, ints_isCell, isI_ints, ofI_ints, ints_len, List.zipIdx_cons, List.zipIdx_nil, ↓SP, SQ, Gam.add, stepM, callC, argC, lendO, nmBy, nmC, likeL, likeB, plainOb, offs, X, F, trP, trO, stepD, stepW, newA, SV.tr, SV.trL, fz, allP, Ob.tr, loadA, cellsA, SV.cells, binA, binI, eqOut, isSl, isPt, natOf, callee, snap, SV.refsL, SV.refs, thaw, fzAll, loA, hiA, elemOf, partsA, buildA, putCells, ↓reduceIte, reduceCtorEq, okCell, Nat.reduceAdd, Nat.reduceEqDiff, Nat.reduceSub, Nat.reduceMul, Nat.reduceLeDiff, Nat.reduceLT, Nat.reduceBEq, PV.scal, PV.scalL, SV.scal, SV.scalL, Ob.scal, PV.isCell, pure', resO]
      exact finA_val (by simp [retA, rvA, List.mapM_cons, List.mapM_nil, Option.pure_def, Option.bind_eq_bind, Option.bind_some, Option.map_some, mkE_cons, mk_nil, mkO_cons, mkO_nil, loadA, ↓reduceIte, List.take_succ_cons, List.take_zero, List.drop_zero, List.drop_succ_cons, List.length_cons, List.length_nil, Nat.reduceAdd, Nat.reduceEqDiff, Nat.reduceLeDiff, Nat.zero_add, Nat.le_refl, reduceCtorEq, SV.tr, SV.trL, nmF, rn_nil, rn_cons1, rn_cons2, List.map_cons, List.map_nil, List.all_cons, List.all_nil, plainOb, SV.refsL, SV.refs, Ob.refs, X, F, List.range_succ, List.range_zero, List.nil_append, List.cons_append, List.isEmpty_nil, decide_true, Nat.reduceLT, Bool.and_self, Bool.and_true, and_self, and_true, List.getElem?_cons_zero, List.getElem?_cons_succ, List.nodup_cons, List.nodup_nil, List.mem_cons, List.not_mem_nil, not_false_eq_true, or_false, List.append_nil, mkO, setO_mk, List.mem_singleton]) (by simp [SV.tr, SV.trL])
end Go.Proofs.Ytmncbkkpchmjhaa.Pam
