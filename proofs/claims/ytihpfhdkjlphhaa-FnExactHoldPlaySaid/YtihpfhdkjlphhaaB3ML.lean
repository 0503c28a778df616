/- A part of the proof that stands in this folder: a small machine whose steps are shown to be the steps of the model, or walks of functions by it. No condition of its own. -/
import Derived.Test.YtihpfhdkjlphhaaB3MI
set_option linter.unusedVariables false
set_option linter.unusedSimpArgs false
namespace Go.Proofs.Ytihpfhdkjlphhaa.Pam
open Go
theorem s_needs {P : Program} (hm : P.follows .mixedOrders = true) {Γ : Gam} (hΓ : GS P Γ) {n : FuncId} {f_splits : FuncId} {f_needs1 : FuncId} {f_ContainsFuncS : FuncId} {f_needs2 : FuncId} {f_DelT : FuncId} (is : Is P n (a_needs f_splits f_needs1 f_ContainsFuncS f_needs2 f_DelT)) (h_splits : Γ f_splits = c_splits) {Γ0 Γ1 Γ2 Γ3 : Gam} (h_ContainsFuncS : Γ f_ContainsFuncS = c_ContainsFuncS Γ0) (h_needs1 : Γ0 f_needs1 = c_needs1 Γ1) (h_DelT : Γ f_DelT = c_DelT Γ2 Γ3) (h_needs2a : Γ2 f_needs2 = c_needs2) (h_needs2b : Γ3 f_needs2 = c_needs2) : Says P n (c_needs Γ1) := by
  refine Says.pure fun args r fs h => ?_
  split at h
  case h_2 => cases h
  rename_i g
  split at h
  · rename_i hg
    simp only [Option.some.injEq, Prod.mk.injEq] at h
    obtain ⟨rfl, rfl⟩ := h
    exact needs_walk hm hΓ is h_splits h_ContainsFuncS h_needs1 h_DelT h_needs2a h_needs2b ntB (by omega) (both := true) (by simpa [isRule] using hg)
  · split at h
    · rename_i hg
      simp only [Option.some.injEq, Prod.mk.injEq] at h
      obtain ⟨rfl, rfl⟩ := h
      exact needs_walk hm hΓ is h_splits h_ContainsFuncS h_needs1 h_DelT h_needs2a h_needs2b ntO (by omega) (both := false) (by simpa [isRule] using hg)
    · cases h
/-- The map of needs by a rule. -/
def nES (both : Bool) : List (PV × PV) := if both = true then ents (eL (ntT tabB) 9) else ents (eL (ntT tabO) 6)
theorem needs_both {Γ1 : Gam} {g : FuncId} (h : Γ1 g = c_bothWays) : c_needs Γ1 [.p (.fn g [] [])] [] = some (.mp 2000000, [], [.map (nES true)]) := by simp [c_needs, pure', h, nES]
theorem needs_one {Γ1 : Gam} {g : FuncId} (h : Γ1 g = c_oneWay) : c_needs Γ1 [.p (.fn g [] [])] [] = some (.mp 2000000, [], [.map (nES false)]) := by simp [c_needs, pure', h, nES, rules_apart]
def a_neederOf (f_needs : FuncId) : AFn := ⟨1, 
  .seq (.reg [⟨some 2, none, .w (.alloc [.nilfn, .nilmap])⟩])
  (.seq (.reg [⟨some 3, none, .d (.mv (.t 0))⟩,
    ⟨some 4, none, .d (.mv (.t 0))⟩,
    ⟨some 5, none, .d (.call (.f f_needs) [(.t 4)])⟩,
    ⟨some 6, none, .d (.build [.nilfn, .nilmap] [(0, 1, (.t 3)), (1, 1, (.t 5))])⟩,
    ⟨none, none, .w (.store 2 (.t 2) (.t 6))⟩])
  (.ret)), [.cell 2 2 true]⟩
def n_neederOf : Nat → Option Ann := fun _ => none
abbrev k_neederOf : List Nat := [0, 2]
abbrev o_neederOf : List Nat := [2]
open Classical in
noncomputable def c_neederOf (Γ1 : Gam) : Con := pure' fun
  | [.p (.fn g [] [])] => if Γ1 g = c_bothWays then some (.ag [.p (.fn g [] []), .p (.mapv (nES true))], []) else if Γ1 g = c_oneWay then some (.ag [.p (.fn g [] []), .p (.mapv (nES false))], []) else none
  | _ => none
theorem s_neederOf {P : Program} (hm : P.follows .mixedOrders = true) {Γ : Gam} (hΓ : GS P Γ) {n : FuncId} {f_needs : FuncId} (is : Is P n (a_neederOf f_needs)) {Γ1 : Gam} (h_needs : Γ f_needs = c_needs Γ1) : Says P n (c_neederOf Γ1) := by
  refine Says.pure fun args r fs h => ?_
  split at h
  case h_2 => cases h
  rename_i g
  split at h
  · rename_i hg
    simp only [Option.some.injEq, Prod.mk.injEq] at h
    obtain ⟨rfl, rfl⟩ := h
    have hn := needs_both hg
    refine is.go hm hΓ k_neederOf o_neederOf (by simp [a_neederOf]) ?_
    simp only [a_neederOf, h_needs, hn, List.zipIdx_cons, List.zipIdx_nil, ↓SP, SQ, Gam.add, stepM, callC, argC, lendO, nmBy, nmC, likeL, likeB, plainOb, offs, exL, X, F, trP, trO, stepD, stepW, newA, SV.tr, SV.trL, fz, allP, Ob.tr, loadA, cellsA, SV.cells, binA, binI, eqOut, isSl, isPt, natOf, callee, snap, SV.refsL, SV.refs, thaw, fzAll, loA, hiA, elemOf, partsA, buildA, putCells, ↓reduceIte, reduceCtorEq, okCell, Nat.reduceAdd, Nat.reduceEqDiff, Nat.reduceSub, Nat.reduceMul, Nat.reduceLeDiff, Nat.reduceLT, Nat.reduceBEq, PV.scal, PV.scalL, SV.scal, SV.scalL, Ob.scal, PV.isCell, pure', resO]
    exact finA_val (by simp [retA, rvA, mkE_cons, mk_nil, mkO_cons, mkO_nil, loadA, SV.tr, SV.trL, nmF, rn_nil, rn_cons1, rn_cons2, plainOb, SV.refsL, SV.refs, Ob.refs, X, F, List.range_succ, mkO, setO_mk]) (by simp [SV.tr, SV.trL])
  · split at h
    · rename_i hg
      simp only [Option.some.injEq, Prod.mk.injEq] at h
      obtain ⟨rfl, rfl⟩ := h
      have hn := needs_one hg
      refine is.go hm hΓ k_neederOf o_neederOf (by simp [a_neederOf]) ?_
      simp only [a_neederOf, h_needs, hn, List.zipIdx_cons, List.zipIdx_nil, ↓SP, SQ, Gam.add, stepM, callC, argC, lendO, nmBy, nmC, likeL, likeB, plainOb, offs, exL, X, F, trP, trO, stepD, stepW, newA, SV.tr, SV.trL, fz, allP, Ob.tr, loadA, cellsA, SV.cells, binA, binI, eqOut, isSl, isPt, natOf, callee, snap, SV.refsL, SV.refs, thaw, fzAll, loA, hiA, elemOf, partsA, buildA, putCells, ↓reduceIte, reduceCtorEq, okCell, Nat.reduceAdd, Nat.reduceEqDiff, Nat.reduceSub, Nat.reduceMul, Nat.reduceLeDiff, Nat.reduceLT, Nat.reduceBEq, PV.scal, PV.scalL, SV.scal, SV.scalL, Ob.scal, PV.isCell, pure', resO]
      exact finA_val (by simp [retA, rvA, mkE_cons, mk_nil, mkO_cons, mkO_nil, loadA, SV.tr, SV.trL, nmF, rn_nil, rn_cons1, rn_cons2, plainOb, SV.refsL, SV.refs, Ob.refs, X, F, List.range_succ, mkO, setO_mk]) (by simp [SV.tr, SV.trL])
    · cases h
/-- What a map tells of counts. -/
def ofE (es : List (PV × PV)) (c : List Int) : Int := match look (.agg (ints (pad3 c))) es with
  | some (some (.int _ v)) => v
  | _ => 0
def a_nOf (f_tripleOf : FuncId) : AFn := ⟨2, 
  .seq (.reg [⟨some 2, none, .w (.box 2 (.t 0))⟩,
    ⟨some 4, none, .d (.mv (.c (.int .i64 0)))⟩])
  (.seq (.dreg [] [([], ⟨some 5, none, .d (.fa 1 (.t 2))⟩),
    ([], ⟨some 6, none, .d (.load false 1 (.t 5))⟩),
    ([], ⟨some 7, none, .d (.mv (.t 1))⟩),
    ([], ⟨some 8, none, .d (.call (.f f_tripleOf) [(.t 7)])⟩)] [⟨some 9, none, .d (.lookup (.int .i64 0) false (some 3) (.t 6) (.t 8))⟩,
    ⟨some 4, none, .d (.mv (.t 9))⟩])
  (.ret)), [.tmp 4]⟩
def n_nOf : Nat → Option Ann := fun _ => none
abbrev k_nOf : List Nat := [0, 1, 2, 4]
abbrev o_nOf : List Nat := [2]
def c_nOf : Con := pure' fun
  | [.p (.agg [.fn g [] [], .mapv es]), .p (.sl 1 c_)] => if okE es = true ∧ isI c_ = true ∧ 1 ≤ c_.length ∧ c_.length ≤ 3 then some (.p (.int .i64 (ofE es (ofI c_))), []) else none
  | _ => none
theorem s_nOf {P : Program} (hm : P.follows .mixedOrders = true) {Γ : Gam} (hΓ : GS P Γ) {n : FuncId} {f_tripleOf : FuncId} (is : Is P n (a_nOf f_tripleOf)) (h_tripleOf : Γ f_tripleOf = c_tripleOf)  : Says P n c_nOf := by
  refine Says.pure fun args r fs h => ?_
  split at h
  case h_2 => cases h
  rename_i g es c_
  split at h
  case isFalse => cases h
  rename_i hc
  obtain ⟨hok, hc_, h1, h2⟩ := hc
  obtain ⟨c, rfl⟩ := isI_out hc_
  rw [ints_len] at h1 h2
  simp only [ofI_ints, Option.some.injEq, Prod.mk.injEq] at h
  obtain ⟨rfl, rfl⟩ := h
  obtain ⟨E, rfl, h3, hv⟩ := okE_out hok
  have hp3 := pad3_len h2
  have ht := tri hp3
  have hko := keysOk_ents h3
  have hlook := look_ents hp3 h3
  have hof : ofE (ents E) c = ((lk (pad3 c) E).getD 0) := by
    simp only [ofE, hlook]
    cases lk (pad3 c) E <;> rfl
  rw [hof]
  cases hl : lk (pad3 c) E with
  | none =>
    rw [hl] at hlook
    refine is.go hm hΓ k_nOf o_nOf (by simp [a_nOf]) ?_
    simp only [a_nOf, h_tripleOf, c_tripleOf, h1, h2, ht, hko, hlook, hp3, lookA, esOf, keyA, ints_isInt, ints_len, isI_ints, ofI_ints, Option.map_none, List.zipIdx_cons, List.zipIdx_nil, ↓SP, SQ, Gam.add, stepM, callC, argC, lendO, nmBy, nmC, likeL, likeB, plainOb, offs, exL, X, F, trP, trO, stepD, stepW, newA, SV.tr, SV.trL, fz, allP, Ob.tr, loadA, cellsA, SV.cells, binA, binI, eqOut, isSl, isPt, natOf, callee, snap, SV.refsL, SV.refs, thaw, fzAll, loA, hiA, elemOf, partsA, buildA, putCells, ↓reduceIte, reduceCtorEq, okCell, Nat.reduceAdd, Nat.reduceEqDiff, Nat.reduceSub, Nat.reduceMul, Nat.reduceLeDiff, Nat.reduceLT, Nat.reduceBEq, PV.scal, PV.scalL, SV.scal, SV.scalL, Ob.scal, PV.isCell, pure', resO]
    exact finA_val (by simp [retA, rvA, mkE_cons, mk_nil, mkO_cons, mkO_nil, loadA, SV.tr, SV.trL, nmF, rn_nil, rn_cons1, rn_cons2, plainOb, SV.refsL, SV.refs, Ob.refs, X, F, List.range_succ, mkO, setO_mk]) (by simp [SV.tr, SV.trL])
  | some v =>
    rw [hl] at hlook
    refine is.go hm hΓ k_nOf o_nOf (by simp [a_nOf]) ?_
    simp only [a_nOf, h_tripleOf, c_tripleOf, h1, h2, ht, hko, hlook, hp3, lookA, esOf, keyA, ints_isInt, ints_len, isI_ints, ofI_ints, Option.map_some, List.zipIdx_cons, List.zipIdx_nil, ↓SP, SQ, Gam.add, stepM, callC, argC, lendO, nmBy, nmC, likeL, likeB, plainOb, offs, exL, X, F, trP, trO, stepD, stepW, newA, SV.tr, SV.trL, fz, allP, Ob.tr, loadA, cellsA, SV.cells, binA, binI, eqOut, isSl, isPt, natOf, callee, snap, SV.refsL, SV.refs, thaw, fzAll, loA, hiA, elemOf, partsA, buildA, putCells, ↓reduceIte, reduceCtorEq, okCell, Nat.reduceAdd, Nat.reduceEqDiff, Nat.reduceSub, Nat.reduceMul, Nat.reduceLeDiff, Nat.reduceLT, Nat.reduceBEq, PV.scal, PV.scalL, SV.scal, SV.scalL, Ob.scal, PV.isCell, pure', resO]
    exact finA_val (by simp [retA, rvA, mkE_cons, mk_nil, mkO_cons, mkO_nil, loadA, SV.tr, SV.trL, nmF, rn_nil, rn_cons1, rn_cons2, plainOb, SV.refsL, SV.refs, Ob.refs, X, F, List.range_succ, mkO, setO_mk]) (by simp [SV.tr, SV.trL])
def c_isTold : Con := pure' fun
  | [.p (.sl 1 c_)] => if isI c_ = true ∧ ((ofI c_).length ≤ 3 ∧ in8 (ofI c_) = true) then some (.p (.bool (told (ofI c_))), []) else none
  | _ => none
def a_l4Told : AFn := ⟨1, 
  .seq (.reg [⟨some 2, none, .d (.mv (.c (.bool false)))⟩])
  (.seq (.reg [⟨some 3, none, .d (.mv (.c (.int .i64 0)))⟩])
  (.seq (.seq (.reg [⟨some 4, none, .d (.mv (.c (.int .i64 0)))⟩])
  (.block 0 (.loop (.seq (.seq (.reg [⟨some 5, none, .d (.mv (.t 4))⟩,
      ⟨some 6, none, .d (.mv (.t 0))⟩,
      ⟨some 7, none, .d (.len (.t 6))⟩,
      ⟨some 8, none, .d (.bin .arith .lss (.t 5) (.t 7))⟩])
    (.cond (.t 8) (.skip) (.exit 0)))
    (.seq (.block 1 (.reg [⟨some 11, none, .d (.mv (.t 3))⟩,
       ⟨some 12, none, .d (.mv (.t 0))⟩,
       ⟨some 13, none, .d (.mv (.t 4))⟩,
       ⟨some 14, none, .d (.ia 1 (.t 12) (.t 13))⟩,
       ⟨some 15, none, .d (.load false 1 (.t 14))⟩,
       ⟨some 16, none, .d (.bin .arith .add (.t 11) (.t 15))⟩,
       ⟨some 3, none, .d (.mv (.t 16))⟩]))
    (.reg [⟨some 9, none, .d (.mv (.t 4))⟩,
      ⟨some 10, none, .d (.bin .arith .add (.t 9) (.c (.int .i64 1)))⟩,
      ⟨some 4, none, .d (.mv (.t 10))⟩]))))))
  (.seq (.reg [⟨some 17, none, .d (.mv (.t 3))⟩,
    ⟨some 18, none, .d (.bin .arith .leq (.t 17) (.c (.int .i64 1)))⟩,
    ⟨some 2, none, .d (.mv (.t 18))⟩])
  (.ret)))), [.tmp 2]⟩
def n_l4Told : Nat → Option Ann := fun _ => none
abbrev k_l4Told : List Nat := [0, 2, 3, 4, 8]
abbrev o_l4Told : List Nat := []
theorem s_l4Told {P : Program} (hm : P.follows .mixedOrders = true) {Γ : Gam} (hΓ : GS P Γ) {n : FuncId} (is : Is P n a_l4Told)  : Says P n c_isTold := by
  refine Says.pure fun args r fs h => ?_
  split at h
  case h_2 => cases h
  rename_i c_
  split at h
  case isFalse => cases h
  rename_i hc
  obtain ⟨hc_, hc⟩ := hc
  obtain ⟨c, rfl⟩ := isI_out hc_
  simp only [ofI_ints, ofBo_bools, ofAs_asks, Option.some.injEq, Prod.mk.injEq] at h hc
  obtain ⟨rfl, rfl⟩ := h
  obtain ⟨hl3, h8⟩ := hc
  refine is.go hm hΓ k_l4Told o_l4Told (by simp [a_l4Told]) ?_
  simp only [a_l4Told, List.zipIdx_cons, List.zipIdx_nil, ↓SP, SQ, Gam.add, stepM, callC, argC, lendO, nmBy, nmC, likeL, likeB, plainOb, offs, exL, X, F, trP, trO, stepD, stepW, newA, SV.tr, SV.trL, fz, allP, Ob.tr, loadA, cellsA, SV.cells, binA, binI, eqOut, isSl, isPt, natOf, callee, snap, SV.refsL, SV.refs, thaw, fzAll, loA, hiA, elemOf, partsA, buildA, putCells, ↓reduceIte, reduceCtorEq, okCell, Nat.reduceAdd, Nat.reduceEqDiff, Nat.reduceSub, Nat.reduceMul, Nat.reduceLeDiff, Nat.reduceLT, Nat.reduceBEq, PV.scal, PV.scalL, SV.scal, SV.scalL, Ob.scal, PV.isCell, pure', resO]
  refine loop_at (fun s : Nat × SV => mkEnv [(0, .p (.sl 1 (ints c))), (2, sb false), (3, si (c.take s.1).sum), (4, si s.1), (8, s.2)]) (fun s => mkO []) (fun s => s.1 ≤ c.length) (fun s => c.length - s.1) (0, .junk) (by simp) rfl rfl ?_
  rintro ⟨i, c1⟩ hi R hR hN
  simp only at hi
  by_cases h : i < c.length
  · have h1 : (i : Int) < c.length := by omega
    have hw := wrap_one (i := i) (by omega)
    have hg := ints_get h
    have hb := sum_bd h8 (i + 1) (by omega)
    rw [sum_step c h] at hb
    have hws : IntKind.i64.wrap ((c.take i).sum + c.getD i 0) = (c.take (i + 1)).sum := by rw [sum_step c h]; exact wrap64 (by omega) (by omega)
    simp only [h1, hw, hg, hws, ↓SP, SQ, Gam.add, stepM, callC, argC, lendO, nmBy, nmC, likeL, likeB, plainOb, offs, exL, X, F, trP, trO, stepD, stepW, newA, SV.tr, SV.trL, fz, allP, Ob.tr, loadA, cellsA, SV.cells, binA, binI, eqOut, isSl, isPt, natOf, callee, snap, SV.refsL, SV.refs, thaw, fzAll, loA, hiA, elemOf, partsA, buildA, putCells, ↓reduceIte, reduceCtorEq, okCell, Nat.reduceAdd, Nat.reduceEqDiff, Nat.reduceSub, Nat.reduceMul, Nat.reduceLeDiff, Nat.reduceLT, Nat.reduceBEq, PV.scal, PV.scalL, SV.scal, SV.scalL, Ob.scal, PV.isCell, pure', resO]
    exact hN (i + 1, _) _ _ (by simp only; omega) (by simp only; omega) rfl rfl
  · have he : i = c.length := by omega
    have h1 : ¬ (i : Int) < c.length := by omega
    simp only [h1, ↓SP, SQ, Gam.add, stepM, callC, argC, lendO, nmBy, nmC, likeL, likeB, plainOb, offs, exL, X, F, trP, trO, stepD, stepW, newA, SV.tr, SV.trL, fz, allP, Ob.tr, loadA, cellsA, SV.cells, binA, binI, eqOut, isSl, isPt, natOf, callee, snap, SV.refsL, SV.refs, thaw, fzAll, loA, hiA, elemOf, partsA, buildA, putCells, ↓reduceIte, reduceCtorEq, okCell, Nat.reduceAdd, Nat.reduceEqDiff, Nat.reduceSub, Nat.reduceMul, Nat.reduceLeDiff, Nat.reduceLT, Nat.reduceBEq, PV.scal, PV.scalL, SV.scal, SV.scalL, Ob.scal, PV.isCell, pure', resO]
    refine hR _ _ _ (by intro h; cases h) ?_
    simp only [↓SP, SQ, Gam.add, stepM, callC, argC, lendO, nmBy, nmC, likeL, likeB, plainOb, offs, exL, X, F, trP, trO, stepD, stepW, newA, SV.tr, SV.trL, fz, allP, Ob.tr, loadA, cellsA, SV.cells, binA, binI, eqOut, isSl, isPt, natOf, callee, snap, SV.refsL, SV.refs, thaw, fzAll, loA, hiA, elemOf, partsA, buildA, putCells, ↓reduceIte, reduceCtorEq, okCell, Nat.reduceAdd, Nat.reduceEqDiff, Nat.reduceSub, Nat.reduceMul, Nat.reduceLeDiff, Nat.reduceLT, Nat.reduceBEq, PV.scal, PV.scalL, SV.scal, SV.scalL, Ob.scal, PV.isCell, pure', resO]
    subst he
    exact finA_val (by simp [told, List.take_length, retA, rvA, mkE_cons, mk_nil, mkO_cons, mkO_nil, loadA, SV.tr, SV.trL, nmF, rn_nil, rn_cons1, rn_cons2, plainOb, SV.refsL, SV.refs, Ob.refs, X, F, List.range_succ, mkO, setO_mk]) (by simp [SV.tr, SV.trL])
/-- A number that tells counts. -/
def keyI (c : List Int) : Nat → Int
  | 0 => 0
  | i + 1 => keyI c i * 9 + c.getD i 0
def keyL (c : List Int) : Int := keyI c c.length
theorem keyI_bd {c : List Int} (h8 : in8 c = true) : ∀ i, 0 ≤ keyI c i ∧ keyI c i < ((9 ^ i : Nat) : Int)
  | 0 => by simp [keyI]
  | i + 1 => by
    have ⟨h1, h2⟩ := keyI_bd h8 i
    have h3 := in8_get h8 i
    simp only [keyI, Nat.pow_succ]
    omega
def a_l4Key : AFn := ⟨1, 
  .seq (.reg [⟨some 2, none, .d (.mv (.c (.int .i64 0)))⟩])
  (.seq (.reg [⟨some 3, none, .d (.mv (.c (.int .i64 0)))⟩])
  (.seq (.seq (.reg [⟨some 4, none, .d (.mv (.c (.int .i64 0)))⟩])
  (.block 0 (.loop (.seq (.seq (.reg [⟨some 5, none, .d (.mv (.t 4))⟩,
      ⟨some 6, none, .d (.mv (.t 0))⟩,
      ⟨some 7, none, .d (.len (.t 6))⟩,
      ⟨some 8, none, .d (.bin .arith .lss (.t 5) (.t 7))⟩])
    (.cond (.t 8) (.skip) (.exit 0)))
    (.seq (.block 1 (.reg [⟨some 11, none, .d (.mv (.t 3))⟩,
       ⟨some 12, none, .d (.bin .arith .mul (.t 11) (.c (.int .i64 9)))⟩,
       ⟨some 13, none, .d (.mv (.t 0))⟩,
       ⟨some 14, none, .d (.mv (.t 4))⟩,
       ⟨some 15, none, .d (.ia 1 (.t 13) (.t 14))⟩,
       ⟨some 16, none, .d (.load false 1 (.t 15))⟩,
       ⟨some 17, none, .d (.bin .arith .add (.t 12) (.t 16))⟩,
       ⟨some 3, none, .d (.mv (.t 17))⟩]))
    (.reg [⟨some 9, none, .d (.mv (.t 4))⟩,
      ⟨some 10, none, .d (.bin .arith .add (.t 9) (.c (.int .i64 1)))⟩,
      ⟨some 4, none, .d (.mv (.t 10))⟩]))))))
  (.seq (.reg [⟨some 18, none, .d (.mv (.t 3))⟩,
    ⟨some 2, none, .d (.mv (.t 18))⟩])
  (.ret)))), [.tmp 2]⟩
def n_l4Key : Nat → Option Ann := fun _ => none
abbrev k_l4Key : List Nat := [0, 2, 3, 4, 8]
abbrev o_l4Key : List Nat := []
def c_l4Key : Con := pure' fun
  | [.p (.sl 1 c_)] => if isI c_ = true ∧ ((ofI c_).length ≤ 3 ∧ in8 (ofI c_) = true) then some (.p (.int .i64 (keyL (ofI c_))), []) else none
  | _ => none
theorem pow9 {i : Nat} (h : i ≤ 3) : 9 ^ i ≤ 729 := by
  match i, h with
  | 0, _ | 1, _ | 2, _ | 3, _ => omega
theorem s_l4Key {P : Program} (hm : P.follows .mixedOrders = true) {Γ : Gam} (hΓ : GS P Γ) {n : FuncId} (is : Is P n a_l4Key)  : Says P n c_l4Key := by
  refine Says.pure fun args r fs h => ?_
  split at h
  case h_2 => cases h
  rename_i c_
  split at h
  case isFalse => cases h
  rename_i hc
  obtain ⟨hc_, hc⟩ := hc
  obtain ⟨c, rfl⟩ := isI_out hc_
  simp only [ofI_ints, ofBo_bools, ofAs_asks, Option.some.injEq, Prod.mk.injEq] at h hc
  obtain ⟨rfl, rfl⟩ := h
  obtain ⟨hl3, h8⟩ := hc
  refine is.go hm hΓ k_l4Key o_l4Key (by simp [a_l4Key]) ?_
  simp only [a_l4Key, List.zipIdx_cons, List.zipIdx_nil, ↓SP, SQ, Gam.add, stepM, callC, argC, lendO, nmBy, nmC, likeL, likeB, plainOb, offs, exL, X, F, trP, trO, stepD, stepW, newA, SV.tr, SV.trL, fz, allP, Ob.tr, loadA, cellsA, SV.cells, binA, binI, eqOut, isSl, isPt, natOf, callee, snap, SV.refsL, SV.refs, thaw, fzAll, loA, hiA, elemOf, partsA, buildA, putCells, ↓reduceIte, reduceCtorEq, okCell, Nat.reduceAdd, Nat.reduceEqDiff, Nat.reduceSub, Nat.reduceMul, Nat.reduceLeDiff, Nat.reduceLT, Nat.reduceBEq, PV.scal, PV.scalL, SV.scal, SV.scalL, Ob.scal, PV.isCell, pure', resO]
  refine loop_at (fun s : Nat × SV => mkEnv [(0, .p (.sl 1 (ints c))), (2, si 0), (3, si (keyI c s.1)), (4, si s.1), (8, s.2)]) (fun s => mkO []) (fun s => s.1 ≤ c.length) (fun s => c.length - s.1) (0, .junk) (by simp) rfl rfl ?_
  rintro ⟨i, c1⟩ hi R hR hN
  simp only at hi
  by_cases h : i < c.length
  · have h1 : (i : Int) < c.length := by omega
    have hw := wrap_one (i := i) (by omega)
    have hg := ints_get h
    have hb := keyI_bd h8 i
    have hp := pow9 (i := i) (by omega)
    have h3 := in8_get h8 i
    have hwm : IntKind.i64.wrap (keyI c i * 9) = keyI c i * 9 := wrap64 (by omega) (by omega)
    have hws : IntKind.i64.wrap (keyI c i * 9 + c.getD i 0) = keyI c (i + 1) := wrap64 (by omega) (by omega)
    simp only [h1, hw, hg, hwm, hws, ↓SP, SQ, Gam.add, stepM, callC, argC, lendO, nmBy, nmC, likeL, likeB, plainOb, offs, exL, X, F, trP, trO, stepD, stepW, newA, SV.tr, SV.trL, fz, allP, Ob.tr, loadA, cellsA, SV.cells, binA, binI, eqOut, isSl, isPt, natOf, callee, snap, SV.refsL, SV.refs, thaw, fzAll, loA, hiA, elemOf, partsA, buildA, putCells, ↓reduceIte, reduceCtorEq, okCell, Nat.reduceAdd, Nat.reduceEqDiff, Nat.reduceSub, Nat.reduceMul, Nat.reduceLeDiff, Nat.reduceLT, Nat.reduceBEq, PV.scal, PV.scalL, SV.scal, SV.scalL, Ob.scal, PV.isCell, pure', resO]
    exact hN (i + 1, _) _ _ (by simp only; omega) (by simp only; omega) rfl rfl
  · have he : i = c.length := by omega
    have h1 : ¬ (i : Int) < c.length := by omega
    simp only [h1, ↓SP, SQ, Gam.add, stepM, callC, argC, lendO, nmBy, nmC, likeL, likeB, plainOb, offs, exL, X, F, trP, trO, stepD, stepW, newA, SV.tr, SV.trL, fz, allP, Ob.tr, loadA, cellsA, SV.cells, binA, binI, eqOut, isSl, isPt, natOf, callee, snap, SV.refsL, SV.refs, thaw, fzAll, loA, hiA, elemOf, partsA, buildA, putCells, ↓reduceIte, reduceCtorEq, okCell, Nat.reduceAdd, Nat.reduceEqDiff, Nat.reduceSub, Nat.reduceMul, Nat.reduceLeDiff, Nat.reduceLT, Nat.reduceBEq, PV.scal, PV.scalL, SV.scal, SV.scalL, Ob.scal, PV.isCell, pure', resO]
    refine hR _ _ _ (by intro h; cases h) ?_
    simp only [↓SP, SQ, Gam.add, stepM, callC, argC, lendO, nmBy, nmC, likeL, likeB, plainOb, offs, exL, X, F, trP, trO, stepD, stepW, newA, SV.tr, SV.trL, fz, allP, Ob.tr, loadA, cellsA, SV.cells, binA, binI, eqOut, isSl, isPt, natOf, callee, snap, SV.refsL, SV.refs, thaw, fzAll, loA, hiA, elemOf, partsA, buildA, putCells, ↓reduceIte, reduceCtorEq, okCell, Nat.reduceAdd, Nat.reduceEqDiff, Nat.reduceSub, Nat.reduceMul, Nat.reduceLeDiff, Nat.reduceLT, Nat.reduceBEq, PV.scal, PV.scalL, SV.scal, SV.scalL, Ob.scal, PV.isCell, pure', resO]
    subst he
    exact finA_val (by simp [keyL, retA, rvA, mkE_cons, mk_nil, mkO_cons, mkO_nil, loadA, SV.tr, SV.trL, nmF, rn_nil, rn_cons1, rn_cons2, plainOb, SV.refsL, SV.refs, Ob.refs, X, F, List.range_succ, mkO, setO_mk]) (by simp [SV.tr, SV.trL])
/-- The counts of a number. -/
def dg (key : Nat) : Nat → List Int
  | 0 => []
  | j + 1 => ((key / 9 ^ j % 9 : Nat) : Int) :: dg key j
theorem dg_len (key : Nat) : ∀ j, (dg key j).length = j
  | 0 => rfl
  | j + 1 => by simp [dg, dg_len key j]
theorem dg_in8 (key : Nat) : ∀ j, in8 (dg key j) = true
  | 0 => rfl
  | j + 1 => by
    have := dg_in8 key j
    simp only [in8] at this
    simp only [dg, in8, List.all_cons, this, Bool.and_true, Bool.and_eq_true, decide_eq_true_eq]
    omega
theorem dg_set (key p i : Nat) (h : i < p) : (List.replicate (p - i) (0 : Int) ++ dg key i).set (p - 1 - i) ((key / 9 ^ i % 9 : Nat) : Int) = List.replicate (p - (i + 1)) 0 ++ dg key (i + 1) := by
  have e : p - i = (p - (i + 1)) + 1 := by omega
  have e2 : p - 1 - i = p - (i + 1) := by omega
  rw [e, e2, List.replicate_succ', List.append_assoc, List.set_append_right _ _ (by simp)]
  simp [dg]
theorem tmod9 (k : Nat) : ((k : Nat) : Int).tmod 9 = ((k % 9 : Nat) : Int) := rfl
theorem tdiv9 (k : Nat) : ((k : Nat) : Int).tdiv 9 = ((k / 9 : Nat) : Int) := rfl
def a_l4Counted : AFn := ⟨2, 
  .seq (.reg [⟨some 4, none, .d (.mv (.c (.nilsl)))⟩])
  (.seq (.reg [⟨some 7, none, .d (.mv (.t 1))⟩,
    ⟨some 8, none, .w (.mkslice 1 (.int .i64 0) (.t 7))⟩,
    ⟨some 5, none, .d (.mv (.t 8))⟩])
  (.seq (.seq (.reg [⟨some 9, none, .d (.mv (.t 1))⟩,
    ⟨some 10, none, .d (.bin .arith .sub (.t 9) (.c (.int .i64 1)))⟩,
    ⟨some 6, none, .d (.mv (.t 10))⟩])
  (.block 0 (.loop (.seq (.seq (.reg [⟨some 11, none, .d (.mv (.t 6))⟩,
      ⟨some 12, none, .d (.bin .arith .geq (.t 11) (.c (.int .i64 0)))⟩])
    (.cond (.t 12) (.skip) (.exit 0)))
    (.seq (.block 1 (.seq (.reg [⟨some 15, none, .d (.mv (.t 5))⟩,
       ⟨some 16, none, .d (.mv (.t 6))⟩,
       ⟨some 17, none, .d (.mv (.t 0))⟩,
       ⟨some 18, none, .d (.bin .arith .rem (.t 17) (.c (.int .i64 9)))⟩,
       ⟨some 19, none, .d (.ia 1 (.t 15) (.t 16))⟩,
       ⟨none, none, .w (.store 1 (.t 19) (.t 18))⟩])
     (.reg [⟨some 20, none, .d (.mv (.t 0))⟩,
       ⟨some 21, none, .d (.bin .arith .quo (.t 20) (.c (.int .i64 9)))⟩,
       ⟨some 0, none, .d (.mv (.t 21))⟩])))
    (.reg [⟨some 13, none, .d (.mv (.t 6))⟩,
      ⟨some 14, none, .d (.bin .arith .sub (.t 13) (.c (.int .i64 1)))⟩,
      ⟨some 6, none, .d (.mv (.t 14))⟩]))))))
  (.seq (.reg [⟨some 22, none, .d (.mv (.t 5))⟩,
    ⟨some 4, none, .d (.mv (.t 22))⟩])
  (.ret)))), [.tmp 4]⟩
def n_l4Counted : Nat → Option Ann := fun _ => none
abbrev k_l4Counted : List Nat := [0, 1, 4, 5, 6, 12]
abbrev o_l4Counted : List Nat := [8]
def c_l4Counted : Con := pure' fun
  | [.p (.int .i64 key), .p (.int .i64 p)] => if (0 ≤ key ∧ key ≤ 1000000 ∧ 0 ≤ p ∧ p ≤ 3) then some (.ar 2000000, [.arr 1 (ints (dg key.toNat p.toNat))]) else none
  | _ => none
theorem s_l4Counted {P : Program} (hm : P.follows .mixedOrders = true) {Γ : Gam} (hΓ : GS P Γ) {n : FuncId} (is : Is P n a_l4Counted)  : Says P n c_l4Counted := by
  refine Says.pure fun args r fs h => ?_
  split at h
  case h_2 => cases h
  rename_i key p
  split at h
  case isFalse => cases h
  rename_i hc
  simp only [ofI_ints, ofBo_bools, ofAs_asks, Option.some.injEq, Prod.mk.injEq] at h hc
  obtain ⟨rfl, rfl⟩ := h
  obtain ⟨hk0, hk1, hp0, hp3⟩ := hc
  obtain ⟨key, rfl⟩ : ∃ j : Nat, key = j := ⟨key.toNat, by omega⟩
  obtain ⟨p, rfl⟩ : ∃ j : Nat, p = j := ⟨p.toNat, by omega⟩
  simp only [Int.toNat_natCast]
  have hroom : p ≤ roomA := by unfold roomA; omega
  have hp00 : (0 : Int) ≤ (p : Int) := by omega
  have hw0 : IntKind.i64.wrap ((p : Int) - 1) = (p : Int) - 1 := wrap64 (by omega) (by omega)
  refine is.go hm hΓ k_l4Counted o_l4Counted (by simp [a_l4Counted]) ?_
  simp only [a_l4Counted, hroom, hp00, hw0, Int.toNat_natCast, ints_rep, List.zipIdx_cons, List.zipIdx_nil, ↓SP, SQ, Gam.add, stepM, callC, argC, lendO, nmBy, nmC, likeL, likeB, plainOb, offs, exL, X, F, trP, trO, stepD, stepW, newA, SV.tr, SV.trL, fz, allP, Ob.tr, loadA, cellsA, SV.cells, binA, binI, eqOut, isSl, isPt, natOf, callee, snap, SV.refsL, SV.refs, thaw, fzAll, loA, hiA, elemOf, partsA, buildA, putCells, ↓reduceIte, reduceCtorEq, okCell, Nat.reduceAdd, Nat.reduceEqDiff, Nat.reduceSub, Nat.reduceMul, Nat.reduceLeDiff, Nat.reduceLT, Nat.reduceBEq, PV.scal, PV.scalL, SV.scal, SV.scalL, Ob.scal, PV.isCell, pure', resO]
  refine loop_at (fun s : Nat × SV => mkEnv [(0, si ((key / 9 ^ s.1 : Nat) : Int)), (1, si p), (4, .p .nilsl), (5, .ar 8), (6, si ((p : Int) - 1 - s.1)), (12, s.2)]) (fun s => mkO [(8, some (.arr 1 (ints (List.replicate (p - s.1) 0 ++ dg key s.1))))]) (fun s => s.1 ≤ p) (fun s => p - s.1) (0, .junk) (by simp) (by simp) (by simp [dg]) ?_
  rintro ⟨i, c1⟩ hi R hR hN
  simp only at hi
  by_cases h : i < p
  · have h1 : (p : Int) - 1 - i ≥ 0 := by omega
    have h1' : (0 : Int) ≤ (p : Int) - 1 - i := h1
    have hn : ((p : Int) - 1 - i).toNat = p - 1 - i := by omega
    have hlen : (List.replicate (p - i) (0 : Int) ++ dg key i).length = p := by simp [dg_len]; omega
    have hlt : p - 1 - i < p := by omega
    have hle := Nat.div_le_self key (9 ^ i)
    have hwq : IntKind.i64.wrap ((key / 9 ^ i / 9 : Nat) : Int) = ((key / 9 ^ (i + 1) : Nat) : Int) := by
      have e9 : 9 ^ i * 9 = 9 ^ (i + 1) := (Nat.pow_succ 9 i).symm
      rw [Nat.div_div_eq_div_mul, e9]
      have hz := Nat.div_le_self key (9 ^ (i + 1))
      generalize key / 9 ^ (i + 1) = z at hz
      exact wrap64 (by omega) (by omega)
    have hwi : IntKind.i64.wrap ((p : Int) - 1 - i - 1) = (p : Int) - 1 - ((i + 1 : Nat) : Int) := by rw [wrap64 (by omega) (by omega)]; omega
    have hset := dg_set key p i h
    obtain ⟨e, he⟩ : ∃ e, (ints (List.replicate (p - i) (0 : Int) ++ dg key i))[p - 1 - i]? = some e := ⟨_, List.getElem?_eq_getElem (by rw [ints_len, hlen]; exact hlt)⟩
    simp only [h1, h1', hn, hlen, hlt, he, tmod9, tdiv9, hwq, hwi, ints_len, ints_set, hset, Int.reduceEq, ↓SP, SQ, Gam.add, stepM, callC, argC, lendO, nmBy, nmC, likeL, likeB, plainOb, offs, exL, X, F, trP, trO, stepD, stepW, newA, SV.tr, SV.trL, fz, allP, Ob.tr, loadA, cellsA, SV.cells, binA, binI, eqOut, isSl, isPt, natOf, callee, snap, SV.refsL, SV.refs, thaw, fzAll, loA, hiA, elemOf, partsA, buildA, putCells, ↓reduceIte, reduceCtorEq, okCell, Nat.reduceAdd, Nat.reduceEqDiff, Nat.reduceSub, Nat.reduceMul, Nat.reduceLeDiff, Nat.reduceLT, Nat.reduceBEq, PV.scal, PV.scalL, SV.scal, SV.scalL, Ob.scal, PV.isCell, pure', resO]
    exact hN (i + 1, _) _ _ (by simp only; omega) (by simp only; omega) rfl rfl
  · have he : i = p := by omega
    have h1 : ¬ (p : Int) - 1 - i ≥ 0 := by omega
    simp only [h1, ↓SP, SQ, Gam.add, stepM, callC, argC, lendO, nmBy, nmC, likeL, likeB, plainOb, offs, exL, X, F, trP, trO, stepD, stepW, newA, SV.tr, SV.trL, fz, allP, Ob.tr, loadA, cellsA, SV.cells, binA, binI, eqOut, isSl, isPt, natOf, callee, snap, SV.refsL, SV.refs, thaw, fzAll, loA, hiA, elemOf, partsA, buildA, putCells, ↓reduceIte, reduceCtorEq, okCell, Nat.reduceAdd, Nat.reduceEqDiff, Nat.reduceSub, Nat.reduceMul, Nat.reduceLeDiff, Nat.reduceLT, Nat.reduceBEq, PV.scal, PV.scalL, SV.scal, SV.scalL, Ob.scal, PV.isCell, pure', resO]
    refine hR _ _ _ (by intro h; cases h) ?_
    simp only [↓SP, SQ, Gam.add, stepM, callC, argC, lendO, nmBy, nmC, likeL, likeB, plainOb, offs, exL, X, F, trP, trO, stepD, stepW, newA, SV.tr, SV.trL, fz, allP, Ob.tr, loadA, cellsA, SV.cells, binA, binI, eqOut, isSl, isPt, natOf, callee, snap, SV.refsL, SV.refs, thaw, fzAll, loA, hiA, elemOf, partsA, buildA, putCells, ↓reduceIte, reduceCtorEq, okCell, Nat.reduceAdd, Nat.reduceEqDiff, Nat.reduceSub, Nat.reduceMul, Nat.reduceLeDiff, Nat.reduceLT, Nat.reduceBEq, PV.scal, PV.scalL, SV.scal, SV.scalL, Ob.scal, PV.isCell, pure', resO]
    subst he
    have hfe : List.replicate (i - i) (0 : Int) ++ dg key i = dg key i := by simp
    refine finA_gen [8] trivial (by simp [retA, rvA, mkE_cons, mk_nil, mkO_cons, mkO_nil, loadA, SV.tr, SV.trL, nmF, rn_nil, rn_cons1, rn_cons2, plainOb, SV.refsL, SV.refs, Ob.refs, X, F, List.range_succ, mkO, setO_mk]; rfl) ?_ ?_ ?_ ?_ ?_ ?_ ?_ <;> simp [hfe, retA, rvA, mkE_cons, mk_nil, mkO_cons, mkO_nil, loadA, SV.tr, SV.trL, nmF, rn_nil, rn_cons1, rn_cons2, plainOb, SV.refsL, SV.refs, Ob.refs, X, F, List.range_succ, mkO, setO_mk]
def keyN (c : List Int) : Nat := (keyL c).toNat
theorem keyN_bd {c : List Int} {p : Nat} (hl : c.length = p) (h8 : in8 c = true) : 0 ≤ keyL c ∧ keyN c < 9 ^ p := by
  have h := keyI_bd h8 c.length
  subst hl
  refine ⟨h.1, ?_⟩
  have h2 : keyL c < ((9 ^ c.length : Nat) : Int) := h.2
  have h1 : 0 ≤ keyL c := h.1
  simp only [keyN]; omega
/-- Counts whose splits lead to counts. -/
def isOKw (c : List Int) : Bool := decide (1 ≤ c.length) && decide (c.length ≤ 3) && in8 c && (splL c).all fun s => in8 (yesL c s) && in8 (noL c s)
theorem isOKw_out {c : List Int} (h : isOKw c = true) : 1 ≤ c.length ∧ c.length ≤ 3 ∧ in8 c = true ∧ ∀ s ∈ splL c, in8 (yesL c s) = true ∧ in8 (noL c s) = true := by
  simp only [isOKw, Bool.and_eq_true, decide_eq_true_eq, List.all_eq_true] at h
  exact ⟨h.1.1.1, h.1.1.2, h.1.2, h.2⟩
def wiQ (tab c s : List Int) : Bool := decide (0 ≤ tab.getD (keyN (yesL c s)) 0) && decide (0 ≤ tab.getD (keyN (noL c s)) 0)
def a_l4Within (f_l4Splits : FuncId) (f_l4Yes : FuncId) (f_l4Key : FuncId) (f_l4No : FuncId) : AFn := ⟨2, 
  .seq (.reg [⟨some 4, none, .d (.mv (.c (.bool false)))⟩])
  (.seq (.reg [⟨some 7, none, .d (.mv (.t 0))⟩,
    ⟨some 8, none, .d (.call (.f f_l4Splits) [(.t 7)])⟩,
    ⟨some 5, none, .d (.mv (.t 8))⟩])
  (.seq (.seq (.reg [⟨some 6, none, .d (.mv (.c (.int .i64 0)))⟩])
  (.block 0 (.loop (.seq (.seq (.reg [⟨some 9, none, .d (.mv (.t 6))⟩,
      ⟨some 10, none, .d (.mv (.t 5))⟩,
      ⟨some 11, none, .d (.len (.t 10))⟩,
      ⟨some 12, none, .d (.bin .arith .lss (.t 9) (.t 11))⟩])
    (.cond (.t 12) (.skip) (.exit 0)))
    (.seq (.block 1 (.seq (.reg [⟨some 15, none, .d (.mv (.t 1))⟩,
       ⟨some 16, none, .d (.mv (.t 0))⟩,
       ⟨some 17, none, .d (.mv (.t 5))⟩,
       ⟨some 18, none, .d (.mv (.t 6))⟩,
       ⟨some 19, none, .d (.ia 1 (.t 17) (.t 18))⟩,
       ⟨some 20, none, .d (.load false 1 (.t 19))⟩,
       ⟨some 21, none, .d (.call (.f f_l4Yes) [(.t 16), (.t 20)])⟩,
       ⟨some 22, none, .d (.call (.f f_l4Key) [(.t 21)])⟩,
       ⟨some 23, none, .d (.ia 1 (.t 15) (.t 22))⟩,
       ⟨some 24, none, .d (.load false 1 (.t 23))⟩,
       ⟨some 25, none, .d (.bin .arith .geq (.t 24) (.c (.int .i64 0)))⟩,
       ⟨some 26, none, .d (.mv (.t 25))⟩,
       ⟨some 27, some (26, true), .d (.mv (.t 1))⟩,
       ⟨some 28, some (26, true), .d (.mv (.t 0))⟩,
       ⟨some 29, some (26, true), .d (.mv (.t 5))⟩,
       ⟨some 30, some (26, true), .d (.mv (.t 6))⟩,
       ⟨some 31, some (26, true), .d (.ia 1 (.t 29) (.t 30))⟩,
       ⟨some 32, some (26, true), .d (.load false 1 (.t 31))⟩,
       ⟨some 33, some (26, true), .d (.call (.f f_l4No) [(.t 28), (.t 32)])⟩,
       ⟨some 34, some (26, true), .d (.call (.f f_l4Key) [(.t 33)])⟩,
       ⟨some 35, some (26, true), .d (.ia 1 (.t 27) (.t 34))⟩,
       ⟨some 36, some (26, true), .d (.load false 1 (.t 35))⟩,
       ⟨some 37, some (26, true), .d (.bin .arith .geq (.t 36) (.c (.int .i64 0)))⟩,
       ⟨some 38, none, .d (.pick (.t 26) (.t 37) (.c (.bool false)))⟩])
     (.cond (.t 38) (.seq (.reg [⟨some 4, none, .d (.mv (.c (.bool true)))⟩])
      (.ret)) (.skip))))
    (.reg [⟨some 13, none, .d (.mv (.t 6))⟩,
      ⟨some 14, none, .d (.bin .arith .add (.t 13) (.c (.int .i64 1)))⟩,
      ⟨some 6, none, .d (.mv (.t 14))⟩]))))))
  (.seq (.reg [⟨some 4, none, .d (.mv (.c (.bool false)))⟩])
  (.ret)))), [.tmp 4]⟩
def n_l4Within : Nat → Option Ann := fun _ => none
abbrev k_l4Within : List Nat := [0, 1, 4, 5, 6, 12, 38]
abbrev o_l4Within : List Nat := []
def c_l4Within : Con := pure' fun
  | [.p (.sl 1 c_), .p (.sl 1 tab_)] => if isI c_ = true ∧ isI tab_ = true ∧ (isOKw (ofI c_) = true ∧ (ofI tab_).length = 9 ^ (ofI c_).length) then some (.p (.bool ((splL (ofI c_)).any (wiQ (ofI tab_) (ofI c_)))), []) else none
  | _ => none
theorem s_l4Within {P : Program} (hm : P.follows .mixedOrders = true) {Γ : Gam} (hΓ : GS P Γ) {n : FuncId} {f_l4Splits : FuncId} {f_l4Yes : FuncId} {f_l4Key : FuncId} {f_l4No : FuncId} (is : Is P n (a_l4Within f_l4Splits f_l4Yes f_l4Key f_l4No)) (h_l4Splits : Γ f_l4Splits = c_splits) (h_l4Yes : Γ f_l4Yes = c_l4Yes) (h_l4Key : Γ f_l4Key = c_l4Key) (h_l4No : Γ f_l4No = c_l4No)  : Says P n c_l4Within := by
  refine Says.pure fun args r fs h => ?_
  split at h
  case h_2 => cases h
  rename_i c_ tab_
  split at h
  case isFalse => cases h
  rename_i hc
  obtain ⟨hc_, hc⟩ := hc
  obtain ⟨c, rfl⟩ := isI_out hc_
  obtain ⟨htab_, hc⟩ := hc
  obtain ⟨tab, rfl⟩ := isI_out htab_
  simp only [ofI_ints, ofBo_bools, ofAs_asks, Option.some.injEq, Prod.mk.injEq] at h hc
  obtain ⟨rfl, rfl⟩ := h
  obtain ⟨hok, htl⟩ := hc
  obtain ⟨h1l, hl3, h8, hin⟩ := isOKw_out hok
  have hp := pow9 hl3
  have hb3 : bd 1000 c = true := bd_in8 h8 (by omega)
  have hb4 : bd 10000 c = true := bd_in8 h8 (by omega)
  have hcl : c.length ≤ 1100000 := by omega
  have hsl := spI_len3 h8 hl3
  have hsl2 : (splL c).length ≤ 729 := hsl
  refine is.go hm hΓ k_l4Within o_l4Within (by simp [a_l4Within]) ?_
  simp only [a_l4Within, h_l4Splits, c_splits, h_l4Yes, c_l4Yes, h_l4Key, c_l4Key, h_l4No, c_l4No, hl3, h8, List.zipIdx_cons, List.zipIdx_nil, ↓SP, SQ, Gam.add, stepM, callC, argC, lendO, nmBy, nmC, likeL, likeB, plainOb, offs, exL, X, F, trP, trO, stepD, stepW, newA, SV.tr, SV.trL, fz, allP, Ob.tr, loadA, cellsA, SV.cells, binA, binI, eqOut, isSl, isPt, natOf, callee, snap, SV.refsL, SV.refs, thaw, fzAll, loA, hiA, elemOf, partsA, buildA, putCells, ↓reduceIte, reduceCtorEq, okCell, Nat.reduceAdd, Nat.reduceEqDiff, Nat.reduceSub, Nat.reduceMul, Nat.reduceLeDiff, Nat.reduceLT, Nat.reduceBEq, PV.scal, PV.scalL, SV.scal, SV.scalL, Ob.scal, PV.isCell, pure', resO]
  refine loop_at (fun s : J => mkEnv [(0, .p (.sl 1 (ints c))), (1, .p (.sl 1 (ints tab))), (4, sb false), (5, .p (.sl 1 (sls (splL c)))), (6, si s.i), (12, s.a), (38, s.b)]) (fun s => mkO []) (fun s => s.i ≤ (splL c).length ∧ ∀ j, j < s.i → wiQ tab c ((splL c).getD j []) = false) (fun s => (splL c).length - s.i) ⟨0, .junk, .junk, .junk, .junk, .junk, .junk, .junk, .junk, .junk, .junk, .junk, .junk, none, none, none⟩ (by simp) rfl rfl ?_
  rintro ⟨i, c1, c2, c3, c4, c5, c6, c7, c8, c9, c10, c11, c12, o1, o2, o3⟩ ⟨hi, hq⟩ R hR hN
  simp only at hi hq
  by_cases h : i < (splL c).length
  · have h1 : (i : Int) < (splL c).length := by omega
    have hw := wrap_one (i := i) (by omega)
    have hg := sls_get h
    obtain ⟨s, hs⟩ : ∃ s, (splL c).getD i [] = s := ⟨_, rfl⟩
    have hsm : s ∈ splL c := by rw [← hs, getD_lt h]; exact List.getElem_mem h
    rw [hs] at hg
    have hslen := spl_len hsm
    have hs8 := spl_in8 h8 hsm
    have hbs3 : bd 1000 s = true := bd_in8 hs8 (by omega)
    have hbs4 : bd 10000 s = true := bd_in8 hs8 (by omega)
    obtain ⟨hy8, hn8⟩ := hin s hsm
    have hyl : (yesL c s).length = c.length := by rw [yesL_len, hslen]
    have hnl : (noL c s).length = c.length := by rw [noL_len, hslen]
    have hyl3 : (yesL c s).length ≤ 3 := by omega
    have hnl3 : (noL c s).length ≤ 3 := by omega
    obtain ⟨y0, y1⟩ := keyN_bd (p := c.length) hyl hy8
    obtain ⟨n0, n1⟩ := keyN_bd (p := c.length) hnl hn8
    have hgy := ints_get (l := tab) (i := keyN (yesL c s)) (by omega)
    have hgn := ints_get (l := tab) (i := keyN (noL c s)) (by omega)
    have ey : (keyL (yesL c s)).toNat = keyN (yesL c s) := rfl
    have en : (keyL (noL c s)).toNat = keyN (noL c s) := rfl
    by_cases a1 : tab.getD (keyN (yesL c s)) 0 ≥ 0
    · by_cases a2 : tab.getD (keyN (noL c s)) 0 ≥ 0
      · have hwq : wiQ tab c s = true := by simp only [wiQ, dec_t (show 0 ≤ tab.getD (keyN (yesL c s)) 0 from a1), dec_t (show 0 ≤ tab.getD (keyN (noL c s)) 0 from a2), Bool.and_self]
        have hres : ((splL c).any (wiQ tab c)) = true := List.any_eq_true.2 ⟨s, hsm, hwq⟩
        simp only [h1, hw, hg, hcl, h1l, hslen, hb3, hb4, hbs3, hbs4, hy8, hn8, hyl3, hnl3, y0, n0, ey, en, hgy, hgn, a1, a2, sls_len, h_l4Yes, c_l4Yes, h_l4No, c_l4No, h_l4Key, c_l4Key, ints_len, isI_ints, ofI_ints, ↓SP, SQ, Gam.add, stepM, callC, argC, lendO, nmBy, nmC, likeL, likeB, plainOb, offs, exL, X, F, trP, trO, stepD, stepW, newA, SV.tr, SV.trL, fz, allP, Ob.tr, loadA, cellsA, SV.cells, binA, binI, eqOut, isSl, isPt, natOf, callee, snap, SV.refsL, SV.refs, thaw, fzAll, loA, hiA, elemOf, partsA, buildA, putCells, ↓reduceIte, reduceCtorEq, okCell, Nat.reduceAdd, Nat.reduceEqDiff, Nat.reduceSub, Nat.reduceMul, Nat.reduceLeDiff, Nat.reduceLT, Nat.reduceBEq, PV.scal, PV.scalL, SV.scal, SV.scalL, Ob.scal, PV.isCell, pure', resO]
        refine hR _ _ _ (by intro h; cases h) ?_
        simp only [hres, ↓SP, SQ, Gam.add, stepM, callC, argC, lendO, nmBy, nmC, likeL, likeB, plainOb, offs, exL, X, F, trP, trO, stepD, stepW, newA, SV.tr, SV.trL, fz, allP, Ob.tr, loadA, cellsA, SV.cells, binA, binI, eqOut, isSl, isPt, natOf, callee, snap, SV.refsL, SV.refs, thaw, fzAll, loA, hiA, elemOf, partsA, buildA, putCells, ↓reduceIte, reduceCtorEq, okCell, Nat.reduceAdd, Nat.reduceEqDiff, Nat.reduceSub, Nat.reduceMul, Nat.reduceLeDiff, Nat.reduceLT, Nat.reduceBEq, PV.scal, PV.scalL, SV.scal, SV.scalL, Ob.scal, PV.isCell, pure', resO]
        exact finA_val (by simp [retA, rvA, mkE_cons, mk_nil, mkO_cons, mkO_nil, loadA, SV.tr, SV.trL, nmF, rn_nil, rn_cons1, rn_cons2, plainOb, SV.refsL, SV.refs, Ob.refs, X, F, List.range_succ, mkO, setO_mk]) (by simp [SV.tr, SV.trL])
      · have hwq : wiQ tab c s = false := by simp only [wiQ, dec_f (show ¬ 0 ≤ tab.getD (keyN (noL c s)) 0 from a2), Bool.and_false]
        simp only [h1, hw, hg, hcl, h1l, hslen, hb3, hb4, hbs3, hbs4, hy8, hn8, hyl3, hnl3, y0, n0, ey, en, hgy, hgn, a1, a2, sls_len, h_l4Yes, c_l4Yes, h_l4No, c_l4No, h_l4Key, c_l4Key, ints_len, isI_ints, ofI_ints, ↓SP, SQ, Gam.add, stepM, callC, argC, lendO, nmBy, nmC, likeL, likeB, plainOb, offs, exL, X, F, trP, trO, stepD, stepW, newA, SV.tr, SV.trL, fz, allP, Ob.tr, loadA, cellsA, SV.cells, binA, binI, eqOut, isSl, isPt, natOf, callee, snap, SV.refsL, SV.refs, thaw, fzAll, loA, hiA, elemOf, partsA, buildA, putCells, ↓reduceIte, reduceCtorEq, okCell, Nat.reduceAdd, Nat.reduceEqDiff, Nat.reduceSub, Nat.reduceMul, Nat.reduceLeDiff, Nat.reduceLT, Nat.reduceBEq, PV.scal, PV.scalL, SV.scal, SV.scalL, Ob.scal, PV.isCell, pure', resO]
        refine hN ⟨i + 1, _, _, .junk, .junk, .junk, .junk, .junk, .junk, .junk, .junk, .junk, .junk, none, none, none⟩ _ _ ⟨by simp only; omega, fun j hj => ?_⟩ (by simp only; omega) rfl rfl
        simp only at hj
        by_cases hji : j = i
        · rw [hji, hs]; exact hwq
        · exact hq j (by omega)
    · have hwq : wiQ tab c s = false := by simp only [wiQ, dec_f (show ¬ 0 ≤ tab.getD (keyN (yesL c s)) 0 from a1), Bool.false_and]
      simp only [h1, hw, hg, hcl, h1l, hslen, hb3, hb4, hbs3, hbs4, hy8, hn8, hyl3, hnl3, y0, n0, ey, en, hgy, hgn, a1, sls_len, h_l4Yes, c_l4Yes, h_l4No, c_l4No, h_l4Key, c_l4Key, ints_len, isI_ints, ofI_ints, ↓SP, SQ, Gam.add, stepM, callC, argC, lendO, nmBy, nmC, likeL, likeB, plainOb, offs, exL, X, F, trP, trO, stepD, stepW, newA, SV.tr, SV.trL, fz, allP, Ob.tr, loadA, cellsA, SV.cells, binA, binI, eqOut, isSl, isPt, natOf, callee, snap, SV.refsL, SV.refs, thaw, fzAll, loA, hiA, elemOf, partsA, buildA, putCells, ↓reduceIte, reduceCtorEq, okCell, Nat.reduceAdd, Nat.reduceEqDiff, Nat.reduceSub, Nat.reduceMul, Nat.reduceLeDiff, Nat.reduceLT, Nat.reduceBEq, PV.scal, PV.scalL, SV.scal, SV.scalL, Ob.scal, PV.isCell, pure', resO]
      refine hN ⟨i + 1, _, _, .junk, .junk, .junk, .junk, .junk, .junk, .junk, .junk, .junk, .junk, none, none, none⟩ _ _ ⟨by simp only; omega, fun j hj => ?_⟩ (by simp only; omega) rfl rfl
      simp only at hj
      by_cases hji : j = i
      · rw [hji, hs]; exact hwq
      · exact hq j (by omega)
  · have he : i = (splL c).length := by omega
    have h1 : ¬ (i : Int) < (splL c).length := by omega
    have hres : ((splL c).any (wiQ tab c)) = false := by
      rw [Bool.eq_false_iff]; intro e
      obtain ⟨s, hs, hb⟩ := List.any_eq_true.1 e
      obtain ⟨j, hj, ej⟩ := List.getElem_of_mem hs
      have := hq j (by omega)
      rw [getD_lt hj, ej, hb] at this; cases this
    simp only [h1, sls_len, ↓SP, SQ, Gam.add, stepM, callC, argC, lendO, nmBy, nmC, likeL, likeB, plainOb, offs, exL, X, F, trP, trO, stepD, stepW, newA, SV.tr, SV.trL, fz, allP, Ob.tr, loadA, cellsA, SV.cells, binA, binI, eqOut, isSl, isPt, natOf, callee, snap, SV.refsL, SV.refs, thaw, fzAll, loA, hiA, elemOf, partsA, buildA, putCells, ↓reduceIte, reduceCtorEq, okCell, Nat.reduceAdd, Nat.reduceEqDiff, Nat.reduceSub, Nat.reduceMul, Nat.reduceLeDiff, Nat.reduceLT, Nat.reduceBEq, PV.scal, PV.scalL, SV.scal, SV.scalL, Ob.scal, PV.isCell, pure', resO]
    refine hR _ _ _ (by intro h; cases h) ?_
    simp only [hres, ↓SP, SQ, Gam.add, stepM, callC, argC, lendO, nmBy, nmC, likeL, likeB, plainOb, offs, exL, X, F, trP, trO, stepD, stepW, newA, SV.tr, SV.trL, fz, allP, Ob.tr, loadA, cellsA, SV.cells, binA, binI, eqOut, isSl, isPt, natOf, callee, snap, SV.refsL, SV.refs, thaw, fzAll, loA, hiA, elemOf, partsA, buildA, putCells, ↓reduceIte, reduceCtorEq, okCell, Nat.reduceAdd, Nat.reduceEqDiff, Nat.reduceSub, Nat.reduceMul, Nat.reduceLeDiff, Nat.reduceLT, Nat.reduceBEq, PV.scal, PV.scalL, SV.scal, SV.scalL, Ob.scal, PV.isCell, pure', resO]
    exact finA_val (by simp [retA, rvA, mkE_cons, mk_nil, mkO_cons, mkO_nil, loadA, SV.tr, SV.trL, nmF, rn_nil, rn_cons1, rn_cons2, plainOb, SV.refsL, SV.refs, Ob.refs, X, F, List.range_succ, mkO, setO_mk]) (by simp [SV.tr, SV.trL])
theorem dg_key {c : List Int} {p : Nat} (hl : c.length = p) (hp : p ≤ 3) (h8 : in8 c = true) : dg (keyN c) p = c := by
  have q := in8_get h8
  match c, hl, hp with
  | [], hl, _ => subst hl; rfl
  | [a], hl, _ =>
    subst hl
    have h0 := q 0
    simp only [List.getD_cons_zero] at h0
    simp only [keyN, keyL, keyI, List.length_cons, List.length_nil, dg, List.getD_cons_zero]
    congr 1; omega
  | [a, b], hl, _ =>
    subst hl
    have h0 := q 0
    have h1 := q 1
    simp only [List.getD_cons_zero, List.getD_cons_succ] at h0 h1
    simp only [keyN, keyL, keyI, List.length_cons, List.length_nil, dg, List.getD_cons_zero, List.getD_cons_succ]
    congr 1
    · omega
    · congr 1; omega
  | [a, b, d], hl, _ =>
    subst hl
    have h0 := q 0
    have h1 := q 1
    have h2 := q 2
    simp only [List.getD_cons_zero, List.getD_cons_succ] at h0 h1 h2
    simp only [keyN, keyL, keyI, List.length_cons, List.length_nil, dg, List.getD_cons_zero, List.getD_cons_succ]
    congr 1
    · omega
    · congr 1
      · omega
      · congr 1; omega
def valK (nt : List Int → Nat) (p k key : Nat) : Int := if (dg key p).sum ≤ 8 ∧ nt (pad3 (dg key p)) ≤ k then (nt (pad3 (dg key p)) : Int) else -1
def tabK (nt : List Int → Nat) (p k : Nat) : List Int := (List.range (9 ^ p)).map (valK nt p k)
theorem tabK_len (nt : List Int → Nat) (p k : Nat) : (tabK nt p k).length = 9 ^ p := by simp [tabK]
theorem tabK_get {nt : List Int → Nat} {p k key : Nat} (h : key < 9 ^ p) : (tabK nt p k).getD key 0 = valK nt p k key := by
  rw [getD_lt (by rw [tabK_len]; exact h)]; simp [tabK]
def lfK (nt : List Int → Nat) (p k : Nat) : List Nat := (List.range (9 ^ p)).filter fun key => decide ((dg key p).sum ≤ 8) && decide (k < nt (pad3 (dg key p)))
theorem tabK_at {nt : List Int → Nat} {p k : Nat} {c : List Int} (hl : c.length = p) (hp : p ≤ 3) (h8 : in8 c = true) (hs : c.sum ≤ 8) : (tabK nt p k).getD (keyN c) 0 = if nt (pad3 c) ≤ k then (nt (pad3 c) : Int) else -1 := by
  rw [tabK_get (keyN_bd hl h8).2, valK, dg_key hl hp h8]
  by_cases h : nt (pad3 c) ≤ k
  · simp [hs, h]
  · simp [h]
/-- The check, for all counts of so many places. -/
def okPl (both : Bool) (nt : List Int → Nat) (p : Nat) : Prop := ∀ key, key < 9 ^ p → (dg key p).sum ≤ 8 → chkT both nt (dg key p) = true
theorem pad_sum {c : List Int} (hl : c.length ≤ 3) (h : inT (pad3 c) = true) : in8 c = true ∧ c.sum ≤ 8 := by
  match c, hl with
  | [], _ => exact ⟨rfl, by simp⟩
  | [a], _ =>
    simp [pad3, inT] at h
    refine ⟨by simp [in8]; omega, by simp; omega⟩
  | [a, b], _ =>
    simp [pad3, inT] at h
    refine ⟨by simp [in8]; omega, by simp; omega⟩
  | [a, b, d], _ =>
    simp [pad3, inT] at h
    refine ⟨by simp [in8]; omega, by simp; omega⟩
theorem okP_3 {both : Bool} {nt : List Int → Nat} (h : (allT.all fun t => chkT both nt t) = true) : okPl both nt 3 := by
  intro key hk hs
  have h8 := dg_in8 key 3
  refine List.all_eq_true.1 h _ (mem_allT.2 ?_)
  have q := in8_get h8
  simp only [dg, in8, List.all_cons, List.all_nil, Bool.and_true, Bool.and_eq_true, decide_eq_true_eq] at h8
  simp only [dg, List.sum_cons, List.sum_nil] at hs
  simp only [dg, inT, Bool.and_eq_true, decide_eq_true_eq]
  omega
theorem okP_of {both : Bool} {nt : List Int → Nat} {p : Nat} (h : ((List.range (9 ^ p)).all fun key => decide (8 < (dg key p).sum) || chkT both nt (dg key p)) = true) : okPl both nt p := by
  intro key hk hs
  have := List.all_eq_true.1 h key (List.mem_range.2 hk)
  simp only [Bool.or_eq_true, decide_eq_true_eq] at this
  rcases this with g | g
  · omega
  · exact g
theorem okP_B {p : Nat} (h1 : 1 ≤ p) (h3 : p ≤ 3) : okPl true (ntT tabB) p := by
  match p, h1, h3 with
  | 1, _, _ => exact okP_of (by decide +kernel)
  | 2, _, _ => exact okP_of (by decide +kernel)
  | 3, _, _ => exact okP_3 chkB3
/-- Counts that stand open. -/
theorem open_okw {p : Nat} (h1 : 1 ≤ p) (h3 : p ≤ 3) {key : Nat} (hk : key < 9 ^ p) (hs : (dg key p).sum ≤ 8) (hu : told (dg key p) = false) : isOKw (dg key p) = true := by
  have h := okP_B h1 h3 key hk hs
  simp only [chkT, hu, Bool.false_eq_true, if_false, Bool.and_eq_true] at h
  have hlen := dg_len key p
  simp only [isOKw, hlen, dec_t h1, dec_t h3, dg_in8, Bool.true_and, List.all_eq_true, Bool.and_eq_true]
  intro s hsm
  have h2 := chk_inn h.2 hsm
  have hsl := spl_len hsm
  rw [hlen] at hsl
  have e1 := pad_sum (c := yb true (dg key p) s) (by simp only [yb, if_true]; rw [yesL_len]; omega) (mem_allT.1 h2.1)
  have e2 := pad_sum (c := noL (dg key p) s) (by rw [noL_len]; omega) (mem_allT.1 h2.2)
  exact ⟨e1.1, e2.1⟩
theorem zero_told {both : Bool} {nt : List Int → Nat} {p : Nat} (h : okPl both nt p) {key : Nat} (hk : key < 9 ^ p) (hs : (dg key p).sum ≤ 8) : nt (pad3 (dg key p)) = 0 ↔ told (dg key p) = true := by
  have := h key hk hs
  simp only [chkT] at this
  by_cases ht : told (dg key p) = true
  · simp only [ht, if_true, beq_iff_eq] at this
    exact ⟨fun _ => ht, fun _ => this⟩
  · simp only [ht, Bool.false_eq_true, if_false, Bool.and_eq_true, decide_eq_true_eq] at this
    exact ⟨fun e => by omega, fun e => absurd e ht⟩
theorem chk_of {both : Bool} {nt : List Int → Nat} {p : Nat} (h : okPl both nt p) {key : Nat} (hk : key < 9 ^ p) (hs : (dg key p).sum ≤ 8) (hu : told (dg key p) = false) : chkN both nt (dg key p) = true := by
  have := h key hk hs
  simp only [chkT, hu, Bool.false_eq_true, if_false, Bool.and_eq_true] at this
  exact this.2
/-- What the reference finds of counts that stand open: by both rules. -/
theorem wi_any {p k : Nat} {nt : List Int → Nat} (hok : okPl true nt p) (h3 : p ≤ 3) {key : Nat} (hk : key < 9 ^ p) (hs : (dg key p).sum ≤ 8) (hu : told (dg key p) = false) : ((splL (dg key p)).any (wiQ (tabK nt p k) (dg key p))) = decide (nt (pad3 (dg key p)) ≤ k + 1) := by
  have hch := chk_of hok hk hs hu
  have hlen := dg_len key p
  rw [← chk_wit hch k, Bool.eq_iff_iff, List.any_eq_true, List.any_eq_true]
  have key2 : ∀ s ∈ splL (dg key p), wiQ (tabK nt p k) (dg key p) s = (decide (nt (pad3 (yb true (dg key p) s)) ≤ k) && decide (nt (pad3 (noL (dg key p) s)) ≤ k)) := fun s hsm => by
    have h2 := chk_inn hch hsm
    have hsl := spl_len hsm
    rw [hlen] at hsl
    have hy : (yesL (dg key p) s).length = p := by rw [yesL_len, hsl]
    have hn : (noL (dg key p) s).length = p := by rw [noL_len, hsl]
    have e1 := pad_sum (c := yesL (dg key p) s) (by omega) (mem_allT.1 h2.1)
    have e2 := pad_sum (c := noL (dg key p) s) (by omega) (mem_allT.1 h2.2)
    simp only [wiQ, tabK_at hy h3 e1.1 e1.2, tabK_at hn h3 e2.1 e2.2, yb, if_true]
    congr 1
    · by_cases g : nt (pad3 (yesL (dg key p) s)) ≤ k
      · rw [if_pos g, dec_t g, dec_t (by omega)]
      · rw [if_neg g, dec_f g, dec_f (by omega)]
    · by_cases g : nt (pad3 (noL (dg key p) s)) ≤ k
      · rw [if_pos g, dec_t g, dec_t (by omega)]
      · rw [if_neg g, dec_f g, dec_f (by omega)]
  constructor
  · rintro ⟨s, hsm, hb⟩; exact ⟨s, hsm, by rw [← key2 s hsm]; exact hb⟩
  · rintro ⟨s, hsm, hb⟩; exact ⟨s, hsm, by rw [key2 s hsm]; exact hb⟩
def nz (L : List Nat) : List Int := L.map fun n : Nat => (n : Int)
theorem nz_len (L : List Nat) : (nz L).length = L.length := by simp [nz]
theorem nz_get {L : List Nat} {i : Nat} (h : i < L.length) : (ints (nz L))[i]? = some (.int .i64 ((L.getD i 0 : Nat) : Int)) := by
  rw [ints_get (by rw [nz_len]; exact h)]
  rw [getD_lt (by rw [nz_len]; exact h), getD_lt h]; simp [nz]
theorem nz_app (L : List Nat) (n : Nat) : nz L ++ [(n : Int)] = nz (L ++ [n]) := by simp [nz]
theorem lf_next {nt : List Int → Nat} {p k : Nat} : (lfK nt p k).filter (fun key => !decide (nt (pad3 (dg key p)) ≤ k + 1)) = lfK nt p (k + 1) := by
  simp only [lfK, List.filter_filter]
  apply List.filter_congr
  intro key _
  rw [Bool.eq_iff_iff]
  simp only [Bool.and_eq_true, Bool.not_eq_true', decide_eq_true_eq, decide_eq_false_iff_not]
  omega
theorem lf_len (nt : List Int → Nat) (p k : Nat) : (lfK nt p k).length ≤ 9 ^ p := by
  have := List.length_filter_le (fun key => decide ((dg key p).sum ≤ 8) && decide (k < nt (pad3 (dg key p)))) (List.range (9 ^ p))
  rw [List.length_range] at this
  exact this
theorem lf_mem {nt : List Int → Nat} {p k key : Nat} (h : key ∈ lfK nt p k) : key < 9 ^ p ∧ (dg key p).sum ≤ 8 ∧ k < nt (pad3 (dg key p)) := by
  simp only [lfK, List.mem_filter, List.mem_range, Bool.and_eq_true, decide_eq_true_eq] at h
  exact ⟨h.1, h.2.1, h.2.2⟩
theorem range_set {n q : Nat} {f : Nat → Int} {v : Int} : ((List.range n).map f).set q v = (List.range n).map fun x => if x = q then v else f x := by
  apply List.ext_getElem
  · simp
  · intro i h1 h2
    simp only [List.getElem_set, List.getElem_map, List.getElem_range]
    by_cases h : q = i
    · simp [h]
    · rw [if_neg h, if_neg fun e => h e.symm]
/-- The table while a round's finds are set. -/
def stB (nt : List Int → Nat) (p k : Nat) (L : List Nat) : List Int := (List.range (9 ^ p)).map fun key => if key ∈ L then ((k + 1 : Nat) : Int) else valK nt p k key
theorem stB_0 (nt : List Int → Nat) (p k : Nat) : stB nt p k [] = tabK nt p k := by simp [stB, tabK]
theorem stB_len (nt : List Int → Nat) (p k : Nat) (L : List Nat) : (stB nt p k L).length = 9 ^ p := by simp [stB]
theorem stB_one (nt : List Int → Nat) (p k : Nat) (L : List Nat) (q : Nat) : (stB nt p k L).set q ((k + 1 : Nat) : Int) = stB nt p k (L ++ [q]) := by
  rw [stB, range_set, stB]
  apply List.map_congr_left
  intro x _
  by_cases h : x = q
  · simp [h]
  · simp [h]
theorem stB_end {nt : List Int → Nat} {p k : Nat} : stB nt p k ((lfK nt p k).filter fun key => decide (nt (pad3 (dg key p)) ≤ k + 1)) = tabK nt p (k + 1) := by
  rw [stB, tabK]
  apply List.map_congr_left
  intro key hk
  have hk2 := List.mem_range.1 hk
  by_cases hs : (dg key p).sum ≤ 8
  · by_cases h1 : nt (pad3 (dg key p)) ≤ k
    · have hn : key ∉ (lfK nt p k).filter fun key => decide (nt (pad3 (dg key p)) ≤ k + 1) := fun h => by
        have := lf_mem (List.mem_filter.1 h).1; omega
      rw [if_neg hn, valK, valK, if_pos ⟨hs, h1⟩, if_pos ⟨hs, by omega⟩]
    · by_cases h2 : nt (pad3 (dg key p)) ≤ k + 1
      · have hy : key ∈ (lfK nt p k).filter fun key => decide (nt (pad3 (dg key p)) ≤ k + 1) := by
          refine List.mem_filter.2 ⟨List.mem_filter.2 ⟨hk, ?_⟩, dec_t h2⟩
          rw [dec_t hs, dec_t (show k < nt (pad3 (dg key p)) by omega)]; rfl
        rw [if_pos hy, valK, if_pos ⟨hs, h2⟩]; omega
      · have hn : key ∉ (lfK nt p k).filter fun key => decide (nt (pad3 (dg key p)) ≤ k + 1) := fun h => by
          have := (List.mem_filter.1 h).2; simp at this; omega
        rw [if_neg hn, valK, valK, if_neg fun e => h1 e.2, if_neg fun e => h2 e.2]
  · have hn : key ∉ (lfK nt p k).filter fun key => decide (nt (pad3 (dg key p)) ≤ k + 1) := fun h => by
      have := lf_mem (List.mem_filter.1 h).1; omega
    rw [if_neg hn, valK, valK, if_neg fun e => hs e.1, if_neg fun e => hs e.1]
/-- The table while the first pass goes over the numbers. -/
def stA (nt : List Int → Nat) (p i : Nat) : List Int := (List.range (9 ^ p)).map fun key => if key < i then valK nt p 0 key else 0
theorem stA_len (nt : List Int → Nat) (p i : Nat) : (stA nt p i).length = 9 ^ p := by simp [stA]
theorem stA_0 (nt : List Int → Nat) (p : Nat) : List.replicate (9 ^ p) (0 : Int) = stA nt p 0 := by
  apply List.ext_getElem
  · simp [stA]
  · intro i h1 h2; simp [stA]
theorem stA_end (nt : List Int → Nat) (p : Nat) : stA nt p (9 ^ p) = tabK nt p 0 := by
  rw [stA, tabK]
  apply List.map_congr_left
  intro key hk
  rw [if_pos (List.mem_range.1 hk)]
theorem stA_one {nt : List Int → Nat} {p i : Nat} : (stA nt p i).set i (valK nt p 0 i) = stA nt p (i + 1) := by
  rw [stA, range_set, stA]
  apply List.map_congr_left
  intro x _
  by_cases h : x = i
  · rw [if_pos h, if_pos (by omega), h]
  · rw [if_neg h]
    by_cases h2 : x < i
    · rw [if_pos h2, if_pos (by omega)]
    · rw [if_neg h2, if_neg (by omega)]
theorem val0_told {both : Bool} {nt : List Int → Nat} {p key : Nat} (h : okPl both nt p) (hk : key < 9 ^ p) (ht : told (dg key p) = true) : valK nt p 0 key = 0 := by
  have hs : (dg key p).sum ≤ 8 := by have := ht; simp only [told, decide_eq_true_eq] at this; omega
  have h0 := (zero_told h hk hs).2 ht
  rw [valK, if_pos ⟨hs, by omega⟩, h0]; rfl
theorem val0_not {both : Bool} {nt : List Int → Nat} {p key : Nat} (h : okPl both nt p) (hk : key < 9 ^ p) (ht : told (dg key p) = false) : valK nt p 0 key = -1 := by
  rw [valK, if_neg]
  rintro ⟨hs, h0⟩
  have := (zero_told h hk hs).1 (by omega)
  rw [ht] at this; cases this
def lfA (nt : List Int → Nat) (p i : Nat) : List Nat := (List.range i).filter fun key => decide ((dg key p).sum ≤ 8) && decide (0 < nt (pad3 (dg key p)))
theorem lfA_end (nt : List Int → Nat) (p : Nat) : lfA nt p (9 ^ p) = lfK nt p 0 := rfl
theorem lfA_yes {nt : List Int → Nat} {p i : Nat} (h1 : (dg i p).sum ≤ 8) (h2 : 0 < nt (pad3 (dg i p))) : lfA nt p i ++ [i] = lfA nt p (i + 1) := by
  simp only [lfA, List.range_succ, List.filter_append, List.filter_cons, dec_t h1, dec_t h2, Bool.and_self, List.filter_nil, if_true]
theorem lfA_no {nt : List Int → Nat} {p i : Nat} (h : ¬ ((dg i p).sum ≤ 8 ∧ 0 < nt (pad3 (dg i p)))) : lfA nt p (i + 1) = lfA nt p i := by
  have : (decide ((dg i p).sum ≤ 8) && decide (0 < nt (pad3 (dg i p)))) = false := by
    rw [Bool.eq_false_iff]; intro e; simp only [Bool.and_eq_true, decide_eq_true_eq] at e; exact h e
  simp only [lfA, List.range_succ, List.filter_append, List.filter_cons, this, List.filter_nil, Bool.false_eq_true, if_false, List.append_nil]
theorem lfA_len (nt : List Int → Nat) (p i : Nat) : (lfA nt p i).length ≤ i := by
  have := List.length_filter_le (fun key => decide ((dg key p).sum ≤ 8) && decide (0 < nt (pad3 (dg key p)))) (List.range i)
  rw [List.length_range] at this
  exact this
theorem tab_done {nt : List Int → Nat} {p k R : Nat} (h : lfK nt p k = []) (hk : k ≤ R) : tabK nt p k = tabK nt p R := by
  rw [tabK, tabK]
  apply List.map_congr_left
  intro key hkm
  have hn : key ∉ lfK nt p k := by rw [h]; simp
  by_cases hs : (dg key p).sum ≤ 8
  · have h1 : nt (pad3 (dg key p)) ≤ k := by
      rcases Nat.lt_or_ge k (nt (pad3 (dg key p))) with g | g
      · exact absurd (List.mem_filter.2 ⟨hkm, by rw [dec_t hs, dec_t g]; rfl⟩) hn
      · exact g
    rw [valK, valK, if_pos ⟨hs, h1⟩, if_pos ⟨hs, by omega⟩]
  · rw [valK, valK, if_neg fun e => hs e.1, if_neg fun e => hs e.1]
end Go.Proofs.Ytihpfhdkjlphhaa.Pam
