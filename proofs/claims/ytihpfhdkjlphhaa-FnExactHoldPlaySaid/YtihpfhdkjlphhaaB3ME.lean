/- A part of the proof that stands in this folder: a small machine whose steps are shown to be the steps of the model, or walks of functions by it. No condition of its own. -/
import Derived.Test.YtihpfhdkjlphhaaB3MC
set_option linter.unusedVariables false
set_option linter.unusedSimpArgs false
namespace Go.Proofs.Ytihpfhdkjlphhaa.Pam
open Go
theorem snap_ps (O : Objs) (l : List PV) : (l.map SV.p).mapM (snap O 4) = some l := by
  induction l with
  | nil => rfl
  | cons y r ih => simp only [List.map_cons, List.mapM_cons, ih]; rfl
theorem call_3 (O : Objs) (a b : List PV) (x y z : PV) : (a.map SV.p ++ [SV.ag [.p x, .p y, .p z]] ++ b.map SV.p).mapM (snap O 4) = some (a ++ [.agg [x, y, z]] ++ b) := by
  rw [List.mapM_append, List.mapM_append, snap_ps, snap_ps]
  rfl
theorem refs_p0 (l : List PV) : SV.refsL (l.map SV.p) = [] := by
  induction l with
  | nil => rfl
  | cons z r ih => simp [SV.refsL, SV.refs, ih]
theorem refsL_app (a b : List SV) : SV.refsL (a ++ b) = SV.refsL a ++ SV.refsL b := by
  induction a with
  | nil => rfl
  | cons z r ih => simp [SV.refsL, ih]
theorem refs_3 (a b : List PV) (x y z : PV) : SV.refsL (a.map SV.p ++ [SV.ag [.p x, .p y, .p z]] ++ b.map SV.p) = [] := by
  rw [refsL_app, refsL_app, refs_p0, refs_p0]; rfl
theorem ags_get3 {L : List (List Int)} (h3 : al3 L = true) {i : Nat} (h : i < L.length) : ∃ a b c, L.getD i [] = [a, b, c] ∧ (ags L)[i]? = some (.agg [.int .i64 a, .int .i64 b, .int .i64 c]) := by
  have h1 := al3_get h3 h
  have h2 := ags_get h
  match hl : L.getD i [], h1 with
  | [a, b, c], _ => exact ⟨a, b, c, rfl, by rw [h2, hl]; rfl⟩
def a_IndexFuncT : AFn := ⟨2, 
  .seq (.reg [⟨some 4, none, .d (.mv (.c (.int .i64 0)))⟩])
  (.seq (.seq (.reg [⟨some 6, none, .d (.mv (.t 0))⟩,
    ⟨some 7, none, .d (.len (.t 6))⟩,
    ⟨some 8, none, .d (.mv (.c (.int .i64 0)))⟩])
  (.block 0 (.loop (.seq (.reg [⟨some 9, none, .d (.bin .arith .lss (.t 8) (.t 7))⟩])
    (.seq (.cond (.t 9) (.skip) (.exit 0))
    (.seq (.block 1 (.seq (.reg [⟨some 10, none, .d (.mv (.t 8))⟩,
       ⟨some 5, none, .d (.mv (.t 10))⟩])
     (.seq (.reg [⟨some 11, none, .d (.mv (.t 1))⟩,
       ⟨some 12, none, .d (.mv (.t 0))⟩,
       ⟨some 13, none, .d (.mv (.t 5))⟩,
       ⟨some 14, none, .d (.ia 3 (.t 12) (.t 13))⟩,
       ⟨some 15, none, .d (.load true 3 (.t 14))⟩,
       ⟨some 16, none, .d (.call (.t 11) [(.t 15)])⟩])
     (.cond (.t 16) (.seq (.reg [⟨some 17, none, .d (.mv (.t 5))⟩,
        ⟨some 4, none, .d (.mv (.t 17))⟩])
      (.ret)) (.skip)))))
    (.reg [⟨some 18, none, .d (.bin .arith .add (.t 8) (.c (.int .i64 1)))⟩,
      ⟨some 8, none, .d (.mv (.t 18))⟩])))))))
  (.seq (.reg [⟨some 4, none, .d (.mv (.c (.int .i64 (-1))))⟩])
  (.ret))), [.tmp 4]⟩
def n_IndexFuncT : Nat → Option Ann := fun _ => none
abbrev k_IndexFuncT : List Nat := [0, 1, 4, 5, 7, 8, 9, 16]
abbrev o_IndexFuncT : List Nat := []
def c_IndexFuncT (Γ0 : Gam) : Con := pure' fun
  | [.p (.sl 3 xs), .p (.fn g a b)] => if isG xs = true ∧ xs.length ≤ 1100000 then (match askF Γ0 g a b xs with | some bs => some (.p (.int .i64 (firstT bs)), []) | none => none) else none
  | _ => none
theorem s_IndexFuncT {P : Program} (hm : P.follows .mixedOrders = true) {Γ : Gam} (hΓ : GS P Γ) {n : FuncId} (is : Is P n a_IndexFuncT)  : Says P n (c_IndexFuncT Γ) := by
  refine Says.pure fun args r fs h => ?_
  split at h
  case h_2 => cases h
  rename_i xs g a b
  split at h
  case isFalse => cases h
  rename_i hc
  obtain ⟨hx, hc⟩ := hc
  obtain ⟨l, rfl, hl3⟩ := isG_out hx
  rw [ags_len] at hc
  split at h
  case h_2 => cases h
  rename_i bs hbs
  simp only [Option.some.injEq, Prod.mk.injEq] at h
  obtain ⟨rfl, rfl⟩ := h
  have hbl := askF_len hbs
  rw [ags_len] at hbl
  refine is.go hm hΓ k_IndexFuncT o_IndexFuncT (by simp [a_IndexFuncT]) ?_
  simp only [a_IndexFuncT, ags_len, List.zipIdx_cons, List.zipIdx_nil, ↓SP, SQ, Gam.add, stepM, callC, argC, lendO, nmBy, nmC, likeL, likeB, plainOb, offs, exL, X, F, trP, trO, stepD, stepW, newA, SV.tr, SV.trL, fz, allP, Ob.tr, loadA, cellsA, SV.cells, binA, binI, eqOut, isSl, isPt, natOf, callee, snap, SV.refsL, SV.refs, thaw, fzAll, loA, hiA, elemOf, partsA, buildA, putCells, ↓reduceIte, reduceCtorEq, okCell, Nat.reduceAdd, Nat.reduceEqDiff, Nat.reduceSub, Nat.reduceMul, Nat.reduceLeDiff, Nat.reduceLT, Nat.reduceBEq, PV.scal, PV.scalL, SV.scal, SV.scalL, Ob.scal, PV.isCell, pure', resO]
  refine loop_at (fun s : Nat × SV × SV × SV => mkEnv [(0, .p (.sl 3 (ags l))), (1, .p (.fn g a b)), (4, si 0), (5, s.2.1), (7, si l.length), (8, si s.1), (9, s.2.2.1), (16, s.2.2.2)]) (fun s => mkO []) (fun s => s.1 ≤ l.length ∧ ∀ j, j < s.1 → bs.getD j false = false) (fun s => l.length - s.1) (0, .junk, .junk, .junk) (by simp) rfl rfl ?_
  rintro ⟨i, c1, c2, c3⟩ ⟨hi, hp⟩ R hR hN
  simp only at hi hp
  by_cases h : i < l.length
  · have h1 : (i : Int) < l.length := by omega
    have hw := wrap_one (i := i) (by omega)
    obtain ⟨x, y, z, hl, hg⟩ := ags_get3 hl3 h
    have hq := askF_get hbs hg
    cases hb : bs.getD i false with
    | false =>
      rw [hb] at hq
      simp only [h1, hw, hg, call_ps, refs_ps, hq, ↓SP, SQ, Gam.add, stepM, callC, argC, lendO, nmBy, nmC, likeL, likeB, plainOb, offs, exL, X, F, trP, trO, stepD, stepW, newA, SV.tr, SV.trL, fz, allP, Ob.tr, loadA, cellsA, SV.cells, binA, binI, eqOut, isSl, isPt, natOf, callee, snap, SV.refsL, SV.refs, thaw, fzAll, loA, hiA, elemOf, partsA, buildA, putCells, ↓reduceIte, reduceCtorEq, okCell, Nat.reduceAdd, Nat.reduceEqDiff, Nat.reduceSub, Nat.reduceMul, Nat.reduceLeDiff, Nat.reduceLT, Nat.reduceBEq, PV.scal, PV.scalL, SV.scal, SV.scalL, Ob.scal, PV.isCell, pure', resO]
      refine hN (i + 1, _, _, _) _ _ ⟨by simp only; omega, fun j hj => ?_⟩ (by simp only; omega) rfl rfl
      simp only at hj
      by_cases hji : j = i
      · rw [hji]; exact hb
      · exact hp j (by omega)
    | true =>
      rw [hb] at hq
      have hf := firstT_some (by omega) hp hb
      simp only [h1, hw, hg, call_ps, refs_ps, hq, hf, ↓SP, SQ, Gam.add, stepM, callC, argC, lendO, nmBy, nmC, likeL, likeB, plainOb, offs, exL, X, F, trP, trO, stepD, stepW, newA, SV.tr, SV.trL, fz, allP, Ob.tr, loadA, cellsA, SV.cells, binA, binI, eqOut, isSl, isPt, natOf, callee, snap, SV.refsL, SV.refs, thaw, fzAll, loA, hiA, elemOf, partsA, buildA, putCells, ↓reduceIte, reduceCtorEq, okCell, Nat.reduceAdd, Nat.reduceEqDiff, Nat.reduceSub, Nat.reduceMul, Nat.reduceLeDiff, Nat.reduceLT, Nat.reduceBEq, PV.scal, PV.scalL, SV.scal, SV.scalL, Ob.scal, PV.isCell, pure', resO]
      refine hR _ _ _ (by intro h; cases h) ?_
      simp only [↓SP, SQ, Gam.add, stepM, callC, argC, lendO, nmBy, nmC, likeL, likeB, plainOb, offs, exL, X, F, trP, trO, stepD, stepW, newA, SV.tr, SV.trL, fz, allP, Ob.tr, loadA, cellsA, SV.cells, binA, binI, eqOut, isSl, isPt, natOf, callee, snap, SV.refsL, SV.refs, thaw, fzAll, loA, hiA, elemOf, partsA, buildA, putCells, ↓reduceIte, reduceCtorEq, okCell, Nat.reduceAdd, Nat.reduceEqDiff, Nat.reduceSub, Nat.reduceMul, Nat.reduceLeDiff, Nat.reduceLT, Nat.reduceBEq, PV.scal, PV.scalL, SV.scal, SV.scalL, Ob.scal, PV.isCell, pure', resO]
      exact finA_val (by simp [hf, retA, rvA, mkE_cons, mk_nil, mkO_cons, mkO_nil, loadA, SV.tr, SV.trL, nmF, rn_nil, rn_cons1, rn_cons2, plainOb, SV.refsL, SV.refs, Ob.refs, X, F, List.range_succ, mkO, setO_mk]) (by simp [SV.tr, SV.trL])
  · have he : i = l.length := by omega
    have h1 : ¬ (i : Int) < l.length := by omega
    have hf : firstT bs = -1 := firstT_none fun j hj => hp j (by omega)
    simp only [h1, hf, ↓SP, SQ, Gam.add, stepM, callC, argC, lendO, nmBy, nmC, likeL, likeB, plainOb, offs, exL, X, F, trP, trO, stepD, stepW, newA, SV.tr, SV.trL, fz, allP, Ob.tr, loadA, cellsA, SV.cells, binA, binI, eqOut, isSl, isPt, natOf, callee, snap, SV.refsL, SV.refs, thaw, fzAll, loA, hiA, elemOf, partsA, buildA, putCells, ↓reduceIte, reduceCtorEq, okCell, Nat.reduceAdd, Nat.reduceEqDiff, Nat.reduceSub, Nat.reduceMul, Nat.reduceLeDiff, Nat.reduceLT, Nat.reduceBEq, PV.scal, PV.scalL, SV.scal, SV.scalL, Ob.scal, PV.isCell, pure', resO]
    refine hR _ _ _ (by intro h; cases h) ?_
    simp only [↓SP, SQ, Gam.add, stepM, callC, argC, lendO, nmBy, nmC, likeL, likeB, plainOb, offs, exL, X, F, trP, trO, stepD, stepW, newA, SV.tr, SV.trL, fz, allP, Ob.tr, loadA, cellsA, SV.cells, binA, binI, eqOut, isSl, isPt, natOf, callee, snap, SV.refsL, SV.refs, thaw, fzAll, loA, hiA, elemOf, partsA, buildA, putCells, ↓reduceIte, reduceCtorEq, okCell, Nat.reduceAdd, Nat.reduceEqDiff, Nat.reduceSub, Nat.reduceMul, Nat.reduceLeDiff, Nat.reduceLT, Nat.reduceBEq, PV.scal, PV.scalL, SV.scal, SV.scalL, Ob.scal, PV.isCell, pure', resO]
    exact finA_val (by simp [hf, retA, rvA, mkE_cons, mk_nil, mkO_cons, mkO_nil, loadA, SV.tr, SV.trL, nmF, rn_nil, rn_cons1, rn_cons2, plainOb, SV.refsL, SV.refs, Ob.refs, X, F, List.range_succ, mkO, setO_mk]) (by simp [SV.tr, SV.trL])
/-- Those of the first j that are kept. -/
def kpI {α : Type} (d : α) (L : List α) (bs : List Bool) (j : Nat) : List α := ((List.range j).filter fun i => !(bs.getD i false)).map fun i => L.getD i d
theorem kpI_no {α : Type} {d : α} {L : List α} {bs : List Bool} {j : Nat} (h : bs.getD j false = true) : kpI d L bs (j + 1) = kpI d L bs j := by
  simp only [kpI, List.range_succ, List.filter_append, List.filter_cons, h, List.filter_nil, Bool.not_true, Bool.false_eq_true, if_false, List.append_nil]
theorem kpI_yes {α : Type} {d : α} {L : List α} {bs : List Bool} {j : Nat} (h : bs.getD j false = false) : kpI d L bs (j + 1) = kpI d L bs j ++ [L.getD j d] := by
  simp only [kpI, List.range_succ, List.filter_append, List.filter_cons, h, List.filter_nil, Bool.not_false, if_true, List.map_append, List.map_cons, List.map_nil]
theorem kpI_len {α : Type} (d : α) (L : List α) (bs : List Bool) (j : Nat) : (kpI d L bs j).length ≤ j := by
  simp only [kpI, List.length_map]
  exact Nat.le_trans (List.length_filter_le _ _) (by simp)
theorem kpI_all {α : Type} {d : α} {L : List α} {bs : List Bool} : ∀ {j : Nat}, j ≤ L.length → (∀ i, i < j → bs.getD i false = false) → kpI d L bs j = L.take j
  | 0, _, _ => by simp [kpI]
  | j + 1, hj, h => by rw [kpI_yes (h j (by omega)), kpI_all (by omega) fun i hi => h i (by omega), ← take_one L j d (by omega)]
theorem firstT_out : ∀ {bs : List Bool}, bs.any id = true → ∃ i, i < bs.length ∧ firstT bs = (i : Int) ∧ (∀ j, j < i → bs.getD j false = false) ∧ bs.getD i false = true
  | [], h => by simp at h
  | b :: r, h => by
    cases b with
    | true => exact ⟨0, by simp, by simp [firstT], fun j hj => by omega, rfl⟩
    | false =>
      obtain ⟨i, h1, h2, h3, h4⟩ := firstT_out (bs := r) (by simpa using h)
      refine ⟨i + 1, by simp; omega, ?_, fun j hj => ?_, by simpa using h4⟩
      · simp only [firstT, h2, Bool.false_eq_true, if_false]
        rw [if_neg (by omega)]; omega
      · cases j with
        | zero => rfl
        | succ j => have := h3 j (by omega); simpa using this
theorem ags_set (L : List (List Int)) (i : Nat) (a b c : Int) : (ags L).set i (.agg [.int .i64 a, .int .i64 b, .int .i64 c]) = ags (L.set i [a, b, c]) := by simp [ags, List.map_set, ints]
theorem putPV_ags (L : List (List Int)) (i n : Nat) (h : i + n ≤ L.length) : putPV (ags L) i (List.replicate n (.agg [.int .i64 0, .int .i64 0, .int .i64 0])) = ags (L.take i ++ List.replicate n [0, 0, 0] ++ L.drop (i + n)) := by
  rw [putPV_eq _ _ _ (by simp [ags_len]; omega)]
  simp [ags, List.map_take, List.map_drop, ints]
/-- What is kept, then nothing, then what stood behind. -/
def delL (L : List (List Int)) (bs : List Bool) : List (List Int) := kpI [] L bs L.length ++ List.replicate (L.length - (kpI [] L bs L.length).length) [0, 0, 0]
theorem kd_get {α : Type} {d : α} {L : List α} {bs : List Bool} {j : Nat} (hj : j < L.length) : (kpI d L bs j ++ L.drop (kpI d L bs j).length).getD j d = L.getD j d := by
  have hm := kpI_len d L bs j
  rw [List.getD_eq_getElem?_getD, List.getElem?_append_right hm, List.getElem?_drop, List.getD_eq_getElem?_getD]
  congr 2; omega
theorem kd_len {α : Type} {d : α} {L : List α} {bs : List Bool} {j : Nat} (hj : j ≤ L.length) : (kpI d L bs j ++ L.drop (kpI d L bs j).length).length = L.length := by
  have hm := kpI_len d L bs j
  simp; omega
theorem kd_set {α : Type} {d : α} {L : List α} {bs : List Bool} {j : Nat} (hj : j < L.length) (hb : bs.getD j false = false) : (kpI d L bs j ++ L.drop (kpI d L bs j).length).set (kpI d L bs j).length (L.getD j d) = kpI d L bs (j + 1) ++ L.drop (kpI d L bs (j + 1)).length := by
  have hm := kpI_len d L bs j
  rw [kpI_yes hb, List.length_append, List.length_singleton]
  rw [List.drop_eq_getElem_cons (show (kpI d L bs j).length < L.length by omega)]
  rw [List.set_append_right _ _ (Nat.le_refl _), Nat.sub_self, List.set_cons_zero]
  simp
theorem kd_app_set {α : Type} {A T : List α} {i : Nat} {x : α} (h : i < A.length) : (A ++ T).set i x = A.set i x ++ T := by rw [List.set_append_left _ _ h]
theorem kd_app_get {α : Type} {A T : List α} {i : Nat} {d : α} (h : i < A.length) : (A ++ T).getD i d = A.getD i d := by
  rw [List.getD_eq_getElem?_getD, List.getD_eq_getElem?_getD, List.getElem?_append_left h]
theorem ags_get3' {L : List (List Int)} {i : Nat} {a b c : Int} (hi : i < L.length) (h : L.getD i [] = [a, b, c]) : (ags L)[i]? = some (.agg [.int .i64 a, .int .i64 b, .int .i64 c]) := by rw [ags_get hi, h]; rfl
theorem al3_get3 {L : List (List Int)} (h3 : al3 L = true) {i : Nat} (h : i < L.length) : ∃ a b c, L.getD i [] = [a, b, c] := by
  obtain ⟨a, b, c, h1, _⟩ := ags_get3 h3 h
  exact ⟨a, b, c, h1⟩
def a_DelT (f_IndexFuncT : FuncId) : AFn := ⟨2, 
  .seq (.reg [⟨some 4, none, .d (.mv (.c (.nilsl)))⟩])
  (.seq (.reg [⟨some 8, none, .d (.mv (.t 0))⟩,
    ⟨some 9, none, .d (.mv (.t 1))⟩,
    ⟨some 10, none, .d (.call (.f f_IndexFuncT) [(.t 8), (.t 9)])⟩,
    ⟨some 5, none, .d (.mv (.t 10))⟩])
  (.seq (.seq (.reg [⟨some 11, none, .d (.mv (.t 5))⟩,
    ⟨some 12, none, .d (.bin .arith .eql (.t 11) (.c (.int .i64 (-1))))⟩])
  (.cond (.t 12) (.seq (.reg [⟨some 13, none, .d (.mv (.t 0))⟩,
     ⟨some 4, none, .d (.mv (.t 13))⟩])
   (.ret)) (.skip)))
  (.seq (.seq (.reg [⟨some 14, none, .d (.mv (.t 5))⟩,
    ⟨some 15, none, .d (.bin .arith .add (.t 14) (.c (.int .i64 1)))⟩,
    ⟨some 6, none, .d (.mv (.t 15))⟩])
  (.block 0 (.loop (.seq (.seq (.reg [⟨some 16, none, .d (.mv (.t 6))⟩,
      ⟨some 17, none, .d (.mv (.t 0))⟩,
      ⟨some 18, none, .d (.len (.t 17))⟩,
      ⟨some 19, none, .d (.bin .arith .lss (.t 16) (.t 18))⟩])
    (.cond (.t 19) (.skip) (.exit 0)))
    (.seq (.block 1 (.seq (.reg [⟨some 22, none, .d (.mv (.t 0))⟩,
       ⟨some 23, none, .d (.mv (.t 6))⟩,
       ⟨some 24, none, .d (.ia 3 (.t 22) (.t 23))⟩,
       ⟨some 25, none, .d (.load true 3 (.t 24))⟩,
       ⟨some 7, none, .w (.alloc [.int .i64 0, .int .i64 0, .int .i64 0])⟩,
       ⟨none, none, .w (.store 3 (.t 7) (.t 25))⟩])
     (.seq (.reg [⟨some 26, none, .d (.mv (.t 1))⟩,
       ⟨some 27, none, .d (.load true 3 (.t 7))⟩,
       ⟨some 28, none, .d (.call (.t 26) [(.t 27)])⟩,
       ⟨some 29, none, .d (.not (.t 28))⟩])
     (.cond (.t 29) (.seq (.reg [⟨some 30, none, .d (.mv (.t 0))⟩,
        ⟨some 31, none, .d (.mv (.t 5))⟩,
        ⟨some 32, none, .d (.load true 3 (.t 7))⟩,
        ⟨some 33, none, .d (.ia 3 (.t 30) (.t 31))⟩,
        ⟨none, none, .w (.store 3 (.t 33) (.t 32))⟩])
      (.reg [⟨some 34, none, .d (.mv (.t 5))⟩,
        ⟨some 35, none, .d (.bin .arith .add (.t 34) (.c (.int .i64 1)))⟩,
        ⟨some 5, none, .d (.mv (.t 35))⟩])) (.skip)))))
    (.reg [⟨some 20, none, .d (.mv (.t 6))⟩,
      ⟨some 21, none, .d (.bin .arith .add (.t 20) (.c (.int .i64 1)))⟩,
      ⟨some 6, none, .d (.mv (.t 21))⟩]))))))
  (.seq (.reg [⟨some 36, none, .d (.mv (.t 0))⟩,
    ⟨some 37, none, .d (.mv (.t 5))⟩,
    ⟨some 38, none, .d (.slc 3 (.t 36) (some (.t 37)) none)⟩,
    ⟨none, none, .w (.clear 3 (.agg [.int .i64 0, .int .i64 0, .int .i64 0]) (.t 38))⟩])
  (.seq (.reg [⟨some 39, none, .d (.mv (.t 0))⟩,
    ⟨some 40, none, .d (.mv (.t 5))⟩,
    ⟨some 41, none, .d (.slc 3 (.t 39) none (some (.t 40)))⟩,
    ⟨some 4, none, .d (.mv (.t 41))⟩])
  (.ret)))))), [.tmp 4]⟩
def n_DelT : Nat → Option Ann := fun _ => none
abbrev k_DelT : List Nat := [0, 1, 4, 5, 6, 7, 12, 19, 29]
abbrev o_DelT : List Nat := [7]
def c_DelT (Γ0 Γ1 : Gam) : Con
  | [.ar 1000000, .p (.fn g a b)], [.arr 3 xs] => if isG xs = true ∧ xs.length ≤ 1100000 then (match askF Γ0 g a b xs, askF Γ1 g a b xs with
      | some bs, some bs' => if bs = bs' ∧ bs.any id = true then some (.sub 1000000 0 (kpI .np xs bs xs.length).length, [.arr 3 (ags (delL (xs.map fun x => ofI x.cells) bs))], []) else none
      | _, _ => none) else none
  | [.sub 1000000 0 k, .p (.fn g a b)], [.arr 3 xs] => if isG xs = true ∧ k ≤ xs.length ∧ xs.length ≤ 1100000 then (match askF Γ0 g a b (xs.take k), askF Γ1 g a b (xs.take k) with
      | some bs, some bs' => if bs = bs' ∧ bs.any id = true then some (.sub 1000000 0 (kpI .np (xs.take k) bs k).length, [.arr 3 (ags (delL ((xs.take k).map fun x => ofI x.cells) bs ++ (xs.drop k).map fun x => ofI x.cells))], []) else none
      | _, _ => none) else none
  | _, _ => none
theorem ofags (L : List (List Int)) : ((ags L).map fun x => ofI x.cells) = L := by
  simp only [ags, List.map_map]
  have : ((fun x => ofI x.cells) ∘ fun l : List Int => PV.agg (ints l)) = id := by funext l; simp [PV.cells, ofI_ints]
  rw [this, List.map_id]
theorem kpI_lenE {α β : Type} {d : α} {e : β} (L : List α) (M : List β) (bs : List Bool) (j : Nat) : (kpI d L bs j).length = (kpI e M bs j).length := by simp [kpI]
theorem ags_take (L : List (List Int)) (k : Nat) : (ags L).take k = ags (L.take k) := by simp [ags, List.map_take]
theorem ags_drop (L : List (List Int)) (k : Nat) : (ags L).drop k = ags (L.drop k) := by simp [ags, List.map_drop]
theorem al3_sub {L M : List (List Int)} (h : al3 L = true) (hs : ∀ x ∈ M, x ∈ L) : al3 M = true := by
  rw [al3, List.all_eq_true]; intro x hx
  exact List.all_eq_true.1 h x (hs x hx)
theorem al3_app {L M : List (List Int)} (h : al3 L = true) (h' : al3 M = true) : al3 (L ++ M) = true := by rw [al3, List.all_append]; simp only [al3] at h h'; rw [h, h']; rfl
theorem s_DelT {P : Program} (hm : P.follows .mixedOrders = true) {Γ : Gam} (hΓ : GS P Γ) {n : FuncId} {f_IndexFuncT : FuncId} (is : Is P n (a_DelT f_IndexFuncT)) {Γ0 : Gam} (h_IndexFuncT : Γ f_IndexFuncT = c_IndexFuncT Γ0) : Says P n (c_DelT Γ0 Γ) := by
  intro args ext r ext' fs h
  unfold c_DelT at h
  split at h
  case h_3 => cases h
  · rename_i g a b xs
    split at h
    case isFalse => cases h
    rename_i hc
    obtain ⟨hx, hn⟩ := hc
    obtain ⟨L, rfl, hl3⟩ := isG_out hx
    rw [ags_len] at hn
    split at h
    case h_2 => cases h
    rename_i bs bs' hbs hbs'
    split at h
    case isFalse => cases h
    rename_i hc2
    obtain ⟨rfl, hany⟩ := hc2
    simp only [ofags, Option.some.injEq, Prod.mk.injEq, ags_len] at h
    obtain ⟨rfl, rfl, rfl⟩ := h
    have hbl := askF_len hbs
    rw [ags_len] at hbl
    rw [kpI_lenE (e := ([] : List Int)) (ags L) L bs L.length]
    have hxc := isG_ags hl3
    have hsnapL : (ags L).length ≤ 1100000 := by rw [ags_len]; exact hn
    obtain ⟨i0, hi0, hf, hpre, hat⟩ := firstT_out hany
    rw [hbl] at hi0
    have hm1 : ((i0 : Int) == -1) = false := beq_eq_false_iff_ne.2 (by omega)
    have hw0 := wrap_one (i := i0) (by omega)
    have hk0 : kpI [] L bs (i0 + 1) = L.take i0 := by rw [kpI_no hat, kpI_all (by omega) hpre]
    have hk0l : (kpI [] L bs (i0 + 1)).length = i0 := by rw [hk0]; simp; omega
    have hstart : kpI [] L bs (i0 + 1) ++ L.drop (kpI [] L bs (i0 + 1)).length = L := by rw [hk0l, hk0, List.take_append_drop]
    refine is.goX hm hΓ k_DelT (1000000 :: o_DelT) (by simp [a_DelT]) (by simp) ?_
    simp only [a_DelT, h_IndexFuncT, c_IndexFuncT, hbs, hf, hm1, hw0, hxc, hn, ags_len, List.zipIdx_cons, List.zipIdx_nil, ↓SP, SQ, Gam.add, stepM, callC, argC, lendO, nmBy, nmC, likeL, likeB, plainOb, offs, exL, X, F, trP, trO, stepD, stepW, newA, SV.tr, SV.trL, fz, allP, Ob.tr, loadA, cellsA, SV.cells, binA, binI, eqOut, isSl, isPt, natOf, callee, snap, SV.refsL, SV.refs, thaw, fzAll, loA, hiA, elemOf, partsA, buildA, putCells, ↓reduceIte, reduceCtorEq, okCell, Nat.reduceAdd, Nat.reduceEqDiff, Nat.reduceSub, Nat.reduceMul, Nat.reduceLeDiff, Nat.reduceLT, Nat.reduceBEq, PV.scal, PV.scalL, SV.scal, SV.scalL, Ob.scal, PV.isCell, pure', resO]
    refine loop_at (fun st : Nat × SV × SV × SV × Option Ob => mkEnv [(0, .ar 1000000), (1, .p (.fn g a b)), (4, .p .nilsl), (5, si (kpI [] L bs st.1).length), (6, si st.1), (7, st.2.1), (12, sb false), (19, st.2.2.1), (29, st.2.2.2.1)]) (fun st => mkO [(1000000, some (.arr 3 (ags (kpI [] L bs st.1 ++ L.drop (kpI [] L bs st.1).length)))), (7, st.2.2.2.2)]) (fun st => st.1 ≤ L.length) (fun st => L.length - st.1) (i0 + 1, .junk, .junk, .junk, none) (by simp only; omega) (by simp only [hk0l]; try rfl) (by simp only [hstart]; try rfl) ?_
    rintro ⟨j, c1, c2, c3, ob⟩ hj R hR hN
    simp only at hj
    have hm := kpI_len [] L bs j
    have hkl := kd_len (d := []) (bs := bs) hj
    by_cases h : j < L.length
    · have h1 : (j : Int) < L.length := by omega
      have hw := wrap_one (i := j) (by omega)
      obtain ⟨x, y, z, hxyz⟩ := al3_get3 hl3 h
      have hkg := kd_get (d := []) (bs := bs) h
      rw [hxyz] at hkg
      have hgL := ags_get3' h hxyz
      have hg : (ags (kpI [] L bs j ++ L.drop (kpI [] L bs j).length))[j]? = some (.agg [.int .i64 x, .int .i64 y, .int .i64 z]) := ags_get3' (by rw [hkl]; exact h) (by exact hkg)
      have hll : (kpI [] L bs j ++ L.drop (kpI [] L bs j).length).length = L.length := by exact hkl
      have q1 : j < L.length := by omega
      have q2 : (kpI [] L bs j).length < L.length := by omega
      have q3 : (kpI [] L bs j).length < L.length := by omega
      have q4 : L.length ≤ L.length := by omega
      have hq := askF_get hbs' hgL
      have hwm := wrap_one (i := (kpI [] L bs j).length) (by omega)
      cases hb : bs.getD j false with
      | false =>
        rw [hb] at hq
        have hset : (kpI [] L bs j ++ L.drop (kpI [] L bs j).length).set (kpI [] L bs j).length [x, y, z] = kpI [] L bs (j + 1) ++ L.drop (kpI [] L bs (j + 1)).length := by
          rw [← hxyz]; exact kd_set h hb
        have hlen1 : (kpI [] L bs (j + 1)).length = (kpI [] L bs j).length + 1 := by rw [kpI_yes hb]; simp
        obtain ⟨e1, he1⟩ : ∃ e, (ags (kpI [] L bs j ++ L.drop (kpI [] L bs j).length))[(kpI [] L bs j).length]? = some e := ⟨_, List.getElem?_eq_getElem (by rw [ags_len, hll]; exact q2)⟩
        simp only [h, h1, hw, hg, hll, q1, q2, q3, q4, he1, ags_set, hset, hwm, ← hlen1, call_3, refs_3, hq, ags_len, Nat.zero_add, Nat.sub_zero, ↓SP, SQ, Gam.add, stepM, callC, argC, lendO, nmBy, nmC, likeL, likeB, plainOb, offs, exL, X, F, trP, trO, stepD, stepW, newA, SV.tr, SV.trL, fz, allP, Ob.tr, loadA, cellsA, SV.cells, binA, binI, eqOut, isSl, isPt, natOf, callee, snap, SV.refsL, SV.refs, thaw, fzAll, loA, hiA, elemOf, partsA, buildA, putCells, ↓reduceIte, reduceCtorEq, okCell, Nat.reduceAdd, Nat.reduceEqDiff, Nat.reduceSub, Nat.reduceMul, Nat.reduceLeDiff, Nat.reduceLT, Nat.reduceBEq, PV.scal, PV.scalL, SV.scal, SV.scalL, Ob.scal, PV.isCell, pure', resO]
        exact hN (j + 1, _, _, _, _) _ _ (by simp only; omega) (by simp only; omega) rfl rfl
      | true =>
        rw [hb] at hq
        have hsame := kpI_no (d := []) (L := L) hb
        simp only [h, h1, hw, hg, hll, q1, q4, call_3, refs_3, hq, ags_len, Nat.zero_add, Nat.sub_zero, ↓SP, SQ, Gam.add, stepM, callC, argC, lendO, nmBy, nmC, likeL, likeB, plainOb, offs, exL, X, F, trP, trO, stepD, stepW, newA, SV.tr, SV.trL, fz, allP, Ob.tr, loadA, cellsA, SV.cells, binA, binI, eqOut, isSl, isPt, natOf, callee, snap, SV.refsL, SV.refs, thaw, fzAll, loA, hiA, elemOf, partsA, buildA, putCells, ↓reduceIte, reduceCtorEq, okCell, Nat.reduceAdd, Nat.reduceEqDiff, Nat.reduceSub, Nat.reduceMul, Nat.reduceLeDiff, Nat.reduceLT, Nat.reduceBEq, PV.scal, PV.scalL, SV.scal, SV.scalL, Ob.scal, PV.isCell, pure', resO]
        exact hN (j + 1, _, _, _, _) _ _ (by simp only; omega) (by simp only; omega) (by rw [hsame]) (by rw [hsame])
    · have he : j = L.length := by omega
      have h1 : ¬ (j : Int) < L.length := by omega
      subst he
      have hll : (kpI [] L bs L.length ++ L.drop (kpI [] L bs L.length).length).length = L.length := by exact hkl
      have q1 : (kpI [] L bs L.length).length ≤ L.length := hm
      have q2 : L.length ≤ L.length := by omega
      have q3 : (kpI [] L bs L.length).length ≤ L.length := by omega
      have hcl : putPV (ags (kpI [] L bs L.length ++ L.drop (kpI [] L bs L.length).length)) (kpI [] L bs L.length).length (List.replicate (L.length - (kpI [] L bs L.length).length) (.agg [.int .i64 0, .int .i64 0, .int .i64 0])) = ags (delL L bs) := by
        rw [putPV_ags _ _ _ (by rw [hll]; omega)]
        have e1 : (kpI [] L bs L.length).length + (L.length - (kpI [] L bs L.length).length) = L.length := by omega
        rw [e1]
        have e2 : (kpI [] L bs L.length ++ L.drop (kpI [] L bs L.length).length).take (kpI [] L bs L.length).length = kpI [] L bs L.length := by simp only [List.append_assoc, List.take_left]
        have e3 : (kpI [] L bs L.length ++ L.drop (kpI [] L bs L.length).length).drop L.length = [] := by
          exact List.drop_of_length_le (by rw [hkl]; exact Nat.le_refl _)
        rw [e2, e3]
        simp only [delL, List.append_nil]
      simp only [h1, hll, ags_len, Nat.sub_zero, ↓SP, SQ, Gam.add, stepM, callC, argC, lendO, nmBy, nmC, likeL, likeB, plainOb, offs, exL, X, F, trP, trO, stepD, stepW, newA, SV.tr, SV.trL, fz, allP, Ob.tr, loadA, cellsA, SV.cells, binA, binI, eqOut, isSl, isPt, natOf, callee, snap, SV.refsL, SV.refs, thaw, fzAll, loA, hiA, elemOf, partsA, buildA, putCells, ↓reduceIte, reduceCtorEq, okCell, Nat.reduceAdd, Nat.reduceEqDiff, Nat.reduceSub, Nat.reduceMul, Nat.reduceLeDiff, Nat.reduceLT, Nat.reduceBEq, PV.scal, PV.scalL, SV.scal, SV.scalL, Ob.scal, PV.isCell, pure', resO]
      refine hR _ _ _ (by intro h; cases h) ?_
      have hdl : (delL L bs).length = L.length := by simp only [delL, List.length_append, List.length_replicate]; omega
      simp only [hll, q1, q2, q3, hcl, hdl, ags_len, Nat.zero_add, Nat.sub_zero, ↓SP, SQ, Gam.add, stepM, callC, argC, lendO, nmBy, nmC, likeL, likeB, plainOb, offs, exL, X, F, trP, trO, stepD, stepW, newA, SV.tr, SV.trL, fz, allP, Ob.tr, loadA, cellsA, SV.cells, binA, binI, eqOut, isSl, isPt, natOf, callee, snap, SV.refsL, SV.refs, thaw, fzAll, loA, hiA, elemOf, partsA, buildA, putCells, ↓reduceIte, reduceCtorEq, okCell, Nat.reduceAdd, Nat.reduceEqDiff, Nat.reduceSub, Nat.reduceMul, Nat.reduceLeDiff, Nat.reduceLT, Nat.reduceBEq, PV.scal, PV.scalL, SV.scal, SV.scalL, Ob.scal, PV.isCell, pure', resO]
      refine finA_gen [] trivial (by simp [retA, rvA, mkE_cons, mk_nil, mkO_cons, mkO_nil, loadA, SV.tr, SV.trL, nmF, rn_nil, rn_cons1, rn_cons2, plainOb, SV.refsL, SV.refs, Ob.refs, X, F, List.range_succ, mkO, setO_mk]; rfl) ?_ ?_ ?_ ?_ ?_ ?_ ?_ <;> simp [retA, rvA, mkE_cons, mk_nil, mkO_cons, mkO_nil, loadA, SV.tr, SV.trL, nmF, rn_nil, rn_cons1, rn_cons2, plainOb, SV.refsL, SV.refs, Ob.refs, X, F, List.range_succ, mkO, setO_mk]
  · rename_i k g a b xs
    split at h
    case isFalse => cases h
    rename_i hc
    obtain ⟨hx, hk, hnn⟩ := hc
    obtain ⟨L0, rfl, hl30⟩ := isG_out hx
    rw [ags_len] at hk hnn
    split at h
    case h_2 => cases h
    rename_i bs bs' hbs hbs'
    split at h
    case isFalse => cases h
    rename_i hc2
    obtain ⟨rfl, hany⟩ := hc2
    rw [ags_take] at hbs hbs'
    simp only [ags_take, ags_drop, ofags, Option.some.injEq, Prod.mk.injEq] at h
    obtain ⟨rfl, rfl, rfl⟩ := h
    obtain ⟨L, hL⟩ : ∃ L, L0.take k = L := ⟨_, rfl⟩
    obtain ⟨T, hT⟩ : ∃ T, L0.drop k = T := ⟨_, rfl⟩
    have hLT : L0 = L ++ T := by rw [← hL, ← hT, List.take_append_drop]
    have hkl : L.length = k := by rw [← hL]; simp; omega
    rw [hL] at hbs hbs' ⊢
    rw [hT]
    subst hkl
    subst hLT
    have hn : L.length ≤ 1100000 := by omega
    have hl3 : al3 L = true := al3_sub hl30 fun x hx => List.mem_append_left _ hx
    have hbl := askF_len hbs
    rw [ags_len] at hbl
    rw [kpI_lenE (e := ([] : List Int)) (ags L) L bs L.length]
    have hxc := isG_ags hl3
    have hsnapL : (ags L).length ≤ 1100000 := by rw [ags_len]; exact hn
    have hcut : (ags (L ++ T)).take L.length = ags L := by rw [ags_take]; simp
    obtain ⟨i0, hi0, hf, hpre, hat⟩ := firstT_out hany
    rw [hbl] at hi0
    have hm1 : ((i0 : Int) == -1) = false := beq_eq_false_iff_ne.2 (by omega)
    have hw0 := wrap_one (i := i0) (by omega)
    have hk0 : kpI [] L bs (i0 + 1) = L.take i0 := by rw [kpI_no hat, kpI_all (by omega) hpre]
    have hk0l : (kpI [] L bs (i0 + 1)).length = i0 := by rw [hk0]; simp; omega
    have hstart : kpI [] L bs (i0 + 1) ++ L.drop (kpI [] L bs (i0 + 1)).length = L := by rw [hk0l, hk0, List.take_append_drop]
    refine is.goX hm hΓ k_DelT (1000000 :: o_DelT) (by simp [a_DelT]) (by simp) ?_
    simp only [a_DelT, h_IndexFuncT, c_IndexFuncT, hbs, hf, hm1, hw0, hxc, hn, hcut, ags_len, Nat.sub_zero, List.zipIdx_cons, List.zipIdx_nil, ↓SP, SQ, Gam.add, stepM, callC, argC, lendO, nmBy, nmC, likeL, likeB, plainOb, offs, exL, X, F, trP, trO, stepD, stepW, newA, SV.tr, SV.trL, fz, allP, Ob.tr, loadA, cellsA, SV.cells, binA, binI, eqOut, isSl, isPt, natOf, callee, snap, SV.refsL, SV.refs, thaw, fzAll, loA, hiA, elemOf, partsA, buildA, putCells, ↓reduceIte, reduceCtorEq, okCell, Nat.reduceAdd, Nat.reduceEqDiff, Nat.reduceSub, Nat.reduceMul, Nat.reduceLeDiff, Nat.reduceLT, Nat.reduceBEq, PV.scal, PV.scalL, SV.scal, SV.scalL, Ob.scal, PV.isCell, pure', resO]
    refine loop_at (fun st : Nat × SV × SV × SV × Option Ob => mkEnv [(0, .sub 1000000 0 L.length), (1, .p (.fn g a b)), (4, .p .nilsl), (5, si (kpI [] L bs st.1).length), (6, si st.1), (7, st.2.1), (12, sb false), (19, st.2.2.1), (29, st.2.2.2.1)]) (fun st => mkO [(1000000, some (.arr 3 (ags (kpI [] L bs st.1 ++ L.drop (kpI [] L bs st.1).length ++ T)))), (7, st.2.2.2.2)]) (fun st => st.1 ≤ L.length) (fun st => L.length - st.1) (i0 + 1, .junk, .junk, .junk, none) (by simp only; omega) (by simp only [hk0l]; try rfl) (by simp only [hstart]; try rfl) ?_
    rintro ⟨j, c1, c2, c3, ob⟩ hj R hR hN
    simp only at hj
    have hm := kpI_len [] L bs j
    have hkl := kd_len (d := []) (bs := bs) hj
    by_cases h : j < L.length
    · have h1 : (j : Int) < L.length := by omega
      have hw := wrap_one (i := j) (by omega)
      obtain ⟨x, y, z, hxyz⟩ := al3_get3 hl3 h
      have hkg := kd_get (d := []) (bs := bs) h
      rw [hxyz] at hkg
      have hgL := ags_get3' h hxyz
      have hg : (ags (kpI [] L bs j ++ L.drop (kpI [] L bs j).length ++ T))[j]? = some (.agg [.int .i64 x, .int .i64 y, .int .i64 z]) := ags_get3' (by rw [List.length_append, hkl]; omega) (by rw [kd_app_get (by rw [hkl]; exact h)]; exact hkg)
      have hll : (kpI [] L bs j ++ L.drop (kpI [] L bs j).length ++ T).length = L.length + T.length := by rw [List.length_append, hkl]
      have q1 : j < L.length + T.length := by omega
      have q2 : (kpI [] L bs j).length < L.length + T.length := by omega
      have q3 : (kpI [] L bs j).length < L.length := by omega
      have q4 : L.length ≤ L.length + T.length := by omega
      have hq := askF_get hbs' hgL
      have hwm := wrap_one (i := (kpI [] L bs j).length) (by omega)
      cases hb : bs.getD j false with
      | false =>
        rw [hb] at hq
        have hset : (kpI [] L bs j ++ L.drop (kpI [] L bs j).length ++ T).set (kpI [] L bs j).length [x, y, z] = kpI [] L bs (j + 1) ++ L.drop (kpI [] L bs (j + 1)).length ++ T := by
          rw [← hxyz, kd_app_set (by rw [hkl]; omega), kd_set h hb]
        have hlen1 : (kpI [] L bs (j + 1)).length = (kpI [] L bs j).length + 1 := by rw [kpI_yes hb]; simp
        obtain ⟨e1, he1⟩ : ∃ e, (ags (kpI [] L bs j ++ L.drop (kpI [] L bs j).length ++ T))[(kpI [] L bs j).length]? = some e := ⟨_, List.getElem?_eq_getElem (by rw [ags_len, hll]; exact q2)⟩
        simp only [h, h1, hw, hg, hll, q1, q2, q3, q4, he1, ags_set, hset, hwm, ← hlen1, call_3, refs_3, hq, ags_len, Nat.zero_add, Nat.sub_zero, ↓SP, SQ, Gam.add, stepM, callC, argC, lendO, nmBy, nmC, likeL, likeB, plainOb, offs, exL, X, F, trP, trO, stepD, stepW, newA, SV.tr, SV.trL, fz, allP, Ob.tr, loadA, cellsA, SV.cells, binA, binI, eqOut, isSl, isPt, natOf, callee, snap, SV.refsL, SV.refs, thaw, fzAll, loA, hiA, elemOf, partsA, buildA, putCells, ↓reduceIte, reduceCtorEq, okCell, Nat.reduceAdd, Nat.reduceEqDiff, Nat.reduceSub, Nat.reduceMul, Nat.reduceLeDiff, Nat.reduceLT, Nat.reduceBEq, PV.scal, PV.scalL, SV.scal, SV.scalL, Ob.scal, PV.isCell, pure', resO]
        exact hN (j + 1, _, _, _, _) _ _ (by simp only; omega) (by simp only; omega) rfl rfl
      | true =>
        rw [hb] at hq
        have hsame := kpI_no (d := []) (L := L) hb
        simp only [h, h1, hw, hg, hll, q1, q4, call_3, refs_3, hq, ags_len, Nat.zero_add, Nat.sub_zero, ↓SP, SQ, Gam.add, stepM, callC, argC, lendO, nmBy, nmC, likeL, likeB, plainOb, offs, exL, X, F, trP, trO, stepD, stepW, newA, SV.tr, SV.trL, fz, allP, Ob.tr, loadA, cellsA, SV.cells, binA, binI, eqOut, isSl, isPt, natOf, callee, snap, SV.refsL, SV.refs, thaw, fzAll, loA, hiA, elemOf, partsA, buildA, putCells, ↓reduceIte, reduceCtorEq, okCell, Nat.reduceAdd, Nat.reduceEqDiff, Nat.reduceSub, Nat.reduceMul, Nat.reduceLeDiff, Nat.reduceLT, Nat.reduceBEq, PV.scal, PV.scalL, SV.scal, SV.scalL, Ob.scal, PV.isCell, pure', resO]
        exact hN (j + 1, _, _, _, _) _ _ (by simp only; omega) (by simp only; omega) (by rw [hsame]) (by rw [hsame])
    · have he : j = L.length := by omega
      have h1 : ¬ (j : Int) < L.length := by omega
      subst he
      have hll : (kpI [] L bs L.length ++ L.drop (kpI [] L bs L.length).length ++ T).length = L.length + T.length := by rw [List.length_append, hkl]
      have q1 : (kpI [] L bs L.length).length ≤ L.length := hm
      have q2 : L.length ≤ L.length + T.length := by omega
      have q3 : (kpI [] L bs L.length).length ≤ L.length + T.length := by omega
      have hcl : putPV (ags (kpI [] L bs L.length ++ L.drop (kpI [] L bs L.length).length ++ T)) (kpI [] L bs L.length).length (List.replicate (L.length - (kpI [] L bs L.length).length) (.agg [.int .i64 0, .int .i64 0, .int .i64 0])) = ags (delL L bs ++ T) := by
        rw [putPV_ags _ _ _ (by rw [hll]; omega)]
        have e1 : (kpI [] L bs L.length).length + (L.length - (kpI [] L bs L.length).length) = L.length := by omega
        rw [e1]
        have e2 : (kpI [] L bs L.length ++ L.drop (kpI [] L bs L.length).length ++ T).take (kpI [] L bs L.length).length = kpI [] L bs L.length := by simp only [List.append_assoc, List.take_left]
        have e3 : (kpI [] L bs L.length ++ L.drop (kpI [] L bs L.length).length ++ T).drop L.length = T := by
          exact List.drop_left' hkl
        rw [e2, e3]
        simp only [delL, List.append_assoc]
      simp only [h1, hll, ags_len, Nat.sub_zero, ↓SP, SQ, Gam.add, stepM, callC, argC, lendO, nmBy, nmC, likeL, likeB, plainOb, offs, exL, X, F, trP, trO, stepD, stepW, newA, SV.tr, SV.trL, fz, allP, Ob.tr, loadA, cellsA, SV.cells, binA, binI, eqOut, isSl, isPt, natOf, callee, snap, SV.refsL, SV.refs, thaw, fzAll, loA, hiA, elemOf, partsA, buildA, putCells, ↓reduceIte, reduceCtorEq, okCell, Nat.reduceAdd, Nat.reduceEqDiff, Nat.reduceSub, Nat.reduceMul, Nat.reduceLeDiff, Nat.reduceLT, Nat.reduceBEq, PV.scal, PV.scalL, SV.scal, SV.scalL, Ob.scal, PV.isCell, pure', resO]
      refine hR _ _ _ (by intro h; cases h) ?_
      have hdl : (delL L bs).length = L.length := by simp only [delL, List.length_append, List.length_replicate]; omega
      simp only [hll, q1, q2, q3, hcl, hdl, ags_len, Nat.zero_add, Nat.sub_zero, ↓SP, SQ, Gam.add, stepM, callC, argC, lendO, nmBy, nmC, likeL, likeB, plainOb, offs, exL, X, F, trP, trO, stepD, stepW, newA, SV.tr, SV.trL, fz, allP, Ob.tr, loadA, cellsA, SV.cells, binA, binI, eqOut, isSl, isPt, natOf, callee, snap, SV.refsL, SV.refs, thaw, fzAll, loA, hiA, elemOf, partsA, buildA, putCells, ↓reduceIte, reduceCtorEq, okCell, Nat.reduceAdd, Nat.reduceEqDiff, Nat.reduceSub, Nat.reduceMul, Nat.reduceLeDiff, Nat.reduceLT, Nat.reduceBEq, PV.scal, PV.scalL, SV.scal, SV.scalL, Ob.scal, PV.isCell, pure', resO]
      refine finA_gen [] trivial (by simp [retA, rvA, mkE_cons, mk_nil, mkO_cons, mkO_nil, loadA, SV.tr, SV.trL, nmF, rn_nil, rn_cons1, rn_cons2, plainOb, SV.refsL, SV.refs, Ob.refs, X, F, List.range_succ, mkO, setO_mk]; rfl) ?_ ?_ ?_ ?_ ?_ ?_ ?_ <;> simp [retA, rvA, mkE_cons, mk_nil, mkO_cons, mkO_nil, loadA, SV.tr, SV.trL, nmF, rn_nil, rn_cons1, rn_cons2, plainOb, SV.refsL, SV.refs, Ob.refs, X, F, List.range_succ, mkO, setO_mk]
def a_needs2 (f_ContainsT : FuncId) : AFn := ⟨2, 
  .seq (.reg [⟨some 2, none, .w (.box 3 (.t 0))⟩,
    ⟨some 3, none, .d (.mv (.c (.bool false)))⟩])
  (.seq (.reg [⟨some 4, none, .d (.load false 1 (.t 1))⟩,
    ⟨some 5, none, .d (.load true 3 (.t 2))⟩,
    ⟨some 6, none, .d (.call (.f f_ContainsT) [(.t 4), (.t 5)])⟩,
    ⟨some 3, none, .d (.mv (.t 6))⟩])
  (.ret)), [.tmp 3]⟩
def n_needs2 : Nat → Option Ann := fun _ => none
abbrev k_needs2 : List Nat := [0, 1, 2, 3]
abbrev o_needs2 : List Nat := [2]
def c_needs2 : Con := pure' fun
  | [.p (.agg [.int .i64 a, .int .i64 b, .int .i64 c]), .p (.cp [.sl 3 xs])] => if isG xs = true ∧ xs.length ≤ 1100000 then some (.p (.bool ((xs.map (isT [a, b, c])).any id)), []) else none
  | _ => none
theorem s_needs2 {P : Program} (hm : P.follows .mixedOrders = true) {Γ : Gam} (hΓ : GS P Γ) {n : FuncId} {f_ContainsT : FuncId} (is : Is P n (a_needs2 f_ContainsT)) (h_ContainsT : Γ f_ContainsT = c_ContainsT)  : Says P n c_needs2 := by
  refine Says.pure fun args r fs h => ?_
  split at h
  case h_2 => cases h
  rename_i a b c xs
  split at h
  case isFalse => cases h
  rename_i hc
  simp only [Option.some.injEq, Prod.mk.injEq] at h
  obtain ⟨rfl, rfl⟩ := h
  refine is.go hm hΓ k_needs2 o_needs2 (by simp [a_needs2]) ?_
  simp only [a_needs2, h_ContainsT, c_ContainsT, hc, List.zipIdx_cons, List.zipIdx_nil, ↓SP, SQ, Gam.add, stepM, callC, argC, lendO, nmBy, nmC, likeL, likeB, plainOb, offs, exL, X, F, trP, trO, stepD, stepW, newA, SV.tr, SV.trL, fz, allP, Ob.tr, loadA, cellsA, SV.cells, binA, binI, eqOut, isSl, isPt, natOf, callee, snap, SV.refsL, SV.refs, thaw, fzAll, loA, hiA, elemOf, partsA, buildA, putCells, ↓reduceIte, reduceCtorEq, okCell, Nat.reduceAdd, Nat.reduceEqDiff, Nat.reduceSub, Nat.reduceMul, Nat.reduceLeDiff, Nat.reduceLT, Nat.reduceBEq, PV.scal, PV.scalL, SV.scal, SV.scalL, Ob.scal, PV.isCell, pure', resO]
  exact finA_val (by simp [retA, rvA, mkE_cons, mk_nil, mkO_cons, mkO_nil, loadA, SV.tr, SV.trL, nmF, rn_nil, rn_cons1, rn_cons2, plainOb, SV.refsL, SV.refs, Ob.refs, X, F, List.range_succ, mkO, setO_mk]) (by simp [SV.tr, SV.trL])
/-- The counts to which yes leads by a rule. -/
noncomputable def ruleY (Γ0 : Gam) (g : FuncId) (c s : List Int) : List Int := by
  classical
  exact if Γ0 g = c_bothWays then yesL c s else s
theorem rules_apart : c_oneWay ≠ c_bothWays := by
  intro h
  have := congrFun (congrFun h [.p (.sl 1 (ints [0])), .p (.sl 1 (ints [0]))]) []
  simp [c_oneWay, c_bothWays, pure', isI_ints, ofI_ints, bd] at this
theorem ruleY_both {Γ0 : Gam} {g : FuncId} (h : Γ0 g = c_bothWays) (c s : List Int) : ruleY Γ0 g c s = yesL c s := by simp [ruleY, h]
theorem ruleY_one {Γ0 : Gam} {g : FuncId} (h : Γ0 g = c_oneWay) (c s : List Int) : ruleY Γ0 g c s = s := by simp [ruleY, h, rules_apart]
def a_needs1 (f_tripleOf : FuncId) : AFn := ⟨4, 
  .seq (.reg [⟨some 5, none, .d (.mv (.c (.bool false)))⟩])
  (.seq (.dreg [] [([], ⟨some 13, none, .d (.load false 1 (.t 1))⟩),
    ([], ⟨some 14, none, .d (.slcA 3 1 (.t 2) none none)⟩),
    ([], ⟨some 15, none, .d (.mv (.t 0))⟩),
    ([], ⟨some 16, none, .d (.call (.t 13) [(.t 14), (.t 15)])⟩),
    ([], ⟨some 12, none, .d (.mv (.t 16))⟩),
    ([], ⟨some 17, none, .d (.extract (.t 12) 0)⟩),
    ([], ⟨some 18, none, .d (.extract (.t 12) 1)⟩),
    ([], ⟨some 6, none, .d (.mv (.t 17))⟩)] [⟨some 7, none, .d (.mv (.t 18))⟩])
  (.seq (.dreg [] [([], ⟨some 20, none, .d (.load false 1 (.t 3))⟩),
    ([], ⟨some 21, none, .d (.mv (.t 6))⟩),
    ([], ⟨some 22, none, .d (.call (.f f_tripleOf) [(.t 21)])⟩),
    ([], ⟨some 23, none, .d (.lookup (.int .i64 0) true (some 3) (.t 20) (.t 22))⟩),
    ([], ⟨some 19, none, .d (.mv (.t 23))⟩),
    ([], ⟨some 24, none, .d (.extract (.t 19) 0)⟩),
    ([], ⟨some 25, none, .d (.extract (.t 19) 1)⟩),
    ([], ⟨some 8, none, .d (.mv (.t 24))⟩)] [⟨some 9, none, .d (.mv (.t 25))⟩])
  (.seq (.dreg [] [([], ⟨some 27, none, .d (.load false 1 (.t 3))⟩),
    ([], ⟨some 28, none, .d (.mv (.t 7))⟩),
    ([], ⟨some 29, none, .d (.call (.f f_tripleOf) [(.t 28)])⟩),
    ([], ⟨some 30, none, .d (.lookup (.int .i64 0) true (some 3) (.t 27) (.t 29))⟩),
    ([], ⟨some 26, none, .d (.mv (.t 30))⟩),
    ([], ⟨some 31, none, .d (.extract (.t 26) 0)⟩),
    ([], ⟨some 32, none, .d (.extract (.t 26) 1)⟩),
    ([], ⟨some 10, none, .d (.mv (.t 31))⟩)] [⟨some 11, none, .d (.mv (.t 32))⟩])
  (.seq (.reg [⟨some 33, none, .d (.mv (.t 9))⟩,
    ⟨some 34, none, .d (.mv (.t 33))⟩,
    ⟨some 35, some (34, true), .d (.mv (.t 11))⟩,
    ⟨some 36, none, .d (.pick (.t 34) (.t 35) (.c (.bool false)))⟩,
    ⟨some 5, none, .d (.mv (.t 36))⟩])
  (.ret))))), [.tmp 5]⟩
def n_needs1 : Nat → Option Ann := fun _ => none
abbrev k_needs1 : List Nat := [0, 1, 2, 3, 5, 6, 7, 9, 11]
abbrev o_needs1 : List Nat := []
open Classical in
noncomputable def c_needs1 (Γ0 : Gam) : Con := pure' fun
  | [.p (.sl 1 s_), .p (.cp [.fn g [] []]), .p (.cp [.int .i64 a, .int .i64 b, .int .i64 c]), .p (.cp [.mapv es])] =>
    if (Γ0 g = c_bothWays ∨ Γ0 g = c_oneWay) ∧ isI s_ = true ∧ s_.length = 3 ∧ bd 1000 [a, b, c] = true ∧ bd 1000 (ofI s_) = true ∧ keysOk (some 3) es = true then
      (match look (.agg (ints (ruleY Γ0 g [a, b, c] (ofI s_)))) es, look (.agg (ints (noL [a, b, c] (ofI s_)))) es with
        | some u, some v => some (.p (.bool (u.isSome && v.isSome)), [])
        | _, _ => none)
    else none
  | _ => none
theorem pad3_id {l : List Int} (h : l.length = 3) : pad3 l = l := by simp [pad3, h]
theorem s_needs1 {P : Program} (hm : P.follows .mixedOrders = true) {Γ : Gam} (hΓ : GS P Γ) {n : FuncId} {f_tripleOf : FuncId} (is : Is P n (a_needs1 f_tripleOf)) (h_tripleOf : Γ f_tripleOf = c_tripleOf)  : Says P n (c_needs1 Γ) := by
  refine Says.pure fun args r fs h => ?_
  split at h
  case h_2 => cases h
  rename_i s_ g a b c es
  split at h
  case isFalse => cases h
  rename_i hc
  obtain ⟨hg, hs_, hl, hb1, hb2, hko⟩ := hc
  obtain ⟨s, rfl⟩ := isI_out hs_
  rw [ints_len] at hl
  rw [ofI_ints] at hb2
  simp only [ofI_ints] at h
  split at h
  case h_2 => cases h
  rename_i u v hu hv
  simp only [Option.some.injEq, Prod.mk.injEq] at h
  obtain ⟨rfl, rfl⟩ := h
  have hyl : (yesL [a, b, c] s).length = 3 := by rw [yesL_len, hl]
  have hnl : (noL [a, b, c] s).length = 3 := by rw [noL_len, hl]
  have hsl : s.length ≤ 1100000 := by omega
  have h3l : [a, b, c].length = 3 := rfl
  have hI : [PV.int .i64 a, .int .i64 b, .int .i64 c] = ints [a, b, c] := rfl
  have htk : (ints [a, b, c]).take 3 = ints [a, b, c] := rfl
  have htn := tri hnl
  have hpn := pad3_id hnl
  rcases hg with hg | hg
  · have htY := tri hyl
    have hpY := pad3_id hyl
    rw [ruleY_both hg] at hu
    rcases u with _ | u <;> rcases v with _ | v
    · refine is.go hm hΓ k_needs1 o_needs1 (by simp [a_needs1]) ?_
      simp only [a_needs1, h_tripleOf, c_tripleOf, hg, c_bothWays, h3l, hI, htk, hl, hsl, hb1, hb2, htn, htY, hpn, hpY, hyl, hnl, hko, hu, hv, lookA, esOf, keyA, ints_isInt, ints_isCell, isI_ints, ofI_ints, ints_len, List.zipIdx_cons, List.zipIdx_nil, ↓SP, SQ, Gam.add, stepM, callC, argC, lendO, nmBy, nmC, likeL, likeB, plainOb, offs, exL, X, F, trP, trO, stepD, stepW, newA, SV.tr, SV.trL, fz, allP, Ob.tr, loadA, cellsA, SV.cells, binA, binI, eqOut, isSl, isPt, natOf, callee, snap, SV.refsL, SV.refs, thaw, fzAll, loA, hiA, elemOf, partsA, buildA, putCells, ↓reduceIte, reduceCtorEq, okCell, Nat.reduceAdd, Nat.reduceEqDiff, Nat.reduceSub, Nat.reduceMul, Nat.reduceLeDiff, Nat.reduceLT, Nat.reduceBEq, PV.scal, PV.scalL, SV.scal, SV.scalL, Ob.scal, PV.isCell, pure', resO]
      exact finA_val (by simp [retA, rvA, mkE_cons, mk_nil, mkO_cons, mkO_nil, loadA, SV.tr, SV.trL, nmF, rn_nil, rn_cons1, rn_cons2, plainOb, SV.refsL, SV.refs, Ob.refs, X, F, List.range_succ, mkO, setO_mk]) (by simp [SV.tr, SV.trL])
    · refine is.go hm hΓ k_needs1 o_needs1 (by simp [a_needs1]) ?_
      simp only [a_needs1, h_tripleOf, c_tripleOf, hg, c_bothWays, h3l, hI, htk, hl, hsl, hb1, hb2, htn, htY, hpn, hpY, hyl, hnl, hko, hu, hv, lookA, esOf, keyA, ints_isInt, ints_isCell, isI_ints, ofI_ints, ints_len, List.zipIdx_cons, List.zipIdx_nil, ↓SP, SQ, Gam.add, stepM, callC, argC, lendO, nmBy, nmC, likeL, likeB, plainOb, offs, exL, X, F, trP, trO, stepD, stepW, newA, SV.tr, SV.trL, fz, allP, Ob.tr, loadA, cellsA, SV.cells, binA, binI, eqOut, isSl, isPt, natOf, callee, snap, SV.refsL, SV.refs, thaw, fzAll, loA, hiA, elemOf, partsA, buildA, putCells, ↓reduceIte, reduceCtorEq, okCell, Nat.reduceAdd, Nat.reduceEqDiff, Nat.reduceSub, Nat.reduceMul, Nat.reduceLeDiff, Nat.reduceLT, Nat.reduceBEq, PV.scal, PV.scalL, SV.scal, SV.scalL, Ob.scal, PV.isCell, pure', resO]
      exact finA_val (by simp [retA, rvA, mkE_cons, mk_nil, mkO_cons, mkO_nil, loadA, SV.tr, SV.trL, nmF, rn_nil, rn_cons1, rn_cons2, plainOb, SV.refsL, SV.refs, Ob.refs, X, F, List.range_succ, mkO, setO_mk]) (by simp [SV.tr, SV.trL])
    · refine is.go hm hΓ k_needs1 o_needs1 (by simp [a_needs1]) ?_
      simp only [a_needs1, h_tripleOf, c_tripleOf, hg, c_bothWays, h3l, hI, htk, hl, hsl, hb1, hb2, htn, htY, hpn, hpY, hyl, hnl, hko, hu, hv, lookA, esOf, keyA, ints_isInt, ints_isCell, isI_ints, ofI_ints, ints_len, List.zipIdx_cons, List.zipIdx_nil, ↓SP, SQ, Gam.add, stepM, callC, argC, lendO, nmBy, nmC, likeL, likeB, plainOb, offs, exL, X, F, trP, trO, stepD, stepW, newA, SV.tr, SV.trL, fz, allP, Ob.tr, loadA, cellsA, SV.cells, binA, binI, eqOut, isSl, isPt, natOf, callee, snap, SV.refsL, SV.refs, thaw, fzAll, loA, hiA, elemOf, partsA, buildA, putCells, ↓reduceIte, reduceCtorEq, okCell, Nat.reduceAdd, Nat.reduceEqDiff, Nat.reduceSub, Nat.reduceMul, Nat.reduceLeDiff, Nat.reduceLT, Nat.reduceBEq, PV.scal, PV.scalL, SV.scal, SV.scalL, Ob.scal, PV.isCell, pure', resO]
      exact finA_val (by simp [retA, rvA, mkE_cons, mk_nil, mkO_cons, mkO_nil, loadA, SV.tr, SV.trL, nmF, rn_nil, rn_cons1, rn_cons2, plainOb, SV.refsL, SV.refs, Ob.refs, X, F, List.range_succ, mkO, setO_mk]) (by simp [SV.tr, SV.trL])
    · refine is.go hm hΓ k_needs1 o_needs1 (by simp [a_needs1]) ?_
      simp only [a_needs1, h_tripleOf, c_tripleOf, hg, c_bothWays, h3l, hI, htk, hl, hsl, hb1, hb2, htn, htY, hpn, hpY, hyl, hnl, hko, hu, hv, lookA, esOf, keyA, ints_isInt, ints_isCell, isI_ints, ofI_ints, ints_len, List.zipIdx_cons, List.zipIdx_nil, ↓SP, SQ, Gam.add, stepM, callC, argC, lendO, nmBy, nmC, likeL, likeB, plainOb, offs, exL, X, F, trP, trO, stepD, stepW, newA, SV.tr, SV.trL, fz, allP, Ob.tr, loadA, cellsA, SV.cells, binA, binI, eqOut, isSl, isPt, natOf, callee, snap, SV.refsL, SV.refs, thaw, fzAll, loA, hiA, elemOf, partsA, buildA, putCells, ↓reduceIte, reduceCtorEq, okCell, Nat.reduceAdd, Nat.reduceEqDiff, Nat.reduceSub, Nat.reduceMul, Nat.reduceLeDiff, Nat.reduceLT, Nat.reduceBEq, PV.scal, PV.scalL, SV.scal, SV.scalL, Ob.scal, PV.isCell, pure', resO]
      exact finA_val (by simp [retA, rvA, mkE_cons, mk_nil, mkO_cons, mkO_nil, loadA, SV.tr, SV.trL, nmF, rn_nil, rn_cons1, rn_cons2, plainOb, SV.refsL, SV.refs, Ob.refs, X, F, List.range_succ, mkO, setO_mk]) (by simp [SV.tr, SV.trL])
  · have htY := tri hl
    have hpY := pad3_id hl
    rw [ruleY_one hg] at hu
    rcases u with _ | u <;> rcases v with _ | v
    · refine is.go hm hΓ k_needs1 o_needs1 (by simp [a_needs1]) ?_
      simp only [a_needs1, h_tripleOf, c_tripleOf, hg, c_oneWay, h3l, hI, htk, hl, hsl, hb1, hb2, htn, htY, hpn, hpY, hyl, hnl, hko, hu, hv, lookA, esOf, keyA, ints_isInt, ints_isCell, isI_ints, ofI_ints, ints_len, List.zipIdx_cons, List.zipIdx_nil, ↓SP, SQ, Gam.add, stepM, callC, argC, lendO, nmBy, nmC, likeL, likeB, plainOb, offs, exL, X, F, trP, trO, stepD, stepW, newA, SV.tr, SV.trL, fz, allP, Ob.tr, loadA, cellsA, SV.cells, binA, binI, eqOut, isSl, isPt, natOf, callee, snap, SV.refsL, SV.refs, thaw, fzAll, loA, hiA, elemOf, partsA, buildA, putCells, ↓reduceIte, reduceCtorEq, okCell, Nat.reduceAdd, Nat.reduceEqDiff, Nat.reduceSub, Nat.reduceMul, Nat.reduceLeDiff, Nat.reduceLT, Nat.reduceBEq, PV.scal, PV.scalL, SV.scal, SV.scalL, Ob.scal, PV.isCell, pure', resO]
      exact finA_val (by simp [retA, rvA, mkE_cons, mk_nil, mkO_cons, mkO_nil, loadA, SV.tr, SV.trL, nmF, rn_nil, rn_cons1, rn_cons2, plainOb, SV.refsL, SV.refs, Ob.refs, X, F, List.range_succ, mkO, setO_mk]) (by simp [SV.tr, SV.trL])
    · refine is.go hm hΓ k_needs1 o_needs1 (by simp [a_needs1]) ?_
      simp only [a_needs1, h_tripleOf, c_tripleOf, hg, c_oneWay, h3l, hI, htk, hl, hsl, hb1, hb2, htn, htY, hpn, hpY, hyl, hnl, hko, hu, hv, lookA, esOf, keyA, ints_isInt, ints_isCell, isI_ints, ofI_ints, ints_len, List.zipIdx_cons, List.zipIdx_nil, ↓SP, SQ, Gam.add, stepM, callC, argC, lendO, nmBy, nmC, likeL, likeB, plainOb, offs, exL, X, F, trP, trO, stepD, stepW, newA, SV.tr, SV.trL, fz, allP, Ob.tr, loadA, cellsA, SV.cells, binA, binI, eqOut, isSl, isPt, natOf, callee, snap, SV.refsL, SV.refs, thaw, fzAll, loA, hiA, elemOf, partsA, buildA, putCells, ↓reduceIte, reduceCtorEq, okCell, Nat.reduceAdd, Nat.reduceEqDiff, Nat.reduceSub, Nat.reduceMul, Nat.reduceLeDiff, Nat.reduceLT, Nat.reduceBEq, PV.scal, PV.scalL, SV.scal, SV.scalL, Ob.scal, PV.isCell, pure', resO]
      exact finA_val (by simp [retA, rvA, mkE_cons, mk_nil, mkO_cons, mkO_nil, loadA, SV.tr, SV.trL, nmF, rn_nil, rn_cons1, rn_cons2, plainOb, SV.refsL, SV.refs, Ob.refs, X, F, List.range_succ, mkO, setO_mk]) (by simp [SV.tr, SV.trL])
    · refine is.go hm hΓ k_needs1 o_needs1 (by simp [a_needs1]) ?_
      simp only [a_needs1, h_tripleOf, c_tripleOf, hg, c_oneWay, h3l, hI, htk, hl, hsl, hb1, hb2, htn, htY, hpn, hpY, hyl, hnl, hko, hu, hv, lookA, esOf, keyA, ints_isInt, ints_isCell, isI_ints, ofI_ints, ints_len, List.zipIdx_cons, List.zipIdx_nil, ↓SP, SQ, Gam.add, stepM, callC, argC, lendO, nmBy, nmC, likeL, likeB, plainOb, offs, exL, X, F, trP, trO, stepD, stepW, newA, SV.tr, SV.trL, fz, allP, Ob.tr, loadA, cellsA, SV.cells, binA, binI, eqOut, isSl, isPt, natOf, callee, snap, SV.refsL, SV.refs, thaw, fzAll, loA, hiA, elemOf, partsA, buildA, putCells, ↓reduceIte, reduceCtorEq, okCell, Nat.reduceAdd, Nat.reduceEqDiff, Nat.reduceSub, Nat.reduceMul, Nat.reduceLeDiff, Nat.reduceLT, Nat.reduceBEq, PV.scal, PV.scalL, SV.scal, SV.scalL, Ob.scal, PV.isCell, pure', resO]
      exact finA_val (by simp [retA, rvA, mkE_cons, mk_nil, mkO_cons, mkO_nil, loadA, SV.tr, SV.trL, nmF, rn_nil, rn_cons1, rn_cons2, plainOb, SV.refsL, SV.refs, Ob.refs, X, F, List.range_succ, mkO, setO_mk]) (by simp [SV.tr, SV.trL])
    · refine is.go hm hΓ k_needs1 o_needs1 (by simp [a_needs1]) ?_
      simp only [a_needs1, h_tripleOf, c_tripleOf, hg, c_oneWay, h3l, hI, htk, hl, hsl, hb1, hb2, htn, htY, hpn, hpY, hyl, hnl, hko, hu, hv, lookA, esOf, keyA, ints_isInt, ints_isCell, isI_ints, ofI_ints, ints_len, List.zipIdx_cons, List.zipIdx_nil, ↓SP, SQ, Gam.add, stepM, callC, argC, lendO, nmBy, nmC, likeL, likeB, plainOb, offs, exL, X, F, trP, trO, stepD, stepW, newA, SV.tr, SV.trL, fz, allP, Ob.tr, loadA, cellsA, SV.cells, binA, binI, eqOut, isSl, isPt, natOf, callee, snap, SV.refsL, SV.refs, thaw, fzAll, loA, hiA, elemOf, partsA, buildA, putCells, ↓reduceIte, reduceCtorEq, okCell, Nat.reduceAdd, Nat.reduceEqDiff, Nat.reduceSub, Nat.reduceMul, Nat.reduceLeDiff, Nat.reduceLT, Nat.reduceBEq, PV.scal, PV.scalL, SV.scal, SV.scalL, Ob.scal, PV.isCell, pure', resO]
      exact finA_val (by simp [retA, rvA, mkE_cons, mk_nil, mkO_cons, mkO_nil, loadA, SV.tr, SV.trL, nmF, rn_nil, rn_cons1, rn_cons2, plainOb, SV.refsL, SV.refs, Ob.refs, X, F, List.range_succ, mkO, setO_mk]) (by simp [SV.tr, SV.trL])
end Go.Proofs.Ytihpfhdkjlphhaa.Pam
