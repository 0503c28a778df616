/- A part of the proof that stands in this folder: a small machine whose steps are shown to be the steps of the model, or walks of functions by it. No condition of its own. -/
import Derived.Test.YtmbljmolegalhaaGeLW
set_option linter.unusedVariables false
set_option linter.unusedSimpArgs false
namespace Go.Proofs.Ytmbljmolegalhaa.Pam
open Go
def intOf : Option (SV × List Ob × List Ob) → Option Int
  | some (.p (.int .i64 x), [], []) => some x
  | _ => none
theorem intOf_out {o : Option (SV × List Ob × List Ob)} {x : Int} (h : intOf o = some x) : o = some (.p (.int .i64 x), [], []) := by
  unfold intOf at h
  split at h
  · simp only [Option.some.injEq] at h; rw [h]
  · cases h
/-- What a function handed on answers for the numbers below n. -/
def askI (Γ : Gam) (g : FuncId) (a b : List PV) (n : Nat) : Option (List Int) := (List.range n).mapM fun j : Nat => intOf (Γ g ((a ++ [PV.int .i64 (j : Nat)] ++ b).map .p) [])
theorem askI_len {Γ : Gam} {g : FuncId} {a b : List PV} {n : Nat} {ds : List Int} (h : askI Γ g a b n = some ds) : ds.length = n := by
  have := (mapM_some h).1
  simpa using this
theorem askI_get {Γ : Gam} {g : FuncId} {a b : List PV} {n : Nat} {ds : List Int} (h : askI Γ g a b n = some ds) {j : Nat} (hj : j < n) : Γ g ((a ++ [PV.int .i64 (j : Nat)] ++ b).map .p) [] = some (.p (.int .i64 (ds.getD j 0)), [], []) := by
  have hl := askI_len h
  have h2 := (mapM_some h).2 j (by simpa using hj) (by omega)
  rw [List.getElem_range] at h2
  rw [getD_lt (by omega)]
  exact intOf_out h2
theorem askI_eq {Γ : Gam} {g : FuncId} {a b : List PV} {q : Nat → Int} (n : Nat) (h : ∀ j, j < n → Γ g ((a ++ [PV.int .i64 (j : Nat)] ++ b).map .p) [] = some (.p (.int .i64 (q j)), [], [])) : askI Γ g a b n = some ((List.range n).map q) := by
  unfold askI
  have h' : ∀ j ∈ List.range n, Γ g ((a ++ [PV.int .i64 (j : Nat)] ++ b).map .p) [] = some (.p (.int .i64 (q j)), [], []) := fun j hj => h j (List.mem_range.1 hj)
  generalize List.range n = l at h'
  induction l with
  | nil => rfl
  | cons x r ih =>
    simp only [List.map_cons, List.mapM_cons]
    rw [h' x (by simp), ih fun y hy => h' y (by simp [hy])]
    rfl
/-- The least, and where it stands, of the first i. -/
def lsI (ds : List Int) : Nat → Int × List Int
  | 0 => (0, [])
  | i + 1 => if (lsI ds i).2.length = 0 ∨ ds.getD i 0 < (lsI ds i).1 then (ds.getD i 0, [(i : Int)]) else if ds.getD i 0 = (lsI ds i).1 then ((lsI ds i).1, (lsI ds i).2 ++ [(i : Int)]) else lsI ds i
theorem lsI_pos (ds : List Int) : ∀ i, 0 < (lsI ds (i + 1)).2.length
  | 0 => by simp [lsI]
  | i + 1 => by
    have := lsI_pos ds i
    rw [lsI]
    split
    · simp
    · split
      · simp
      · exact this
theorem lsI_len (ds : List Int) : ∀ i, (lsI ds i).2.length ≤ i
  | 0 => by simp [lsI]
  | i + 1 => by
    have := lsI_len ds i
    rw [lsI]
    split
    · simp
    · split
      · simp; omega
      · omega
def a_near1 (f_trueWord : FuncId) (f_apart : FuncId) : AFn := ⟨3, 
  .seq (.reg [⟨some 4, none, .d (.mv (.c (.int .i64 0)))⟩])
  (.seq (.dreg [] [([], ⟨some 5, none, .d (.load false 1 (.t 1))⟩),
    ([], ⟨some 6, none, .d (.mv (.t 0))⟩),
    ([], ⟨some 7, none, .d (.call (.f f_trueWord) [(.t 5), (.t 6)])⟩),
    ([], ⟨some 8, none, .d (.load false 1 (.t 2))⟩)] [⟨some 9, none, .d (.call (.f f_apart) [(.t 7), (.t 8)])⟩,
    ⟨some 4, none, .d (.mv (.t 9))⟩])
  (.ret)), [.tmp 4]⟩
def n_near1 : Nat → Option Ann := fun _ => none
abbrev k_near1 : List Nat := [0, 1, 2, 4]
abbrev o_near1 : List Nat := []
def c_near1 : Con := pure' fun
  | [.p (.int .i64 j), .p (.cp [.sl 1 ls]), .p (.cp [.int .i64 v])] => if isI ls = true ∧ ls.length ≤ 14 ∧ 0 ≤ j ∧ 0 ≤ v ∧ v < 16384 then some (.p (.int .i64 (pcN 14 (wdN (ofI ls) j ls.length ^^^ v.toNat) : Int)), []) else none
  | _ => none
theorem s_near1 {P : Program} (hm : P.follows .mixedOrders = true) {Γ : Gam} (hΓ : GS P Γ) {n : FuncId} {f_trueWord : FuncId} {f_apart : FuncId} (is : Is P n (a_near1 f_trueWord f_apart)) (h_trueWord : Γ f_trueWord = c_trueWord) (h_apart : Γ f_apart = c_l5Apart)  : Says P n c_near1 := by
  refine Says.pure fun args r fs h => ?_
  split at h
  case h_2 => cases h
  rename_i j ls v
  split at h
  case isFalse => cases h
  rename_i hc
  obtain ⟨hx, hl, hj, hv0, hv1⟩ := hc
  obtain ⟨l, rfl⟩ := isI_out hx
  rw [ints_len] at hl
  simp only [Option.some.injEq, Prod.mk.injEq, ofI_ints, ints_len] at h
  obtain ⟨rfl, rfl⟩ := h
  have hw := wdN_lt l j l.length
  have h14 := pow14 hl
  have g0 : (0 : Int) ≤ (wdN l j l.length : Int) := by omega
  have g1 : (wdN l j l.length : Int) < 16384 := by omega
  refine is.go hm hΓ k_near1 o_near1 (by simp [a_near1]) ?_
  simp only [a_near1, h_trueWord, c_trueWord, h_apart, c_l5Apart, hl, hj, hv0, hv1, g0, g1, Int.toNat_natCast, List.zipIdx_cons, List.zipIdx_nil, ↓SP, SQ, Gam.add, stepM, callC, argC, lendO, nmBy, nmC, likeL, likeB, plainOb, offs, X, F, trP, trO, stepD, stepW, newA, SV.tr, SV.trL, fz, allP, Ob.tr, loadA, cellsA, SV.cells, binA, binI, eqOut, isSl, isPt, natOf, callee, snap, SV.refsL, SV.refs, thaw, fzAll, loA, hiA, elemOf, partsA, buildA, putCells, ↓reduceIte, reduceCtorEq, okCell, Nat.reduceAdd, Nat.reduceEqDiff, Nat.reduceSub, Nat.reduceMul, Nat.reduceLeDiff, Nat.reduceLT, Nat.reduceBEq, PV.scal, PV.scalL, SV.scal, SV.scalL, Ob.scal, PV.isCell, pure', resO]
  exact finA_val (by simp [retA, rvA, List.mapM_cons, List.mapM_nil, Option.pure_def, Option.bind_eq_bind, Option.bind_some, Option.map_some, mkE_cons, mk_nil, mkO_cons, mkO_nil, loadA, ↓reduceIte, List.take_succ_cons, List.take_zero, List.drop_zero, List.drop_succ_cons, List.length_cons, List.length_nil, Nat.reduceAdd, Nat.reduceEqDiff, Nat.reduceLeDiff, Nat.zero_add, Nat.le_refl, reduceCtorEq, SV.tr, SV.trL, nmF, rn_nil, rn_cons1, rn_cons2, List.map_cons, List.map_nil, List.all_cons, List.all_nil, plainOb, SV.refsL, SV.refs, Ob.refs, X, F, List.range_succ, List.range_zero, List.nil_append, List.cons_append, List.isEmpty_nil, decide_true, Nat.reduceLT, Bool.and_self, Bool.and_true, and_self, and_true, List.getElem?_cons_zero, List.getElem?_cons_succ, List.nodup_cons, List.nodup_nil, List.mem_cons, List.not_mem_nil, not_false_eq_true, or_false, List.append_nil, mkO, setO_mk, List.mem_singleton]) (by simp [SV.tr, SV.trL])
def a_leastOf : AFn := ⟨2, 
  .seq (.reg [⟨some 4, none, .d (.mv (.c (.int .i64 0)))⟩,
    ⟨some 5, none, .d (.mv (.c (.nilsl)))⟩])
  (.seq (.reg [⟨some 10, none, .w (.bslice 1 [] [])⟩,
    ⟨some 6, none, .d (.mv (.c (.int .i64 0)))⟩,
    ⟨some 7, none, .d (.mv (.t 10))⟩])
  (.seq (.seq (.reg [⟨some 11, none, .d (.mv (.t 0))⟩,
    ⟨some 12, none, .d (.mv (.c (.int .i64 0)))⟩])
  (.block 0 (.loop (.seq (.reg [⟨some 13, none, .d (.bin .arith .lss (.t 12) (.t 11))⟩])
    (.seq (.cond (.t 13) (.skip) (.exit 0))
    (.seq (.block 1 (.seq (.reg [⟨some 14, none, .d (.mv (.t 12))⟩,
       ⟨some 8, none, .d (.mv (.t 14))⟩])
     (.seq (.reg [⟨some 15, none, .d (.mv (.t 1))⟩,
       ⟨some 16, none, .d (.mv (.t 8))⟩,
       ⟨some 17, none, .d (.call (.t 15) [(.t 16)])⟩,
       ⟨some 9, none, .d (.mv (.t 17))⟩])
     (.seq (.seq (.reg [⟨some 18, none, .d (.mv (.t 7))⟩,
       ⟨some 19, none, .d (.len (.t 18))⟩,
       ⟨some 20, none, .d (.bin .arith .eql (.t 19) (.c (.int .i64 0)))⟩,
       ⟨some 21, none, .d (.mv (.t 20))⟩,
       ⟨some 22, some (21, false), .d (.mv (.t 9))⟩,
       ⟨some 23, some (21, false), .d (.mv (.t 6))⟩,
       ⟨some 24, some (21, false), .d (.bin .arith .lss (.t 22) (.t 23))⟩,
       ⟨some 25, none, .d (.pick (.t 21) (.c (.bool true)) (.t 24))⟩])
     (.cond (.t 25) (.reg [⟨some 26, none, .d (.mv (.t 9))⟩,
        ⟨some 6, none, .d (.mv (.t 26))⟩,
        ⟨some 7, none, .d (.mv (.c (.nilsl)))⟩]) (.skip)))
     (.seq (.reg [⟨some 27, none, .d (.mv (.t 9))⟩,
       ⟨some 28, none, .d (.mv (.t 6))⟩,
       ⟨some 29, none, .d (.bin .arith .eql (.t 27) (.t 28))⟩])
     (.cond (.t 29) (.reg [⟨some 30, none, .d (.mv (.t 7))⟩,
        ⟨some 31, none, .d (.mv (.t 8))⟩,
        ⟨some 32, none, .w (.bslice 1 [.int .i64 0] [(0, (.t 31))])⟩,
        ⟨some 33, none, .w (.append 1 (.t 30) (.t 32))⟩,
        ⟨some 7, none, .d (.mv (.t 33))⟩]) (.skip)))))))
    (.reg [⟨some 34, none, .d (.bin .arith .add (.t 12) (.c (.int .i64 1)))⟩,
      ⟨some 12, none, .d (.mv (.t 34))⟩])))))))
  (.seq (.reg [⟨some 35, none, .d (.mv (.t 6))⟩,
    ⟨some 36, none, .d (.mv (.t 7))⟩,
    ⟨some 4, none, .d (.mv (.t 35))⟩,
    ⟨some 5, none, .d (.mv (.t 36))⟩])
  (.ret)))), [.tmp 4, .tmp 5]⟩
def n_leastOf : Nat → Option Ann := fun _ => none
abbrev k_leastOf : List Nat := [0, 1, 4, 5, 6, 7, 8, 9, 11, 12, 13, 25, 29]
abbrev o_leastOf : List Nat := [10, 32, 33]
def c_leastOf (Γ0 : Gam) : Con := pure' fun
  | [.p (.int .i64 n), .p (.fn g a b)] => if 0 ≤ n ∧ n ≤ 12 then (match askI Γ0 g a b n.toNat with | some ds => some (.tp [.p (.int .i64 (lsI ds n.toNat).1), .ar 2000000], [.arr 1 (ints (lsI ds n.toNat).2)]) | none => none) else none
  | _ => none
theorem s_leastOf {P : Program} (hm : P.follows .mixedOrders = true) {Γ : Gam} (hΓ : GS P Γ) {n : FuncId} (is : Is P n a_leastOf)  : Says P n (c_leastOf Γ) := by
  refine Says.pure fun args r fs h => ?_
  split at h
  case h_2 => cases h
  rename_i n g a b
  split at h
  case isFalse => cases h
  rename_i hc
  obtain ⟨h0, h12⟩ := hc
  obtain ⟨n, rfl⟩ : ∃ j : Nat, n = j := ⟨n.toNat, by omega⟩
  simp only [Int.toNat_natCast] at h
  split at h
  case h_2 => cases h
  rename_i ds hds
  simp only [Option.some.injEq, Prod.mk.injEq] at h
  obtain ⟨rfl, rfl⟩ := h
  refine is.go hm hΓ k_leastOf o_leastOf (by simp [a_leastOf]) ?_
  simp only [a_leastOf, List.zipIdx_cons, List.zipIdx_nil, ↓SP, SQ, Gam.add, stepM, callC, argC, lendO, nmBy, nmC, likeL, likeB, plainOb, offs, X, F, trP, trO, stepD, stepW, newA, SV.tr, SV.trL, fz, allP, Ob.tr, loadA, cellsA, SV.cells, binA, binI, eqOut, isSl, isPt, natOf, callee, snap, SV.refsL, SV.refs, thaw, fzAll, loA, hiA, elemOf, partsA, buildA, putCells, ↓reduceIte, reduceCtorEq, okCell, Nat.reduceAdd, Nat.reduceEqDiff, Nat.reduceSub, Nat.reduceMul, Nat.reduceLeDiff, Nat.reduceLT, Nat.reduceBEq, PV.scal, PV.scalL, SV.scal, SV.scalL, Ob.scal, PV.isCell, pure', resO]
  refine loop_at (fun s : Nat × SV × SV × SV × SV × SV × Option Ob => mkEnv [(0, si n), (1, .p (.fn g a b)), (4, si 0), (5, .p .nilsl), (6, si (lsI ds s.1).1), (7, match s.1 with | 0 => .ar 10 | _ + 1 => .ar 33), (8, s.2.1), (9, s.2.2.1), (11, si n), (12, si s.1), (13, s.2.2.2.1), (25, s.2.2.2.2.1), (29, s.2.2.2.2.2.1)]) (fun s => match s.1 with
    | 0 => mkO [(10, some (.arr 1 [])), (32, s.2.2.2.2.2.2), (33, none)]
    | k + 1 => mkO [(10, some (.arr 1 [])), (32, s.2.2.2.2.2.2), (33, some (.arr 1 (ints (lsI ds (k + 1)).2)))]) (fun s => s.1 ≤ n) (fun s => n - s.1) (0, .junk, .junk, .junk, .junk, .junk, none) (by simp) rfl rfl ?_
  rintro ⟨i, c1, c2, c3, c4, c5, ob⟩ hi R hR hN
  simp only at hi
  by_cases h : i < n
  · have h1 : (i : Int) < n := by omega
    have hw := wrap_one (i := i) (by omega)
    have hq := askI_get hds h
    have hself : (ds.getD i 0 == ds.getD i 0) = true := beq_self_eq_true _
    have hroom1 : 1 ≤ roomA := by unfold roomA; omega
    cases i with
    | zero =>
      have hnx : lsI ds (0 + 1) = (ds.getD 0 0, [((0 : Nat) : Int)]) := by simp [lsI]
      have hz : (((0 : Nat) : Int) == 0) = true := rfl
      simp only [h1, hw, hq, call_ps, refs_ps, hself, hz, hroom1, List.length_nil, ↓SP, SQ, Gam.add, stepM, callC, argC, lendO, nmBy, nmC, likeL, likeB, plainOb, offs, X, F, trP, trO, stepD, stepW, newA, SV.tr, SV.trL, fz, allP, Ob.tr, loadA, cellsA, SV.cells, binA, binI, eqOut, isSl, isPt, natOf, callee, snap, SV.refsL, SV.refs, thaw, fzAll, loA, hiA, elemOf, partsA, buildA, putCells, ↓reduceIte, reduceCtorEq, okCell, Nat.reduceAdd, Nat.reduceEqDiff, Nat.reduceSub, Nat.reduceMul, Nat.reduceLeDiff, Nat.reduceLT, Nat.reduceBEq, PV.scal, PV.scalL, SV.scal, SV.scalL, Ob.scal, PV.isCell, pure', resO]
      exact hN (0 + 1, _, _, _, _, _, _) _ _ (by simp only; omega) (by simp only; omega) (by rw [hnx]) (by show mkO [_, _, (33, some (.arr 1 (ints (lsI ds (0 + 1)).2)))] = _; rw [hnx]; rfl)
    | succ k =>
      have hp := lsI_pos ds k
      have hle := lsI_len ds (k + 1)
      have hz : (((lsI ds (k + 1)).2.length : Int) == 0) = false := beq_eq_false_iff_ne.2 (by omega)
      have hr : (lsI ds (k + 1)).2.length + 1 ≤ roomA := by unfold roomA; omega
      by_cases hlt : ds.getD (k + 1) 0 < (lsI ds (k + 1)).1
      · have hnx : lsI ds (k + 1 + 1) = (ds.getD (k + 1) 0, [((k + 1 : Nat) : Int)]) := by
          rw [lsI, if_pos (.inr hlt)]
        simp only [h1, hw, hq, call_ps, refs_ps, hself, hz, hlt, hroom1, ints_len, ↓SP, SQ, Gam.add, stepM, callC, argC, lendO, nmBy, nmC, likeL, likeB, plainOb, offs, X, F, trP, trO, stepD, stepW, newA, SV.tr, SV.trL, fz, allP, Ob.tr, loadA, cellsA, SV.cells, binA, binI, eqOut, isSl, isPt, natOf, callee, snap, SV.refsL, SV.refs, thaw, fzAll, loA, hiA, elemOf, partsA, buildA, putCells, ↓reduceIte, reduceCtorEq, okCell, Nat.reduceAdd, Nat.reduceEqDiff, Nat.reduceSub, Nat.reduceMul, Nat.reduceLeDiff, Nat.reduceLT, Nat.reduceBEq, PV.scal, PV.scalL, SV.scal, SV.scalL, Ob.scal, PV.isCell, pure', resO]
        exact hN (k + 1 + 1, _, _, _, _, _, _) _ _ (by simp only; omega) (by simp only; omega) (by rw [hnx]) (by show mkO [_, _, (33, some (.arr 1 (ints (lsI ds (k + 1 + 1)).2)))] = _; rw [hnx]; rfl)
      · have hno : ¬ ((lsI ds (k + 1)).2.length = 0 ∨ ds.getD (k + 1) 0 < (lsI ds (k + 1)).1) := by
          rintro (e | e)
          · omega
          · exact hlt e
        by_cases heq : ds.getD (k + 1) 0 = (lsI ds (k + 1)).1
        · have hnx : lsI ds (k + 1 + 1) = ((lsI ds (k + 1)).1, (lsI ds (k + 1)).2 ++ [((k + 1 : Nat) : Int)]) := by
            rw [lsI, if_neg hno, if_pos heq]
          have he' : (ds.getD (k + 1) 0 == (lsI ds (k + 1)).1) = true := beq_iff_eq.2 heq
          simp only [h1, hw, hq, call_ps, refs_ps, he', hz, hlt, hr, ints_len, ints_app1, ints_cell, ↓SP, SQ, Gam.add, stepM, callC, argC, lendO, nmBy, nmC, likeL, likeB, plainOb, offs, X, F, trP, trO, stepD, stepW, newA, SV.tr, SV.trL, fz, allP, Ob.tr, loadA, cellsA, SV.cells, binA, binI, eqOut, isSl, isPt, natOf, callee, snap, SV.refsL, SV.refs, thaw, fzAll, loA, hiA, elemOf, partsA, buildA, putCells, ↓reduceIte, reduceCtorEq, okCell, Nat.reduceAdd, Nat.reduceEqDiff, Nat.reduceSub, Nat.reduceMul, Nat.reduceLeDiff, Nat.reduceLT, Nat.reduceBEq, PV.scal, PV.scalL, SV.scal, SV.scalL, Ob.scal, PV.isCell, pure', resO]
          exact hN (k + 1 + 1, _, _, _, _, _, _) _ _ (by simp only; omega) (by simp only; omega) (by rw [hnx]) (by show mkO [_, _, (33, some (.arr 1 (ints (lsI ds (k + 1 + 1)).2)))] = _; rw [hnx])
        · have hnx : lsI ds (k + 1 + 1) = lsI ds (k + 1) := by
            rw [lsI, if_neg hno, if_neg heq]
          have he' : (ds.getD (k + 1) 0 == (lsI ds (k + 1)).1) = false := beq_eq_false_iff_ne.2 heq
          simp only [h1, hw, hq, call_ps, refs_ps, he', hz, hlt, ints_len, ↓SP, SQ, Gam.add, stepM, callC, argC, lendO, nmBy, nmC, likeL, likeB, plainOb, offs, X, F, trP, trO, stepD, stepW, newA, SV.tr, SV.trL, fz, allP, Ob.tr, loadA, cellsA, SV.cells, binA, binI, eqOut, isSl, isPt, natOf, callee, snap, SV.refsL, SV.refs, thaw, fzAll, loA, hiA, elemOf, partsA, buildA, putCells, ↓reduceIte, reduceCtorEq, okCell, Nat.reduceAdd, Nat.reduceEqDiff, Nat.reduceSub, Nat.reduceMul, Nat.reduceLeDiff, Nat.reduceLT, Nat.reduceBEq, PV.scal, PV.scalL, SV.scal, SV.scalL, Ob.scal, PV.isCell, pure', resO]
          exact hN (k + 1 + 1, _, _, _, _, _, _) _ _ (by simp only; omega) (by simp only; omega) (by rw [hnx]) (by show mkO [_, _, (33, some (.arr 1 (ints (lsI ds (k + 1 + 1)).2)))] = _; rw [hnx])
  · have he : i = n := by omega
    have h1 : ¬ (i : Int) < n := by omega
    subst he
    cases i with
    | zero =>
      simp only [h1, ↓SP, SQ, Gam.add, stepM, callC, argC, lendO, nmBy, nmC, likeL, likeB, plainOb, offs, X, F, trP, trO, stepD, stepW, newA, SV.tr, SV.trL, fz, allP, Ob.tr, loadA, cellsA, SV.cells, binA, binI, eqOut, isSl, isPt, natOf, callee, snap, SV.refsL, SV.refs, thaw, fzAll, loA, hiA, elemOf, partsA, buildA, putCells, ↓reduceIte, reduceCtorEq, okCell, Nat.reduceAdd, Nat.reduceEqDiff, Nat.reduceSub, Nat.reduceMul, Nat.reduceLeDiff, Nat.reduceLT, Nat.reduceBEq, PV.scal, PV.scalL, SV.scal, SV.scalL, Ob.scal, PV.isCell, pure', resO]
      refine hR _ _ _ (by intro h; cases h) ?_
      simp only [↓SP, SQ, Gam.add, stepM, callC, argC, lendO, nmBy, nmC, likeL, likeB, plainOb, offs, X, F, trP, trO, stepD, stepW, newA, SV.tr, SV.trL, fz, allP, Ob.tr, loadA, cellsA, SV.cells, binA, binI, eqOut, isSl, isPt, natOf, callee, snap, SV.refsL, SV.refs, thaw, fzAll, loA, hiA, elemOf, partsA, buildA, putCells, ↓reduceIte, reduceCtorEq, okCell, Nat.reduceAdd, Nat.reduceEqDiff, Nat.reduceSub, Nat.reduceMul, Nat.reduceLeDiff, Nat.reduceLT, Nat.reduceBEq, PV.scal, PV.scalL, SV.scal, SV.scalL, Ob.scal, PV.isCell, pure', resO]
      exact finA_gen [10] trivial (by simp [retA, rvA, List.mapM_cons, List.mapM_nil, Option.pure_def, Option.bind_eq_bind, Option.bind_some, Option.map_some, mkE_cons, mk_nil, mkO_cons, mkO_nil, loadA, ↓reduceIte, List.take_succ_cons, List.take_zero, List.drop_zero, List.drop_succ_cons, List.length_cons, List.length_nil, Nat.reduceAdd, Nat.reduceEqDiff, Nat.reduceLeDiff, Nat.zero_add, Nat.le_refl, reduceCtorEq, SV.tr, SV.trL, nmF, rn_nil, rn_cons1, rn_cons2, List.map_cons, List.map_nil, List.all_cons, List.all_nil, plainOb, SV.refsL, SV.refs, Ob.refs, X, F, List.range_succ, List.range_zero, List.nil_append, List.cons_append, List.isEmpty_nil, decide_true, Nat.reduceLT, Bool.and_self, Bool.and_true, and_self, and_true, List.getElem?_cons_zero, List.getElem?_cons_succ, List.nodup_cons, List.nodup_nil, List.mem_cons, List.not_mem_nil, not_false_eq_true, or_false, List.append_nil, mkO, setO_mk, List.mem_singleton]; rfl) (by simp [lsI, ints, retA, rvA, List.mapM_cons, List.mapM_nil, Option.pure_def, Option.bind_eq_bind, Option.bind_some, Option.map_some, mkE_cons, mk_nil, mkO_cons, mkO_nil, loadA, ↓reduceIte, List.take_succ_cons, List.take_zero, List.drop_zero, List.drop_succ_cons, List.length_cons, List.length_nil, Nat.reduceAdd, Nat.reduceEqDiff, Nat.reduceLeDiff, Nat.zero_add, Nat.le_refl, reduceCtorEq, SV.tr, SV.trL, nmF, rn_nil, rn_cons1, rn_cons2, List.map_cons, List.map_nil, List.all_cons, List.all_nil, plainOb, SV.refsL, SV.refs, Ob.refs, X, F, List.range_succ, List.range_zero, List.nil_append, List.cons_append, List.isEmpty_nil, decide_true, Nat.reduceLT, Bool.and_self, Bool.and_true, and_self, and_true, List.getElem?_cons_zero, List.getElem?_cons_succ, List.nodup_cons, List.nodup_nil, List.mem_cons, List.not_mem_nil, not_false_eq_true, or_false, List.append_nil, mkO, setO_mk, List.mem_singleton]) (by simp [lsI, ints, retA, rvA, List.mapM_cons, List.mapM_nil, Option.pure_def, Option.bind_eq_bind, Option.bind_some, Option.map_some, mkE_cons, mk_nil, mkO_cons, mkO_nil, loadA, ↓reduceIte, List.take_succ_cons, List.take_zero, List.drop_zero, List.drop_succ_cons, List.length_cons, List.length_nil, Nat.reduceAdd, Nat.reduceEqDiff, Nat.reduceLeDiff, Nat.zero_add, Nat.le_refl, reduceCtorEq, SV.tr, SV.trL, nmF, rn_nil, rn_cons1, rn_cons2, List.map_cons, List.map_nil, List.all_cons, List.all_nil, plainOb, SV.refsL, SV.refs, Ob.refs, X, F, List.range_succ, List.range_zero, List.nil_append, List.cons_append, List.isEmpty_nil, decide_true, Nat.reduceLT, Bool.and_self, Bool.and_true, and_self, and_true, List.getElem?_cons_zero, List.getElem?_cons_succ, List.nodup_cons, List.nodup_nil, List.mem_cons, List.not_mem_nil, not_false_eq_true, or_false, List.append_nil, mkO, setO_mk, List.mem_singleton]) (by simp) (by simp) (by simp [retA, rvA, List.mapM_cons, List.mapM_nil, Option.pure_def, Option.bind_eq_bind, Option.bind_some, Option.map_some, mkE_cons, mk_nil, mkO_cons, mkO_nil, loadA, ↓reduceIte, List.take_succ_cons, List.take_zero, List.drop_zero, List.drop_succ_cons, List.length_cons, List.length_nil, Nat.reduceAdd, Nat.reduceEqDiff, Nat.reduceLeDiff, Nat.zero_add, Nat.le_refl, reduceCtorEq, SV.tr, SV.trL, nmF, rn_nil, rn_cons1, rn_cons2, List.map_cons, List.map_nil, List.all_cons, List.all_nil, plainOb, SV.refsL, SV.refs, Ob.refs, X, F, List.range_succ, List.range_zero, List.nil_append, List.cons_append, List.isEmpty_nil, decide_true, Nat.reduceLT, Bool.and_self, Bool.and_true, and_self, and_true, List.getElem?_cons_zero, List.getElem?_cons_succ, List.nodup_cons, List.nodup_nil, List.mem_cons, List.not_mem_nil, not_false_eq_true, or_false, List.append_nil, mkO, setO_mk, List.mem_singleton]) (by simp [lsI, ints, retA, rvA, List.mapM_cons, List.mapM_nil, Option.pure_def, Option.bind_eq_bind, Option.bind_some, Option.map_some, mkE_cons, mk_nil, mkO_cons, mkO_nil, loadA, ↓reduceIte, List.take_succ_cons, List.take_zero, List.drop_zero, List.drop_succ_cons, List.length_cons, List.length_nil, Nat.reduceAdd, Nat.reduceEqDiff, Nat.reduceLeDiff, Nat.zero_add, Nat.le_refl, reduceCtorEq, SV.tr, SV.trL, nmF, rn_nil, rn_cons1, rn_cons2, List.map_cons, List.map_nil, List.all_cons, List.all_nil, plainOb, SV.refsL, SV.refs, Ob.refs, X, F, List.range_succ, List.range_zero, List.nil_append, List.cons_append, List.isEmpty_nil, decide_true, Nat.reduceLT, Bool.and_self, Bool.and_true, and_self, and_true, List.getElem?_cons_zero, List.getElem?_cons_succ, List.nodup_cons, List.nodup_nil, List.mem_cons, List.not_mem_nil, not_false_eq_true, or_false, List.append_nil, mkO, setO_mk, List.mem_singleton]) (by simp [lsI, ints, retA, rvA, List.mapM_cons, List.mapM_nil, Option.pure_def, Option.bind_eq_bind, Option.bind_some, Option.map_some, mkE_cons, mk_nil, mkO_cons, mkO_nil, loadA, ↓reduceIte, List.take_succ_cons, List.take_zero, List.drop_zero, List.drop_succ_cons, List.length_cons, List.length_nil, Nat.reduceAdd, Nat.reduceEqDiff, Nat.reduceLeDiff, Nat.zero_add, Nat.le_refl, reduceCtorEq, SV.tr, SV.trL, nmF, rn_nil, rn_cons1, rn_cons2, List.map_cons, List.map_nil, List.all_cons, List.all_nil, plainOb, SV.refsL, SV.refs, Ob.refs, X, F, List.range_succ, List.range_zero, List.nil_append, List.cons_append, List.isEmpty_nil, decide_true, Nat.reduceLT, Bool.and_self, Bool.and_true, and_self, and_true, List.getElem?_cons_zero, List.getElem?_cons_succ, List.nodup_cons, List.nodup_nil, List.mem_cons, List.not_mem_nil, not_false_eq_true, or_false, List.append_nil, mkO, setO_mk, List.mem_singleton])
    | succ k =>
      simp only [h1, ↓SP, SQ, Gam.add, stepM, callC, argC, lendO, nmBy, nmC, likeL, likeB, plainOb, offs, X, F, trP, trO, stepD, stepW, newA, SV.tr, SV.trL, fz, allP, Ob.tr, loadA, cellsA, SV.cells, binA, binI, eqOut, isSl, isPt, natOf, callee, snap, SV.refsL, SV.refs, thaw, fzAll, loA, hiA, elemOf, partsA, buildA, putCells, ↓reduceIte, reduceCtorEq, okCell, Nat.reduceAdd, Nat.reduceEqDiff, Nat.reduceSub, Nat.reduceMul, Nat.reduceLeDiff, Nat.reduceLT, Nat.reduceBEq, PV.scal, PV.scalL, SV.scal, SV.scalL, Ob.scal, PV.isCell, pure', resO]
      refine hR _ _ _ (by intro h; cases h) ?_
      simp only [↓SP, SQ, Gam.add, stepM, callC, argC, lendO, nmBy, nmC, likeL, likeB, plainOb, offs, X, F, trP, trO, stepD, stepW, newA, SV.tr, SV.trL, fz, allP, Ob.tr, loadA, cellsA, SV.cells, binA, binI, eqOut, isSl, isPt, natOf, callee, snap, SV.refsL, SV.refs, thaw, fzAll, loA, hiA, elemOf, partsA, buildA, putCells, ↓reduceIte, reduceCtorEq, okCell, Nat.reduceAdd, Nat.reduceEqDiff, Nat.reduceSub, Nat.reduceMul, Nat.reduceLeDiff, Nat.reduceLT, Nat.reduceBEq, PV.scal, PV.scalL, SV.scal, SV.scalL, Ob.scal, PV.isCell, pure', resO]
      exact finA_gen [33] trivial (by simp [retA, rvA, List.mapM_cons, List.mapM_nil, Option.pure_def, Option.bind_eq_bind, Option.bind_some, Option.map_some, mkE_cons, mk_nil, mkO_cons, mkO_nil, loadA, ↓reduceIte, List.take_succ_cons, List.take_zero, List.drop_zero, List.drop_succ_cons, List.length_cons, List.length_nil, Nat.reduceAdd, Nat.reduceEqDiff, Nat.reduceLeDiff, Nat.zero_add, Nat.le_refl, reduceCtorEq, SV.tr, SV.trL, nmF, rn_nil, rn_cons1, rn_cons2, List.map_cons, List.map_nil, List.all_cons, List.all_nil, plainOb, SV.refsL, SV.refs, Ob.refs, X, F, List.range_succ, List.range_zero, List.nil_append, List.cons_append, List.isEmpty_nil, decide_true, Nat.reduceLT, Bool.and_self, Bool.and_true, and_self, and_true, List.getElem?_cons_zero, List.getElem?_cons_succ, List.nodup_cons, List.nodup_nil, List.mem_cons, List.not_mem_nil, not_false_eq_true, or_false, List.append_nil, mkO, setO_mk, List.mem_singleton]; rfl) (by simp [retA, rvA, List.mapM_cons, List.mapM_nil, Option.pure_def, Option.bind_eq_bind, Option.bind_some, Option.map_some, mkE_cons, mk_nil, mkO_cons, mkO_nil, loadA, ↓reduceIte, List.take_succ_cons, List.take_zero, List.drop_zero, List.drop_succ_cons, List.length_cons, List.length_nil, Nat.reduceAdd, Nat.reduceEqDiff, Nat.reduceLeDiff, Nat.zero_add, Nat.le_refl, reduceCtorEq, SV.tr, SV.trL, nmF, rn_nil, rn_cons1, rn_cons2, List.map_cons, List.map_nil, List.all_cons, List.all_nil, plainOb, SV.refsL, SV.refs, Ob.refs, X, F, List.range_succ, List.range_zero, List.nil_append, List.cons_append, List.isEmpty_nil, decide_true, Nat.reduceLT, Bool.and_self, Bool.and_true, and_self, and_true, List.getElem?_cons_zero, List.getElem?_cons_succ, List.nodup_cons, List.nodup_nil, List.mem_cons, List.not_mem_nil, not_false_eq_true, or_false, List.append_nil, mkO, setO_mk, List.mem_singleton]) (by simp [retA, rvA, List.mapM_cons, List.mapM_nil, Option.pure_def, Option.bind_eq_bind, Option.bind_some, Option.map_some, mkE_cons, mk_nil, mkO_cons, mkO_nil, loadA, ↓reduceIte, List.take_succ_cons, List.take_zero, List.drop_zero, List.drop_succ_cons, List.length_cons, List.length_nil, Nat.reduceAdd, Nat.reduceEqDiff, Nat.reduceLeDiff, Nat.zero_add, Nat.le_refl, reduceCtorEq, SV.tr, SV.trL, nmF, rn_nil, rn_cons1, rn_cons2, List.map_cons, List.map_nil, List.all_cons, List.all_nil, plainOb, SV.refsL, SV.refs, Ob.refs, X, F, List.range_succ, List.range_zero, List.nil_append, List.cons_append, List.isEmpty_nil, decide_true, Nat.reduceLT, Bool.and_self, Bool.and_true, and_self, and_true, List.getElem?_cons_zero, List.getElem?_cons_succ, List.nodup_cons, List.nodup_nil, List.mem_cons, List.not_mem_nil, not_false_eq_true, or_false, List.append_nil, mkO, setO_mk, List.mem_singleton]) (by simp) (by simp) (by simp [retA, rvA, List.mapM_cons, List.mapM_nil, Option.pure_def, Option.bind_eq_bind, Option.bind_some, Option.map_some, mkE_cons, mk_nil, mkO_cons, mkO_nil, loadA, ↓reduceIte, List.take_succ_cons, List.take_zero, List.drop_zero, List.drop_succ_cons, List.length_cons, List.length_nil, Nat.reduceAdd, Nat.reduceEqDiff, Nat.reduceLeDiff, Nat.zero_add, Nat.le_refl, reduceCtorEq, SV.tr, SV.trL, nmF, rn_nil, rn_cons1, rn_cons2, List.map_cons, List.map_nil, List.all_cons, List.all_nil, plainOb, SV.refsL, SV.refs, Ob.refs, X, F, List.range_succ, List.range_zero, List.nil_append, List.cons_append, List.isEmpty_nil, decide_true, Nat.reduceLT, Bool.and_self, Bool.and_true, and_self, and_true, List.getElem?_cons_zero, List.getElem?_cons_succ, List.nodup_cons, List.nodup_nil, List.mem_cons, List.not_mem_nil, not_false_eq_true, or_false, List.append_nil, mkO, setO_mk, List.mem_singleton]) (by simp [retA, rvA, List.mapM_cons, List.mapM_nil, Option.pure_def, Option.bind_eq_bind, Option.bind_some, Option.map_some, mkE_cons, mk_nil, mkO_cons, mkO_nil, loadA, ↓reduceIte, List.take_succ_cons, List.take_zero, List.drop_zero, List.drop_succ_cons, List.length_cons, List.length_nil, Nat.reduceAdd, Nat.reduceEqDiff, Nat.reduceLeDiff, Nat.zero_add, Nat.le_refl, reduceCtorEq, SV.tr, SV.trL, nmF, rn_nil, rn_cons1, rn_cons2, List.map_cons, List.map_nil, List.all_cons, List.all_nil, plainOb, SV.refsL, SV.refs, Ob.refs, X, F, List.range_succ, List.range_zero, List.nil_append, List.cons_append, List.isEmpty_nil, decide_true, Nat.reduceLT, Bool.and_self, Bool.and_true, and_self, and_true, List.getElem?_cons_zero, List.getElem?_cons_succ, List.nodup_cons, List.nodup_nil, List.mem_cons, List.not_mem_nil, not_false_eq_true, or_false, List.append_nil, mkO, setO_mk, List.mem_singleton]) (by simp [retA, rvA, List.mapM_cons, List.mapM_nil, Option.pure_def, Option.bind_eq_bind, Option.bind_some, Option.map_some, mkE_cons, mk_nil, mkO_cons, mkO_nil, loadA, ↓reduceIte, List.take_succ_cons, List.take_zero, List.drop_zero, List.drop_succ_cons, List.length_cons, List.length_nil, Nat.reduceAdd, Nat.reduceEqDiff, Nat.reduceLeDiff, Nat.zero_add, Nat.le_refl, reduceCtorEq, SV.tr, SV.trL, nmF, rn_nil, rn_cons1, rn_cons2, List.map_cons, List.map_nil, List.all_cons, List.all_nil, plainOb, SV.refsL, SV.refs, Ob.refs, X, F, List.range_succ, List.range_zero, List.nil_append, List.cons_append, List.isEmpty_nil, decide_true, Nat.reduceLT, Bool.and_self, Bool.and_true, and_self, and_true, List.getElem?_cons_zero, List.getElem?_cons_succ, List.nodup_cons, List.nodup_nil, List.mem_cons, List.not_mem_nil, not_false_eq_true, or_false, List.append_nil, mkO, setO_mk, List.mem_singleton])
/-- How far the words of the numbers lie from a word. -/
def apL (l : List Int) (v : Int) (n : Nat) : List Int := (List.range n).map fun j : Nat => (pcN 14 (wdN l j l.length ^^^ v.toNat) : Int)
def a_near (f_near1 : FuncId) (f_leastOf : FuncId) : AFn := ⟨3, 
  .seq (.reg [⟨some 4, none, .w (.box 1 (.t 1))⟩,
    ⟨some 5, none, .w (.box 1 (.t 2))⟩,
    ⟨some 6, none, .d (.mv (.c (.int .i64 0)))⟩,
    ⟨some 7, none, .d (.mv (.c (.nilsl)))⟩])
  (.seq (.reg [⟨some 8, none, .d (.mv (.t 0))⟩,
    ⟨some 9, none, .d (.mkfn f_near1 [] [(.t 4), (.t 5)])⟩,
    ⟨some 10, none, .d (.call (.f f_leastOf) [(.t 8), (.t 9)])⟩,
    ⟨some 11, none, .d (.extract (.t 10) 0)⟩,
    ⟨some 12, none, .d (.extract (.t 10) 1)⟩,
    ⟨some 6, none, .d (.mv (.t 11))⟩,
    ⟨some 7, none, .d (.mv (.t 12))⟩])
  (.ret)), [.tmp 6, .tmp 7]⟩
def n_near : Nat → Option Ann := fun _ => none
abbrev k_near : List Nat := [0, 1, 2, 4, 5, 6, 7]
abbrev o_near : List Nat := [4, 5]
def c_near : Con := pure' fun
  | [.p (.int .i64 n), .p (.sl 1 l_), .p (.int .i64 v)] => if isI l_ = true ∧ ((ofI l_).length ≤ 14 ∧ 0 ≤ n ∧ n ≤ 12 ∧ 0 ≤ v ∧ v < 16384) then some (.tp [.p (.int .i64 (lsI (apL (ofI l_) v n.toNat) n.toNat).1), .p (.sl 1 (ints (lsI (apL (ofI l_) v n.toNat) n.toNat).2))], []) else none
  | _ => none
theorem s_near {P : Program} (hm : P.follows .mixedOrders = true) {Γ : Gam} (hΓ : GS P Γ) {n : FuncId} {f_near1 : FuncId} {f_leastOf : FuncId} (is : Is P n (a_near f_near1 f_leastOf)) {Γ0 : Gam} (h_leastOf : Γ f_leastOf = c_leastOf Γ0) (h_near1 : Γ0 f_near1 = c_near1) : Says P n c_near := by
  refine Says.pure fun args r fs h => ?_
  split at h
  case h_2 => cases h
  rename_i n l_ v
  split at h
  case isFalse => cases h
  rename_i hc
  obtain ⟨hl_, hc⟩ := hc
  obtain ⟨l, rfl⟩ := isI_out hl_
  simp only [ofI_ints, ofBo_bools, ofAs_asks, Option.some.injEq, Prod.mk.injEq] at h hc
  obtain ⟨rfl, rfl⟩ := h
  obtain ⟨hl, h0, h12, hv0, hv1⟩ := hc
  have hask : askI Γ0 f_near1 [] [.cp [.sl 1 (ints l)], .cp [.int .i64 v]] n.toNat = some (apL l v n.toNat) := askI_eq n.toNat fun j hj => by
    rw [h_near1]
    have : (0 : Int) ≤ j := by omega
    simp [c_near1, pure', isI_ints, ints_len, ofI_ints, hl, hv0, hv1]
  refine is.go hm hΓ k_near o_near (by simp [a_near]) ?_
  simp only [a_near, h_leastOf, c_leastOf, h0, h12, hask, List.zipIdx_cons, List.zipIdx_nil, ↓SP, SQ, Gam.add, stepM, callC, argC, lendO, nmBy, nmC, likeL, likeB, plainOb, offs, X, F, trP, trO, stepD, stepW, newA, SV.tr, SV.trL, fz, allP, Ob.tr, loadA, cellsA, SV.cells, binA, binI, eqOut, isSl, isPt, natOf, callee, snap, SV.refsL, SV.refs, thaw, fzAll, loA, hiA, elemOf, partsA, buildA, putCells, ↓reduceIte, reduceCtorEq, okCell, Nat.reduceAdd, Nat.reduceEqDiff, Nat.reduceSub, Nat.reduceMul, Nat.reduceLeDiff, Nat.reduceLT, Nat.reduceBEq, PV.scal, PV.scalL, SV.scal, SV.scalL, Ob.scal, PV.isCell, pure', resO]
  exact finA_val (by simp [retA, rvA, List.mapM_cons, List.mapM_nil, Option.pure_def, Option.bind_eq_bind, Option.bind_some, Option.map_some, mkE_cons, mk_nil, mkO_cons, mkO_nil, loadA, ↓reduceIte, List.take_succ_cons, List.take_zero, List.drop_zero, List.drop_succ_cons, List.length_cons, List.length_nil, Nat.reduceAdd, Nat.reduceEqDiff, Nat.reduceLeDiff, Nat.zero_add, Nat.le_refl, reduceCtorEq, SV.tr, SV.trL, nmF, rn_nil, rn_cons1, rn_cons2, List.map_cons, List.map_nil, List.all_cons, List.all_nil, plainOb, SV.refsL, SV.refs, Ob.refs, X, F, List.range_succ, List.range_zero, List.nil_append, List.cons_append, List.isEmpty_nil, decide_true, Nat.reduceLT, Bool.and_self, Bool.and_true, and_self, and_true, List.getElem?_cons_zero, List.getElem?_cons_succ, List.nodup_cons, List.nodup_nil, List.mem_cons, List.not_mem_nil, not_false_eq_true, or_false, List.append_nil, mkO, setO_mk, List.mem_singleton]) (by simp [SV.tr, SV.trL])
def dsW (w : List Int) (v : Int) : List Int := (List.range w.length).map fun j : Nat => (pcN 14 ((w.getD j 0).toNat ^^^ v.toNat) : Int)
theorem dsW_get (w : List Int) (v : Int) {j : Nat} (h : j < w.length) : (dsW w v).getD j 0 = (pcN 14 ((w.getD j 0).toNat ^^^ v.toNat) : Int) := by
  rw [getD_lt (by simp [dsW, h])]; simp [dsW]
def a_l5Near (f_l5Apart : FuncId) : AFn := ⟨2, 
  .seq (.reg [⟨some 4, none, .d (.mv (.c (.nilsl)))⟩,
    ⟨some 5, none, .d (.mv (.c (.int .i64 0)))⟩])
  (.seq (.reg [⟨some 10, none, .w (.bslice 1 [] [])⟩,
    ⟨some 6, none, .d (.mv (.t 10))⟩,
    ⟨some 7, none, .d (.mv (.c (.int .i64 15)))⟩])
  (.seq (.seq (.reg [⟨some 8, none, .d (.mv (.c (.int .i64 0)))⟩])
  (.block 0 (.loop (.seq (.seq (.reg [⟨some 11, none, .d (.mv (.t 8))⟩,
      ⟨some 12, none, .d (.mv (.t 0))⟩,
      ⟨some 13, none, .d (.len (.t 12))⟩,
      ⟨some 14, none, .d (.bin .arith .lss (.t 11) (.t 13))⟩])
    (.cond (.t 14) (.skip) (.exit 0)))
    (.seq (.block 1 (.seq (.reg [⟨some 17, none, .d (.mv (.t 0))⟩,
       ⟨some 18, none, .d (.mv (.t 8))⟩,
       ⟨some 19, none, .d (.ia 1 (.t 17) (.t 18))⟩,
       ⟨some 20, none, .d (.load false 1 (.t 19))⟩,
       ⟨some 21, none, .d (.mv (.t 1))⟩,
       ⟨some 22, none, .d (.call (.f f_l5Apart) [(.t 20), (.t 21)])⟩,
       ⟨some 9, none, .d (.mv (.t 22))⟩])
     (.seq (.seq (.reg [⟨some 23, none, .d (.mv (.t 9))⟩,
       ⟨some 24, none, .d (.mv (.t 7))⟩,
       ⟨some 25, none, .d (.bin .arith .lss (.t 23) (.t 24))⟩])
     (.cond (.t 25) (.seq (.reg [⟨some 26, none, .d (.mv (.t 9))⟩,
        ⟨some 7, none, .d (.mv (.t 26))⟩])
      (.reg [⟨some 27, none, .w (.bslice 1 [] [])⟩,
        ⟨some 6, none, .d (.mv (.t 27))⟩])) (.skip)))
     (.seq (.reg [⟨some 28, none, .d (.mv (.t 9))⟩,
       ⟨some 29, none, .d (.mv (.t 7))⟩,
       ⟨some 30, none, .d (.bin .arith .eql (.t 28) (.t 29))⟩])
     (.cond (.t 30) (.reg [⟨some 31, none, .d (.mv (.t 6))⟩,
        ⟨some 32, none, .d (.mv (.t 8))⟩,
        ⟨some 33, none, .w (.bslice 1 [.int .i64 0] [(0, (.t 32))])⟩,
        ⟨some 34, none, .w (.append 1 (.t 31) (.t 33))⟩,
        ⟨some 6, none, .d (.mv (.t 34))⟩]) (.skip))))))
    (.reg [⟨some 15, none, .d (.mv (.t 8))⟩,
      ⟨some 16, none, .d (.bin .arith .add (.t 15) (.c (.int .i64 1)))⟩,
      ⟨some 8, none, .d (.mv (.t 16))⟩]))))))
  (.seq (.reg [⟨some 35, none, .d (.mv (.t 6))⟩,
    ⟨some 36, none, .d (.mv (.t 7))⟩,
    ⟨some 4, none, .d (.mv (.t 35))⟩,
    ⟨some 5, none, .d (.mv (.t 36))⟩])
  (.ret)))), [.tmp 4, .tmp 5]⟩
def n_l5Near : Nat → Option Ann := fun _ => none
abbrev k_l5Near : List Nat := [0, 1, 4, 5, 6, 7, 8, 9, 14, 25, 30]
abbrev o_l5Near : List Nat := [10, 27, 33, 34]
def c_l5Near : Con := pure' fun
  | [.p (.sl 1 w_), .p (.int .i64 v)] => if isI w_ = true ∧ ((ofI w_).length ≤ 4096 ∧ fitW (ofI w_) ∧ 0 ≤ v ∧ v < 16384) then some (.tp [.ar 2000000, .p (.int .i64 (if (ofI w_).length = 0 then 15 else (lsI (dsW (ofI w_) v) (ofI w_).length).1))], [.arr 1 (ints (lsI (dsW (ofI w_) v) (ofI w_).length).2)]) else none
  | _ => none
theorem s_l5Near {P : Program} (hm : P.follows .mixedOrders = true) {Γ : Gam} (hΓ : GS P Γ) {n : FuncId} {f_l5Apart : FuncId} (is : Is P n (a_l5Near f_l5Apart)) (h_l5Apart : Γ f_l5Apart = c_l5Apart)  : Says P n c_l5Near := by
  refine Says.pure fun args r fs h => ?_
  split at h
  case h_2 => cases h
  rename_i w_ v
  split at h
  case isFalse => cases h
  rename_i hc
  obtain ⟨hw_, hc⟩ := hc
  obtain ⟨w, rfl⟩ := isI_out hw_
  simp only [ofI_ints, ofBo_bools, ofAs_asks, Option.some.injEq, Prod.mk.injEq] at h hc
  obtain ⟨rfl, rfl⟩ := h
  obtain ⟨hl, hf, hv0, hv1⟩ := hc
  generalize hgd : dsW w v = ds
  refine is.go hm hΓ k_l5Near o_l5Near (by simp [a_l5Near]) ?_
  simp only [a_l5Near, h_l5Apart, c_l5Apart, List.zipIdx_cons, List.zipIdx_nil, ↓SP, SQ, Gam.add, stepM, callC, argC, lendO, nmBy, nmC, likeL, likeB, plainOb, offs, X, F, trP, trO, stepD, stepW, newA, SV.tr, SV.trL, fz, allP, Ob.tr, loadA, cellsA, SV.cells, binA, binI, eqOut, isSl, isPt, natOf, callee, snap, SV.refsL, SV.refs, thaw, fzAll, loA, hiA, elemOf, partsA, buildA, putCells, ↓reduceIte, reduceCtorEq, okCell, Nat.reduceAdd, Nat.reduceEqDiff, Nat.reduceSub, Nat.reduceMul, Nat.reduceLeDiff, Nat.reduceLT, Nat.reduceBEq, PV.scal, PV.scalL, SV.scal, SV.scalL, Ob.scal, PV.isCell, pure', resO]
  refine loop_at (fun s : Nat × SV × SV × SV × SV × Option Ob => mkEnv [(0, .p (.sl 1 (ints w))), (1, si v), (4, .p .nilsl), (5, si 0), (6, match s.1 with | 0 => .ar 10 | _ + 1 => .ar 27), (7, match s.1 with | 0 => si 15 | k + 1 => si (lsI ds (k + 1)).1), (8, si s.1), (9, s.2.1), (14, s.2.2.1), (25, s.2.2.2.1), (30, s.2.2.2.2.1)]) (fun s => match s.1 with
    | 0 => mkO [(10, some (.arr 1 [])), (27, none), (33, s.2.2.2.2.2), (34, none)]
    | k + 1 => mkO [(10, some (.arr 1 [])), (27, some (.arr 1 (ints (lsI ds (k + 1)).2))), (33, s.2.2.2.2.2), (34, none)]) (fun s => s.1 ≤ w.length) (fun s => w.length - s.1) (0, .junk, .junk, .junk, .junk, none) (by simp) rfl rfl ?_
  rintro ⟨i, c1, c2, c3, c4, ob⟩ hi R hR hN
  simp only at hi
  by_cases h : i < w.length
  · have h1 : (i : Int) < w.length := by omega
    have hw := wrap_one (i := i) (by omega)
    have hgi := ints_get h
    have hfi := fitW_get hf h
    have hds : (pcN 14 ((w.getD i 0).toNat ^^^ v.toNat) : Int) = ds.getD i 0 := by rw [← hgd, dsW_get w v h]
    have hd14 : ds.getD i 0 ≤ 14 := by rw [← hds]; have := pcN_le 14 ((w.getD i 0).toNat ^^^ v.toNat); omega
    have hself : (ds.getD i 0 == ds.getD i 0) = true := beq_self_eq_true _
    have hroom1 : 0 + 1 ≤ roomA := by unfold roomA; omega
    cases i with
    | zero =>
      have hnx : lsI ds (0 + 1) = (ds.getD 0 0, [((0 : Nat) : Int)]) := by simp [lsI]
      have hlt : ds.getD 0 0 < 15 := by omega
      simp only [h1, hw, hgi, hfi.1, hfi.2, hv0, hv1, hds, hlt, hself, hroom1, List.length_nil, List.nil_append, h_l5Apart, c_l5Apart, ↓SP, SQ, Gam.add, stepM, callC, argC, lendO, nmBy, nmC, likeL, likeB, plainOb, offs, X, F, trP, trO, stepD, stepW, newA, SV.tr, SV.trL, fz, allP, Ob.tr, loadA, cellsA, SV.cells, binA, binI, eqOut, isSl, isPt, natOf, callee, snap, SV.refsL, SV.refs, thaw, fzAll, loA, hiA, elemOf, partsA, buildA, putCells, ↓reduceIte, reduceCtorEq, okCell, Nat.reduceAdd, Nat.reduceEqDiff, Nat.reduceSub, Nat.reduceMul, Nat.reduceLeDiff, Nat.reduceLT, Nat.reduceBEq, PV.scal, PV.scalL, SV.scal, SV.scalL, Ob.scal, PV.isCell, pure', resO]
      exact hN (0 + 1, _, _, _, _, _) _ _ (by simp only; omega) (by simp only; omega) (by show mkEnv [_, _, _, _, _, (7, si (lsI ds (0 + 1)).1), _, _, _, _, _] = _; rw [hnx]) (by show mkO [_, (27, some (.arr 1 (ints (lsI ds (0 + 1)).2))), _, _] = _; rw [hnx]; rfl)
    | succ k =>
      have hp := lsI_pos ds k
      have hle := lsI_len ds (k + 1)
      have hr : (lsI ds (k + 1)).2.length + 1 ≤ roomA := by unfold roomA; omega
      by_cases hlt : ds.getD (k + 1) 0 < (lsI ds (k + 1)).1
      · have hnx : lsI ds (k + 1 + 1) = (ds.getD (k + 1) 0, [((k + 1 : Nat) : Int)]) := by
          rw [lsI, if_pos (.inr hlt)]
        simp only [h1, hw, hgi, hfi.1, hfi.2, hv0, hv1, hds, hlt, hself, hroom1, List.length_nil, List.nil_append, h_l5Apart, c_l5Apart, ↓SP, SQ, Gam.add, stepM, callC, argC, lendO, nmBy, nmC, likeL, likeB, plainOb, offs, X, F, trP, trO, stepD, stepW, newA, SV.tr, SV.trL, fz, allP, Ob.tr, loadA, cellsA, SV.cells, binA, binI, eqOut, isSl, isPt, natOf, callee, snap, SV.refsL, SV.refs, thaw, fzAll, loA, hiA, elemOf, partsA, buildA, putCells, ↓reduceIte, reduceCtorEq, okCell, Nat.reduceAdd, Nat.reduceEqDiff, Nat.reduceSub, Nat.reduceMul, Nat.reduceLeDiff, Nat.reduceLT, Nat.reduceBEq, PV.scal, PV.scalL, SV.scal, SV.scalL, Ob.scal, PV.isCell, pure', resO]
        exact hN (k + 1 + 1, _, _, _, _, _) _ _ (by simp only; omega) (by simp only; omega) (by show mkEnv [_, _, _, _, _, (7, si (lsI ds (k + 1 + 1)).1), _, _, _, _, _] = _; rw [hnx]) (by show mkO [_, (27, some (.arr 1 (ints (lsI ds (k + 1 + 1)).2))), _, _] = _; rw [hnx]; rfl)
      · have hno : ¬ ((lsI ds (k + 1)).2.length = 0 ∨ ds.getD (k + 1) 0 < (lsI ds (k + 1)).1) := by
          rintro (e | e)
          · omega
          · exact hlt e
        by_cases heq : ds.getD (k + 1) 0 = (lsI ds (k + 1)).1
        · have hnx : lsI ds (k + 1 + 1) = ((lsI ds (k + 1)).1, (lsI ds (k + 1)).2 ++ [((k + 1 : Nat) : Int)]) := by
            rw [lsI, if_neg hno, if_pos heq]
          have he' : (ds.getD (k + 1) 0 == (lsI ds (k + 1)).1) = true := beq_iff_eq.2 heq
          simp only [h1, hw, hgi, hfi.1, hfi.2, hv0, hv1, hds, hlt, he', hr, ints_len, ints_app1, ints_cell, h_l5Apart, c_l5Apart, ↓SP, SQ, Gam.add, stepM, callC, argC, lendO, nmBy, nmC, likeL, likeB, plainOb, offs, X, F, trP, trO, stepD, stepW, newA, SV.tr, SV.trL, fz, allP, Ob.tr, loadA, cellsA, SV.cells, binA, binI, eqOut, isSl, isPt, natOf, callee, snap, SV.refsL, SV.refs, thaw, fzAll, loA, hiA, elemOf, partsA, buildA, putCells, ↓reduceIte, reduceCtorEq, okCell, Nat.reduceAdd, Nat.reduceEqDiff, Nat.reduceSub, Nat.reduceMul, Nat.reduceLeDiff, Nat.reduceLT, Nat.reduceBEq, PV.scal, PV.scalL, SV.scal, SV.scalL, Ob.scal, PV.isCell, pure', resO]
          exact hN (k + 1 + 1, _, _, _, _, _) _ _ (by simp only; omega) (by simp only; omega) (by show mkEnv [_, _, _, _, _, (7, si (lsI ds (k + 1 + 1)).1), _, _, _, _, _] = _; rw [hnx]) (by show mkO [_, (27, some (.arr 1 (ints (lsI ds (k + 1 + 1)).2))), _, _] = _; rw [hnx])
        · have hnx : lsI ds (k + 1 + 1) = lsI ds (k + 1) := by
            rw [lsI, if_neg hno, if_neg heq]
          have he' : (ds.getD (k + 1) 0 == (lsI ds (k + 1)).1) = false := beq_eq_false_iff_ne.2 heq
          simp only [h1, hw, hgi, hfi.1, hfi.2, hv0, hv1, hds, hlt, he', ints_len, h_l5Apart, c_l5Apart, ↓SP, SQ, Gam.add, stepM, callC, argC, lendO, nmBy, nmC, likeL, likeB, plainOb, offs, X, F, trP, trO, stepD, stepW, newA, SV.tr, SV.trL, fz, allP, Ob.tr, loadA, cellsA, SV.cells, binA, binI, eqOut, isSl, isPt, natOf, callee, snap, SV.refsL, SV.refs, thaw, fzAll, loA, hiA, elemOf, partsA, buildA, putCells, ↓reduceIte, reduceCtorEq, okCell, Nat.reduceAdd, Nat.reduceEqDiff, Nat.reduceSub, Nat.reduceMul, Nat.reduceLeDiff, Nat.reduceLT, Nat.reduceBEq, PV.scal, PV.scalL, SV.scal, SV.scalL, Ob.scal, PV.isCell, pure', resO]
          exact hN (k + 1 + 1, _, _, _, _, _) _ _ (by simp only; omega) (by simp only; omega) (by show mkEnv [_, _, _, _, _, (7, si (lsI ds (k + 1 + 1)).1), _, _, _, _, _] = _; rw [hnx]) (by show mkO [_, (27, some (.arr 1 (ints (lsI ds (k + 1 + 1)).2))), _, _] = _; rw [hnx])
  · have he : i = w.length := by omega
    have h1 : ¬ (i : Int) < w.length := by omega
    cases i with
    | zero =>
      have hw0 : w.length = 0 := he.symm
      simp only [h1, ↓SP, SQ, Gam.add, stepM, callC, argC, lendO, nmBy, nmC, likeL, likeB, plainOb, offs, X, F, trP, trO, stepD, stepW, newA, SV.tr, SV.trL, fz, allP, Ob.tr, loadA, cellsA, SV.cells, binA, binI, eqOut, isSl, isPt, natOf, callee, snap, SV.refsL, SV.refs, thaw, fzAll, loA, hiA, elemOf, partsA, buildA, putCells, ↓reduceIte, reduceCtorEq, okCell, Nat.reduceAdd, Nat.reduceEqDiff, Nat.reduceSub, Nat.reduceMul, Nat.reduceLeDiff, Nat.reduceLT, Nat.reduceBEq, PV.scal, PV.scalL, SV.scal, SV.scalL, Ob.scal, PV.isCell, pure', resO]
      refine hR _ _ _ (by intro h; cases h) ?_
      simp only [hw0, ↓SP, SQ, Gam.add, stepM, callC, argC, lendO, nmBy, nmC, likeL, likeB, plainOb, offs, X, F, trP, trO, stepD, stepW, newA, SV.tr, SV.trL, fz, allP, Ob.tr, loadA, cellsA, SV.cells, binA, binI, eqOut, isSl, isPt, natOf, callee, snap, SV.refsL, SV.refs, thaw, fzAll, loA, hiA, elemOf, partsA, buildA, putCells, ↓reduceIte, reduceCtorEq, okCell, Nat.reduceAdd, Nat.reduceEqDiff, Nat.reduceSub, Nat.reduceMul, Nat.reduceLeDiff, Nat.reduceLT, Nat.reduceBEq, PV.scal, PV.scalL, SV.scal, SV.scalL, Ob.scal, PV.isCell, pure', resO]
      exact finA_gen [10] trivial (by simp [retA, rvA, List.mapM_cons, List.mapM_nil, Option.pure_def, Option.bind_eq_bind, Option.bind_some, Option.map_some, mkE_cons, mk_nil, mkO_cons, mkO_nil, loadA, ↓reduceIte, List.take_succ_cons, List.take_zero, List.drop_zero, List.drop_succ_cons, List.length_cons, List.length_nil, Nat.reduceAdd, Nat.reduceEqDiff, Nat.reduceLeDiff, Nat.zero_add, Nat.le_refl, reduceCtorEq, SV.tr, SV.trL, nmF, rn_nil, rn_cons1, rn_cons2, List.map_cons, List.map_nil, List.all_cons, List.all_nil, plainOb, SV.refsL, SV.refs, Ob.refs, X, F, List.range_succ, List.range_zero, List.nil_append, List.cons_append, List.isEmpty_nil, decide_true, Nat.reduceLT, Bool.and_self, Bool.and_true, and_self, and_true, List.getElem?_cons_zero, List.getElem?_cons_succ, List.nodup_cons, List.nodup_nil, List.mem_cons, List.not_mem_nil, not_false_eq_true, or_false, List.append_nil, mkO, setO_mk, List.mem_singleton]; rfl) (by simp [lsI, ints, hw0, retA, rvA, List.mapM_cons, List.mapM_nil, Option.pure_def, Option.bind_eq_bind, Option.bind_some, Option.map_some, mkE_cons, mk_nil, mkO_cons, mkO_nil, loadA, ↓reduceIte, List.take_succ_cons, List.take_zero, List.drop_zero, List.drop_succ_cons, List.length_cons, List.length_nil, Nat.reduceAdd, Nat.reduceEqDiff, Nat.reduceLeDiff, Nat.zero_add, Nat.le_refl, reduceCtorEq, SV.tr, SV.trL, nmF, rn_nil, rn_cons1, rn_cons2, List.map_cons, List.map_nil, List.all_cons, List.all_nil, plainOb, SV.refsL, SV.refs, Ob.refs, X, F, List.range_succ, List.range_zero, List.nil_append, List.cons_append, List.isEmpty_nil, decide_true, Nat.reduceLT, Bool.and_self, Bool.and_true, and_self, and_true, List.getElem?_cons_zero, List.getElem?_cons_succ, List.nodup_cons, List.nodup_nil, List.mem_cons, List.not_mem_nil, not_false_eq_true, or_false, List.append_nil, mkO, setO_mk, List.mem_singleton]) (by simp [lsI, ints, hw0, retA, rvA, List.mapM_cons, List.mapM_nil, Option.pure_def, Option.bind_eq_bind, Option.bind_some, Option.map_some, mkE_cons, mk_nil, mkO_cons, mkO_nil, loadA, ↓reduceIte, List.take_succ_cons, List.take_zero, List.drop_zero, List.drop_succ_cons, List.length_cons, List.length_nil, Nat.reduceAdd, Nat.reduceEqDiff, Nat.reduceLeDiff, Nat.zero_add, Nat.le_refl, reduceCtorEq, SV.tr, SV.trL, nmF, rn_nil, rn_cons1, rn_cons2, List.map_cons, List.map_nil, List.all_cons, List.all_nil, plainOb, SV.refsL, SV.refs, Ob.refs, X, F, List.range_succ, List.range_zero, List.nil_append, List.cons_append, List.isEmpty_nil, decide_true, Nat.reduceLT, Bool.and_self, Bool.and_true, and_self, and_true, List.getElem?_cons_zero, List.getElem?_cons_succ, List.nodup_cons, List.nodup_nil, List.mem_cons, List.not_mem_nil, not_false_eq_true, or_false, List.append_nil, mkO, setO_mk, List.mem_singleton]) (by simp) (by simp) (by simp [retA, rvA, List.mapM_cons, List.mapM_nil, Option.pure_def, Option.bind_eq_bind, Option.bind_some, Option.map_some, mkE_cons, mk_nil, mkO_cons, mkO_nil, loadA, ↓reduceIte, List.take_succ_cons, List.take_zero, List.drop_zero, List.drop_succ_cons, List.length_cons, List.length_nil, Nat.reduceAdd, Nat.reduceEqDiff, Nat.reduceLeDiff, Nat.zero_add, Nat.le_refl, reduceCtorEq, SV.tr, SV.trL, nmF, rn_nil, rn_cons1, rn_cons2, List.map_cons, List.map_nil, List.all_cons, List.all_nil, plainOb, SV.refsL, SV.refs, Ob.refs, X, F, List.range_succ, List.range_zero, List.nil_append, List.cons_append, List.isEmpty_nil, decide_true, Nat.reduceLT, Bool.and_self, Bool.and_true, and_self, and_true, List.getElem?_cons_zero, List.getElem?_cons_succ, List.nodup_cons, List.nodup_nil, List.mem_cons, List.not_mem_nil, not_false_eq_true, or_false, List.append_nil, mkO, setO_mk, List.mem_singleton]) (by simp [lsI, ints, hw0, retA, rvA, List.mapM_cons, List.mapM_nil, Option.pure_def, Option.bind_eq_bind, Option.bind_some, Option.map_some, mkE_cons, mk_nil, mkO_cons, mkO_nil, loadA, ↓reduceIte, List.take_succ_cons, List.take_zero, List.drop_zero, List.drop_succ_cons, List.length_cons, List.length_nil, Nat.reduceAdd, Nat.reduceEqDiff, Nat.reduceLeDiff, Nat.zero_add, Nat.le_refl, reduceCtorEq, SV.tr, SV.trL, nmF, rn_nil, rn_cons1, rn_cons2, List.map_cons, List.map_nil, List.all_cons, List.all_nil, plainOb, SV.refsL, SV.refs, Ob.refs, X, F, List.range_succ, List.range_zero, List.nil_append, List.cons_append, List.isEmpty_nil, decide_true, Nat.reduceLT, Bool.and_self, Bool.and_true, and_self, and_true, List.getElem?_cons_zero, List.getElem?_cons_succ, List.nodup_cons, List.nodup_nil, List.mem_cons, List.not_mem_nil, not_false_eq_true, or_false, List.append_nil, mkO, setO_mk, List.mem_singleton]) (by simp [lsI, ints, hw0, retA, rvA, List.mapM_cons, List.mapM_nil, Option.pure_def, Option.bind_eq_bind, Option.bind_some, Option.map_some, mkE_cons, mk_nil, mkO_cons, mkO_nil, loadA, ↓reduceIte, List.take_succ_cons, List.take_zero, List.drop_zero, List.drop_succ_cons, List.length_cons, List.length_nil, Nat.reduceAdd, Nat.reduceEqDiff, Nat.reduceLeDiff, Nat.zero_add, Nat.le_refl, reduceCtorEq, SV.tr, SV.trL, nmF, rn_nil, rn_cons1, rn_cons2, List.map_cons, List.map_nil, List.all_cons, List.all_nil, plainOb, SV.refsL, SV.refs, Ob.refs, X, F, List.range_succ, List.range_zero, List.nil_append, List.cons_append, List.isEmpty_nil, decide_true, Nat.reduceLT, Bool.and_self, Bool.and_true, and_self, and_true, List.getElem?_cons_zero, List.getElem?_cons_succ, List.nodup_cons, List.nodup_nil, List.mem_cons, List.not_mem_nil, not_false_eq_true, or_false, List.append_nil, mkO, setO_mk, List.mem_singleton])
    | succ k =>
      have hwk : w.length = k + 1 := he.symm
      have hwn : ¬ k + 1 = 0 := by omega
      simp only [h1, ↓SP, SQ, Gam.add, stepM, callC, argC, lendO, nmBy, nmC, likeL, likeB, plainOb, offs, X, F, trP, trO, stepD, stepW, newA, SV.tr, SV.trL, fz, allP, Ob.tr, loadA, cellsA, SV.cells, binA, binI, eqOut, isSl, isPt, natOf, callee, snap, SV.refsL, SV.refs, thaw, fzAll, loA, hiA, elemOf, partsA, buildA, putCells, ↓reduceIte, reduceCtorEq, okCell, Nat.reduceAdd, Nat.reduceEqDiff, Nat.reduceSub, Nat.reduceMul, Nat.reduceLeDiff, Nat.reduceLT, Nat.reduceBEq, PV.scal, PV.scalL, SV.scal, SV.scalL, Ob.scal, PV.isCell, pure', resO]
      refine hR _ _ _ (by intro h; cases h) ?_
      simp only [hwk, hwn, ↓SP, SQ, Gam.add, stepM, callC, argC, lendO, nmBy, nmC, likeL, likeB, plainOb, offs, X, F, trP, trO, stepD, stepW, newA, SV.tr, SV.trL, fz, allP, Ob.tr, loadA, cellsA, SV.cells, binA, binI, eqOut, isSl, isPt, natOf, callee, snap, SV.refsL, SV.refs, thaw, fzAll, loA, hiA, elemOf, partsA, buildA, putCells, ↓reduceIte, reduceCtorEq, okCell, Nat.reduceAdd, Nat.reduceEqDiff, Nat.reduceSub, Nat.reduceMul, Nat.reduceLeDiff, Nat.reduceLT, Nat.reduceBEq, PV.scal, PV.scalL, SV.scal, SV.scalL, Ob.scal, PV.isCell, pure', resO]
      exact finA_gen [27] trivial (by simp [retA, rvA, List.mapM_cons, List.mapM_nil, Option.pure_def, Option.bind_eq_bind, Option.bind_some, Option.map_some, mkE_cons, mk_nil, mkO_cons, mkO_nil, loadA, ↓reduceIte, List.take_succ_cons, List.take_zero, List.drop_zero, List.drop_succ_cons, List.length_cons, List.length_nil, Nat.reduceAdd, Nat.reduceEqDiff, Nat.reduceLeDiff, Nat.zero_add, Nat.le_refl, reduceCtorEq, SV.tr, SV.trL, nmF, rn_nil, rn_cons1, rn_cons2, List.map_cons, List.map_nil, List.all_cons, List.all_nil, plainOb, SV.refsL, SV.refs, Ob.refs, X, F, List.range_succ, List.range_zero, List.nil_append, List.cons_append, List.isEmpty_nil, decide_true, Nat.reduceLT, Bool.and_self, Bool.and_true, and_self, and_true, List.getElem?_cons_zero, List.getElem?_cons_succ, List.nodup_cons, List.nodup_nil, List.mem_cons, List.not_mem_nil, not_false_eq_true, or_false, List.append_nil, mkO, setO_mk, List.mem_singleton]; rfl) (by simp [hwk, retA, rvA, List.mapM_cons, List.mapM_nil, Option.pure_def, Option.bind_eq_bind, Option.bind_some, Option.map_some, mkE_cons, mk_nil, mkO_cons, mkO_nil, loadA, ↓reduceIte, List.take_succ_cons, List.take_zero, List.drop_zero, List.drop_succ_cons, List.length_cons, List.length_nil, Nat.reduceAdd, Nat.reduceEqDiff, Nat.reduceLeDiff, Nat.zero_add, Nat.le_refl, reduceCtorEq, SV.tr, SV.trL, nmF, rn_nil, rn_cons1, rn_cons2, List.map_cons, List.map_nil, List.all_cons, List.all_nil, plainOb, SV.refsL, SV.refs, Ob.refs, X, F, List.range_succ, List.range_zero, List.nil_append, List.cons_append, List.isEmpty_nil, decide_true, Nat.reduceLT, Bool.and_self, Bool.and_true, and_self, and_true, List.getElem?_cons_zero, List.getElem?_cons_succ, List.nodup_cons, List.nodup_nil, List.mem_cons, List.not_mem_nil, not_false_eq_true, or_false, List.append_nil, mkO, setO_mk, List.mem_singleton]) (by simp [hwk, retA, rvA, List.mapM_cons, List.mapM_nil, Option.pure_def, Option.bind_eq_bind, Option.bind_some, Option.map_some, mkE_cons, mk_nil, mkO_cons, mkO_nil, loadA, ↓reduceIte, List.take_succ_cons, List.take_zero, List.drop_zero, List.drop_succ_cons, List.length_cons, List.length_nil, Nat.reduceAdd, Nat.reduceEqDiff, Nat.reduceLeDiff, Nat.zero_add, Nat.le_refl, reduceCtorEq, SV.tr, SV.trL, nmF, rn_nil, rn_cons1, rn_cons2, List.map_cons, List.map_nil, List.all_cons, List.all_nil, plainOb, SV.refsL, SV.refs, Ob.refs, X, F, List.range_succ, List.range_zero, List.nil_append, List.cons_append, List.isEmpty_nil, decide_true, Nat.reduceLT, Bool.and_self, Bool.and_true, and_self, and_true, List.getElem?_cons_zero, List.getElem?_cons_succ, List.nodup_cons, List.nodup_nil, List.mem_cons, List.not_mem_nil, not_false_eq_true, or_false, List.append_nil, mkO, setO_mk, List.mem_singleton]) (by simp) (by simp) (by simp [retA, rvA, List.mapM_cons, List.mapM_nil, Option.pure_def, Option.bind_eq_bind, Option.bind_some, Option.map_some, mkE_cons, mk_nil, mkO_cons, mkO_nil, loadA, ↓reduceIte, List.take_succ_cons, List.take_zero, List.drop_zero, List.drop_succ_cons, List.length_cons, List.length_nil, Nat.reduceAdd, Nat.reduceEqDiff, Nat.reduceLeDiff, Nat.zero_add, Nat.le_refl, reduceCtorEq, SV.tr, SV.trL, nmF, rn_nil, rn_cons1, rn_cons2, List.map_cons, List.map_nil, List.all_cons, List.all_nil, plainOb, SV.refsL, SV.refs, Ob.refs, X, F, List.range_succ, List.range_zero, List.nil_append, List.cons_append, List.isEmpty_nil, decide_true, Nat.reduceLT, Bool.and_self, Bool.and_true, and_self, and_true, List.getElem?_cons_zero, List.getElem?_cons_succ, List.nodup_cons, List.nodup_nil, List.mem_cons, List.not_mem_nil, not_false_eq_true, or_false, List.append_nil, mkO, setO_mk, List.mem_singleton]) (by simp [hwk, retA, rvA, List.mapM_cons, List.mapM_nil, Option.pure_def, Option.bind_eq_bind, Option.bind_some, Option.map_some, mkE_cons, mk_nil, mkO_cons, mkO_nil, loadA, ↓reduceIte, List.take_succ_cons, List.take_zero, List.drop_zero, List.drop_succ_cons, List.length_cons, List.length_nil, Nat.reduceAdd, Nat.reduceEqDiff, Nat.reduceLeDiff, Nat.zero_add, Nat.le_refl, reduceCtorEq, SV.tr, SV.trL, nmF, rn_nil, rn_cons1, rn_cons2, List.map_cons, List.map_nil, List.all_cons, List.all_nil, plainOb, SV.refsL, SV.refs, Ob.refs, X, F, List.range_succ, List.range_zero, List.nil_append, List.cons_append, List.isEmpty_nil, decide_true, Nat.reduceLT, Bool.and_self, Bool.and_true, and_self, and_true, List.getElem?_cons_zero, List.getElem?_cons_succ, List.nodup_cons, List.nodup_nil, List.mem_cons, List.not_mem_nil, not_false_eq_true, or_false, List.append_nil, mkO, setO_mk, List.mem_singleton]) (by simp [hwk, retA, rvA, List.mapM_cons, List.mapM_nil, Option.pure_def, Option.bind_eq_bind, Option.bind_some, Option.map_some, mkE_cons, mk_nil, mkO_cons, mkO_nil, loadA, ↓reduceIte, List.take_succ_cons, List.take_zero, List.drop_zero, List.drop_succ_cons, List.length_cons, List.length_nil, Nat.reduceAdd, Nat.reduceEqDiff, Nat.reduceLeDiff, Nat.zero_add, Nat.le_refl, reduceCtorEq, SV.tr, SV.trL, nmF, rn_nil, rn_cons1, rn_cons2, List.map_cons, List.map_nil, List.all_cons, List.all_nil, plainOb, SV.refsL, SV.refs, Ob.refs, X, F, List.range_succ, List.range_zero, List.nil_append, List.cons_append, List.isEmpty_nil, decide_true, Nat.reduceLT, Bool.and_self, Bool.and_true, and_self, and_true, List.getElem?_cons_zero, List.getElem?_cons_succ, List.nodup_cons, List.nodup_nil, List.mem_cons, List.not_mem_nil, not_false_eq_true, or_false, List.append_nil, mkO, setO_mk, List.mem_singleton])
end Go.Proofs.Ytmbljmolegalhaa.Pam
