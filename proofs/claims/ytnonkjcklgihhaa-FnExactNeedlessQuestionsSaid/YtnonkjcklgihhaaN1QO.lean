/- A part of the proof that stands in this folder: a small machine whose steps are shown to be the steps of the model, or walks of functions by it. No condition of its own. -/
import Derived.Test.YtnonkjcklgihhaaN1LN
set_option linter.unusedVariables false
set_option linter.unusedSimpArgs false
namespace Go.Proofs.Ytnonkjcklgihhaa.Pam
open Go
/-- Of the first k lists of answers, those that keep a numbers open. -/
def cntI (x : List Int) (m : Int) (l : List Int) (a : Int) (k : Nat) : Nat := ((List.range k).filter fun v : Nat => decide (a ≤ (leftN x m l v : Int))).length
def cntN (x : List Int) (m : Int) (l : List Int) (a : Int) : Nat := cntI x m l a (2 ^ l.length)
theorem cntI_yes {x : List Int} {m : Int} {l : List Int} {a : Int} {k : Nat} (h : a ≤ (leftN x m l k : Int)) : cntI x m l a (k + 1) = cntI x m l a k + 1 := by
  simp only [cntI, List.range_succ, List.filter_append, List.filter_cons, dec_t h, List.filter_nil, if_true, List.length_append, List.length_cons, List.length_nil]
theorem cntI_no {x : List Int} {m : Int} {l : List Int} {a : Int} {k : Nat} (h : ¬ a ≤ (leftN x m l k : Int)) : cntI x m l a (k + 1) = cntI x m l a k := by
  simp only [cntI, List.range_succ, List.filter_append, List.filter_cons, dec_f h, List.filter_nil, Bool.false_eq_true, if_false, List.append_nil]
theorem cntI_le (x : List Int) (m : Int) (l : List Int) (a : Int) (k : Nat) : cntI x m l a k ≤ k := Nat.le_trans (List.length_filter_le _ _) (by simp)
def a_count1 : AFn := ⟨4, 
  .seq (.reg [⟨some 6, none, .d (.mv (.t 1))⟩,
    ⟨some 7, none, .d (.load false 1 (.t 2))⟩,
    ⟨some 8, none, .d (.bin .arith .geq (.t 6) (.t 7))⟩])
  (.cond (.t 8) (.reg [⟨some 9, none, .d (.load false 1 (.t 3))⟩,
     ⟨some 10, none, .d (.bin .arith .add (.t 9) (.c (.int .i64 1)))⟩,
     ⟨none, none, .w (.store 1 (.t 3) (.t 10))⟩]) (.skip)), []⟩
def n_count1 : Nat → Option Ann := fun _ => none
abbrev k_count1 : List Nat := [1, 2, 3, 8]
abbrev o_count1 : List Nat := []
def c_count1 : Con
  | [.p v, .p (.int .i64 n), .bx 1000000 0, .bx 1000001 0], [.box [.p (.int .i64 a)], .box [.p (.int .i64 c)]] => if 0 ≤ c ∧ c ≤ 1000000 then some (.tp [], [.box [.p (.int .i64 a)], .box [.p (.int .i64 (if a ≤ n then c + 1 else c))]], []) else none
  | _, _ => none
theorem s_count1 {P : Program} (hm : P.follows .mixedOrders = true) {Γ : Gam} (hΓ : GS P Γ) {n : FuncId} (is : Is P n a_count1)  : Says P n c_count1 := by
  intro args ext r ext' fs h
  unfold c_count1 at h
  split at h
  case h_2 => cases h
  rename_i v n a c
  split at h
  case isFalse => cases h
  rename_i hc
  simp only [Option.some.injEq, Prod.mk.injEq] at h
  obtain ⟨rfl, rfl, rfl⟩ := h
  have hw : IntKind.i64.wrap (c + 1) = c + 1 := wrap64 (by omega) (by omega)
  refine is.goX hm hΓ k_count1 (1000000 :: 1000001 :: o_count1) (by simp [a_count1]) (by simp) ?_
  by_cases h1 : a ≤ n
  · have h2 : n ≥ a := h1
    simp only [a_count1, hw, h1, h2, List.zipIdx_cons, List.zipIdx_nil, ↓SP, SQ, Gam.add, stepM, callC, argC, lendO, nmBy, nmC, likeL, likeB, plainOb, offs, exL, X, F, trP, trO, stepD, stepW, newA, SV.tr, SV.trL, fz, allP, Ob.tr, loadA, cellsA, SV.cells, binA, binI, eqOut, isSl, isPt, natOf, callee, snap, SV.refsL, SV.refs, thaw, fzAll, loA, hiA, elemOf, partsA, buildA, putCells, ↓reduceIte, reduceCtorEq, okCell, Nat.reduceAdd, Nat.reduceEqDiff, Nat.reduceSub, Nat.reduceMul, Nat.reduceLeDiff, Nat.reduceLT, Nat.reduceBEq, PV.scal, PV.scalL, SV.scal, SV.scalL, Ob.scal, PV.isCell, pure', resO]
    refine finA_gen [] trivial (by simp [retA, rvA, mkE_cons, mk_nil, mkO_cons, mkO_nil, loadA, SV.tr, SV.trL, nmF, rn_nil, rn_cons1, rn_cons2, plainOb, SV.refsL, SV.refs, Ob.refs, X, F, List.range_succ, mkO, setO_mk]; rfl) ?_ ?_ ?_ ?_ ?_ ?_ ?_ <;> simp [retA, rvA, mkE_cons, mk_nil, mkO_cons, mkO_nil, loadA, SV.tr, SV.trL, nmF, rn_nil, rn_cons1, rn_cons2, plainOb, SV.refsL, SV.refs, Ob.refs, X, F, List.range_succ, mkO, setO_mk]
  · have h2 : ¬ n ≥ a := h1
    simp only [a_count1, hw, h1, h2, List.zipIdx_cons, List.zipIdx_nil, ↓SP, SQ, Gam.add, stepM, callC, argC, lendO, nmBy, nmC, likeL, likeB, plainOb, offs, exL, X, F, trP, trO, stepD, stepW, newA, SV.tr, SV.trL, fz, allP, Ob.tr, loadA, cellsA, SV.cells, binA, binI, eqOut, isSl, isPt, natOf, callee, snap, SV.refsL, SV.refs, thaw, fzAll, loA, hiA, elemOf, partsA, buildA, putCells, ↓reduceIte, reduceCtorEq, okCell, Nat.reduceAdd, Nat.reduceEqDiff, Nat.reduceSub, Nat.reduceMul, Nat.reduceLeDiff, Nat.reduceLT, Nat.reduceBEq, PV.scal, PV.scalL, SV.scal, SV.scalL, Ob.scal, PV.isCell, pure', resO]
    refine finA_gen [] trivial (by simp [retA, rvA, mkE_cons, mk_nil, mkO_cons, mkO_nil, loadA, SV.tr, SV.trL, nmF, rn_nil, rn_cons1, rn_cons2, plainOb, SV.refsL, SV.refs, Ob.refs, X, F, List.range_succ, mkO, setO_mk]; rfl) ?_ ?_ ?_ ?_ ?_ ?_ ?_ <;> simp [retA, rvA, mkE_cons, mk_nil, mkO_cons, mkO_nil, loadA, SV.tr, SV.trL, nmF, rn_nil, rn_cons1, rn_cons2, plainOb, SV.refsL, SV.refs, Ob.refs, X, F, List.range_succ, mkO, setO_mk]
theorem runK_count {Γ0 : Gam} {g : FuncId} (h : Γ0 g = c_count1) (x : List Int) (m : Int) (l : List Int) (a : Int) : ∀ k, k ≤ 1000 → runK Γ0 g (fK x m l) k (.int .i64 a) (.int .i64 0) = some (.int .i64 a, .int .i64 (cntI x m l a k : Int))
  | 0, _ => rfl
  | k + 1, hk => by
    have hle := cntI_le x m l a k
    have h0 : (0 : Int) ≤ (cntI x m l a k : Int) ∧ (cntI x m l a k : Int) ≤ 1000000 := by omega
    simp only [runK, runK_count h x m l a k (by omega), h, fK]
    by_cases h1 : a ≤ (leftN x m l k : Int)
    · simp only [c_count1, h0, h1, cntI_yes h1, and_self, if_true, Int.natCast_add, Int.natCast_one]
    · simp only [c_count1, h0, h1, cntI_no h1, and_self, if_true, if_false]
def a_count (f_count1 : FuncId) (f_lists : FuncId) : AFn := ⟨3, 
  .seq (.reg [⟨some 3, none, .w (.box 2 (.t 0))⟩,
    ⟨some 5, none, .w (.box 1 (.t 2))⟩,
    ⟨some 6, none, .d (.mv (.c (.int .i64 0)))⟩])
  (.seq (.reg [⟨some 7, none, .w (.alloc [.int .i64 0])⟩,
    ⟨none, none, .w (.store 1 (.t 7) (.c (.int .i64 0)))⟩])
  (.seq (.reg [⟨some 8, none, .d (.load true 2 (.t 3))⟩,
    ⟨some 9, none, .d (.mv (.t 1))⟩,
    ⟨some 10, none, .d (.mkfn f_count1 [] [(.t 5), (.t 7)])⟩,
    ⟨some 11, none, .w (.callL (.f f_lists) [(.t 8), (.t 9), (.t 10)] [5, 7] 0 false)⟩])
  (.seq (.reg [⟨some 12, none, .d (.load false 1 (.t 7))⟩,
    ⟨some 6, none, .d (.mv (.t 12))⟩])
  (.ret)))), [.tmp 6]⟩
def n_count : Nat → Option Ann := fun d => if d = 11 then some ⟨[5, 7], 0, false⟩ else none
abbrev k_count : List Nat := [0, 1, 2, 3, 5, 6, 7]
abbrev o_count : List Nat := [3, 5, 7]
def a_l8Count (f_l8Left : FuncId) : AFn := ⟨3, 
  .seq (.reg [⟨some 3, none, .w (.box 2 (.t 0))⟩,
    ⟨some 6, none, .d (.mv (.c (.int .i64 0)))⟩])
  (.seq (.reg [⟨some 7, none, .d (.mv (.c (.int .i64 0)))⟩])
  (.seq (.seq (.reg [⟨some 8, none, .d (.mv (.c (.int .i64 0)))⟩])
  (.block 0 (.loop (.seq (.seq (.reg [⟨some 9, none, .d (.mv (.t 8))⟩,
      ⟨some 10, none, .d (.mv (.t 1))⟩,
      ⟨some 11, none, .d (.len (.t 10))⟩,
      ⟨some 12, none, .d (.bin .arith .shl (.c (.int .i64 1)) (.t 11))⟩,
      ⟨some 13, none, .d (.bin .arith .lss (.t 9) (.t 12))⟩])
    (.cond (.t 13) (.skip) (.exit 0)))
    (.seq (.block 1 (.seq (.reg [⟨some 16, none, .d (.load true 2 (.t 3))⟩,
       ⟨some 17, none, .d (.mv (.t 1))⟩,
       ⟨some 18, none, .d (.mv (.t 8))⟩,
       ⟨some 19, none, .d (.call (.f f_l8Left) [(.t 16), (.t 17), (.t 18)])⟩,
       ⟨some 20, none, .d (.mv (.t 2))⟩,
       ⟨some 21, none, .d (.bin .arith .geq (.t 19) (.t 20))⟩])
     (.cond (.t 21) (.reg [⟨some 22, none, .d (.mv (.t 7))⟩,
        ⟨some 23, none, .d (.bin .arith .add (.t 22) (.c (.int .i64 1)))⟩,
        ⟨some 7, none, .d (.mv (.t 23))⟩]) (.skip))))
    (.reg [⟨some 14, none, .d (.mv (.t 8))⟩,
      ⟨some 15, none, .d (.bin .arith .add (.t 14) (.c (.int .i64 1)))⟩,
      ⟨some 8, none, .d (.mv (.t 15))⟩]))))))
  (.seq (.reg [⟨some 24, none, .d (.mv (.t 7))⟩,
    ⟨some 6, none, .d (.mv (.t 24))⟩])
  (.ret)))), [.tmp 6]⟩
def n_l8Count : Nat → Option Ann := fun _ => none
abbrev k_l8Count : List Nat := [0, 1, 2, 3, 6, 7, 8, 13, 21]
abbrev o_l8Count : List Nat := [3]
def c_count : Con := pure' fun
  | [.p (.agg [.sl 1 x_, .int .i64 m]), .p (.sl 1 l_), .p (.int .i64 a)] => if isI x_ = true ∧ isI l_ = true ∧ ((ofI x_).length ≤ 1100000 ∧ (ofI l_).length ≤ 8 ∧ m ≤ 1000 ∧ allSm m (ofI x_) = true) then some (.p (.int .i64 (cntN (ofI x_) m (ofI l_) a : Int)), []) else none
  | _ => none
theorem s_count {P : Program} (hm : P.follows .mixedOrders = true) {Γ : Gam} (hΓ : GS P Γ) {n : FuncId} {f_count1 : FuncId} {f_lists : FuncId} (is : Is P n (a_count f_count1 f_lists)) {Γ0 : Gam} (h_lists : Γ f_lists = c_lists Γ0) (h_count1 : Γ0 f_count1 = c_count1) : Says P n c_count := by
  refine Says.pure fun args r fs h => ?_
  split at h
  case h_2 => cases h
  rename_i x_ m l_ a
  split at h
  case isFalse => cases h
  rename_i hc
  obtain ⟨hx_, hc⟩ := hc
  obtain ⟨x, rfl⟩ := isI_out hx_
  obtain ⟨hl_, hc⟩ := hc
  obtain ⟨l, rfl⟩ := isI_out hl_
  simp only [ofI_ints, ofBo_bools, ofAs_asks, Option.some.injEq, Prod.mk.injEq] at h hc
  obtain ⟨rfl, rfl⟩ := h
  obtain ⟨h0, h1, h2, h3⟩ := hc
  have hp8 := pow8 h1
  have hrun := runK_count h_count1 x m l a (2 ^ l.length) (by omega)
  refine is.go hm hΓ k_count o_count (by simp [a_count]) ?_
  simp only [a_count, h_lists, c_lists, h0, h1, h2, h3, ints_len, ofI_ints, isI_ints, hrun, List.zipIdx_cons, List.zipIdx_nil, ↓SP, SQ, Gam.add, stepM, callC, argC, lendO, nmBy, nmC, likeL, likeB, plainOb, offs, exL, X, F, trP, trO, stepD, stepW, newA, SV.tr, SV.trL, fz, allP, Ob.tr, loadA, cellsA, SV.cells, binA, binI, eqOut, isSl, isPt, natOf, callee, snap, SV.refsL, SV.refs, thaw, fzAll, loA, hiA, elemOf, partsA, buildA, putCells, ↓reduceIte, reduceCtorEq, okCell, Nat.reduceAdd, Nat.reduceEqDiff, Nat.reduceSub, Nat.reduceMul, Nat.reduceLeDiff, Nat.reduceLT, Nat.reduceBEq, PV.scal, PV.scalL, SV.scal, SV.scalL, Ob.scal, PV.isCell, pure', resO]
  exact finA_val (by simp [cntN, retA, rvA, mkE_cons, mk_nil, mkO_cons, mkO_nil, loadA, SV.tr, SV.trL, nmF, rn_nil, rn_cons1, rn_cons2, plainOb, SV.refsL, SV.refs, Ob.refs, X, F, List.range_succ, mkO, setO_mk]) (by simp [SV.tr, SV.trL])
theorem s_l8Count {P : Program} (hm : P.follows .mixedOrders = true) {Γ : Gam} (hΓ : GS P Γ) {n : FuncId} {f_l8Left : FuncId} (is : Is P n (a_l8Count f_l8Left)) (h_l8Left : Γ f_l8Left = c_l8Left)  : Says P n c_count := by
  refine Says.pure fun args r fs h => ?_
  split at h
  case h_2 => cases h
  rename_i x_ m l_ a
  split at h
  case isFalse => cases h
  rename_i hc
  obtain ⟨hx_, hc⟩ := hc
  obtain ⟨x, rfl⟩ := isI_out hx_
  obtain ⟨hl_, hc⟩ := hc
  obtain ⟨l, rfl⟩ := isI_out hl_
  simp only [ofI_ints, ofBo_bools, ofAs_asks, Option.some.injEq, Prod.mk.injEq] at h hc
  obtain ⟨rfl, rfl⟩ := h
  obtain ⟨h0, h1, h2, h3⟩ := hc
  have hp8 := pow8 h1
  have hsh := shl8 h1
  have hn0 : ¬ (l.length : Int) < 0 := by omega
  refine is.go hm hΓ k_l8Count o_l8Count (by simp [a_l8Count]) ?_
  simp only [a_l8Count, h_l8Left, c_l8Left, List.zipIdx_cons, List.zipIdx_nil, ↓SP, SQ, Gam.add, stepM, callC, argC, lendO, nmBy, nmC, likeL, likeB, plainOb, offs, exL, X, F, trP, trO, stepD, stepW, newA, SV.tr, SV.trL, fz, allP, Ob.tr, loadA, cellsA, SV.cells, binA, binI, eqOut, isSl, isPt, natOf, callee, snap, SV.refsL, SV.refs, thaw, fzAll, loA, hiA, elemOf, partsA, buildA, putCells, ↓reduceIte, reduceCtorEq, okCell, Nat.reduceAdd, Nat.reduceEqDiff, Nat.reduceSub, Nat.reduceMul, Nat.reduceLeDiff, Nat.reduceLT, Nat.reduceBEq, PV.scal, PV.scalL, SV.scal, SV.scalL, Ob.scal, PV.isCell, pure', resO]
  refine loop_at (fun s : Nat × SV × SV => mkEnv [(0, .p (.agg [.sl 1 (ints x), .int .i64 m])), (1, .p (.sl 1 (ints l))), (2, si a), (3, .bx 3 0), (6, si 0), (7, si (cntI x m l a s.1)), (8, si s.1), (13, s.2.1), (21, s.2.2)]) (fun s => mkO [(3, some (.box [.p (.sl 1 (ints x)), si m]))]) (fun s => s.1 ≤ 2 ^ l.length) (fun s => 2 ^ l.length - s.1) (0, .junk, .junk) (by simp) rfl rfl ?_
  rintro ⟨v, c1, c2⟩ hi R hR hN
  simp only at hi
  by_cases h : v < 2 ^ l.length
  · have h1' : (v : Int) < ((2 ^ l.length : Nat) : Int) := Int.ofNat_lt.2 h
    have hw := wrap_one (i := v) (by omega)
    have hle := cntI_le x m l a v
    have hwc := wrap_one (i := cntI x m l a v) (by omega)
    by_cases ha : a ≤ (leftN x m l v : Int)
    · have ha' : (leftN x m l v : Int) ≥ a := ha
      simp only [hsh, hn0, h0, h1, h2, h3, h1', hw, hwc, ha, ha', ← cntI_yes ha, h_l8Left, c_l8Left, ↓SP, SQ, Gam.add, stepM, callC, argC, lendO, nmBy, nmC, likeL, likeB, plainOb, offs, exL, X, F, trP, trO, stepD, stepW, newA, SV.tr, SV.trL, fz, allP, Ob.tr, loadA, cellsA, SV.cells, binA, binI, eqOut, isSl, isPt, natOf, callee, snap, SV.refsL, SV.refs, thaw, fzAll, loA, hiA, elemOf, partsA, buildA, putCells, ↓reduceIte, reduceCtorEq, okCell, Nat.reduceAdd, Nat.reduceEqDiff, Nat.reduceSub, Nat.reduceMul, Nat.reduceLeDiff, Nat.reduceLT, Nat.reduceBEq, PV.scal, PV.scalL, SV.scal, SV.scalL, Ob.scal, PV.isCell, pure', resO]
      exact hN (v + 1, _, _) _ _ (by simp only; omega) (by simp only; omega) rfl rfl
    · have ha' : ¬ (leftN x m l v : Int) ≥ a := ha
      simp only [hsh, hn0, h0, h1, h2, h3, h1', hw, ha, ha', h_l8Left, c_l8Left, ↓SP, SQ, Gam.add, stepM, callC, argC, lendO, nmBy, nmC, likeL, likeB, plainOb, offs, exL, X, F, trP, trO, stepD, stepW, newA, SV.tr, SV.trL, fz, allP, Ob.tr, loadA, cellsA, SV.cells, binA, binI, eqOut, isSl, isPt, natOf, callee, snap, SV.refsL, SV.refs, thaw, fzAll, loA, hiA, elemOf, partsA, buildA, putCells, ↓reduceIte, reduceCtorEq, okCell, Nat.reduceAdd, Nat.reduceEqDiff, Nat.reduceSub, Nat.reduceMul, Nat.reduceLeDiff, Nat.reduceLT, Nat.reduceBEq, PV.scal, PV.scalL, SV.scal, SV.scalL, Ob.scal, PV.isCell, pure', resO]
      exact hN (v + 1, _, _) _ _ (by simp only; omega) (by simp only; omega) (by rw [cntI_no ha]) rfl
  · have he : v = 2 ^ l.length := by omega
    have h1' : ¬ (v : Int) < ((2 ^ l.length : Nat) : Int) := by omega
    simp only [hsh, hn0, h1', ↓SP, SQ, Gam.add, stepM, callC, argC, lendO, nmBy, nmC, likeL, likeB, plainOb, offs, exL, X, F, trP, trO, stepD, stepW, newA, SV.tr, SV.trL, fz, allP, Ob.tr, loadA, cellsA, SV.cells, binA, binI, eqOut, isSl, isPt, natOf, callee, snap, SV.refsL, SV.refs, thaw, fzAll, loA, hiA, elemOf, partsA, buildA, putCells, ↓reduceIte, reduceCtorEq, okCell, Nat.reduceAdd, Nat.reduceEqDiff, Nat.reduceSub, Nat.reduceMul, Nat.reduceLeDiff, Nat.reduceLT, Nat.reduceBEq, PV.scal, PV.scalL, SV.scal, SV.scalL, Ob.scal, PV.isCell, pure', resO]
    refine hR _ _ _ (by intro h; cases h) ?_
    simp only [↓SP, SQ, Gam.add, stepM, callC, argC, lendO, nmBy, nmC, likeL, likeB, plainOb, offs, exL, X, F, trP, trO, stepD, stepW, newA, SV.tr, SV.trL, fz, allP, Ob.tr, loadA, cellsA, SV.cells, binA, binI, eqOut, isSl, isPt, natOf, callee, snap, SV.refsL, SV.refs, thaw, fzAll, loA, hiA, elemOf, partsA, buildA, putCells, ↓reduceIte, reduceCtorEq, okCell, Nat.reduceAdd, Nat.reduceEqDiff, Nat.reduceSub, Nat.reduceMul, Nat.reduceLeDiff, Nat.reduceLT, Nat.reduceBEq, PV.scal, PV.scalL, SV.scal, SV.scalL, Ob.scal, PV.isCell, pure', resO]
    subst he
    exact finA_val (by simp [cntN, retA, rvA, mkE_cons, mk_nil, mkO_cons, mkO_nil, loadA, SV.tr, SV.trL, nmF, rn_nil, rn_cons1, rn_cons2, plainOb, SV.refsL, SV.refs, Ob.refs, X, F, List.range_succ, mkO, setO_mk]) (by simp [SV.tr, SV.trL])
def a_l8Tell (f_l8Count : FuncId) : AFn := ⟨2, 
  .seq (.reg [⟨some 2, none, .w (.box 2 (.t 0))⟩,
    ⟨some 4, none, .d (.mv (.c (.bool false)))⟩])
  (.seq (.reg [⟨some 5, none, .d (.load true 2 (.t 2))⟩,
    ⟨some 6, none, .d (.mv (.t 1))⟩,
    ⟨some 7, none, .d (.call (.f f_l8Count) [(.t 5), (.t 6), (.c (.int .i64 2))])⟩,
    ⟨some 8, none, .d (.bin .arith .eql (.t 7) (.c (.int .i64 0)))⟩,
    ⟨some 4, none, .d (.mv (.t 8))⟩])
  (.ret)), [.tmp 4]⟩
def n_l8Tell : Nat → Option Ann := fun _ => none
abbrev k_l8Tell : List Nat := [0, 1, 2, 4]
abbrev o_l8Tell : List Nat := [2]
def c_l8Tell : Con := pure' fun
  | [.p (.agg [.sl 1 x_, .int .i64 m]), .p (.sl 1 l_)] => if isI x_ = true ∧ isI l_ = true ∧ ((ofI x_).length ≤ 1100000 ∧ (ofI l_).length ≤ 8 ∧ m ≤ 1000 ∧ allSm m (ofI x_) = true) then some (.p (.bool ((cntN (ofI x_) m (ofI l_) 2 : Int) == 0)), []) else none
  | _ => none
theorem s_l8Tell {P : Program} (hm : P.follows .mixedOrders = true) {Γ : Gam} (hΓ : GS P Γ) {n : FuncId} {f_l8Count : FuncId} (is : Is P n (a_l8Tell f_l8Count)) (h_l8Count : Γ f_l8Count = c_count)  : Says P n c_l8Tell := by
  refine Says.pure fun args r fs h => ?_
  split at h
  case h_2 => cases h
  rename_i x_ m l_
  split at h
  case isFalse => cases h
  rename_i hc
  obtain ⟨hx_, hc⟩ := hc
  obtain ⟨x, rfl⟩ := isI_out hx_
  obtain ⟨hl_, hc⟩ := hc
  obtain ⟨l, rfl⟩ := isI_out hl_
  simp only [ofI_ints, ofBo_bools, ofAs_asks, Option.some.injEq, Prod.mk.injEq] at h hc
  obtain ⟨rfl, rfl⟩ := h
  refine is.go hm hΓ k_l8Tell o_l8Tell (by simp [a_l8Tell]) ?_
  simp only [a_l8Tell, h_l8Count, c_count, hc, List.zipIdx_cons, List.zipIdx_nil, ↓SP, SQ, Gam.add, stepM, callC, argC, lendO, nmBy, nmC, likeL, likeB, plainOb, offs, exL, X, F, trP, trO, stepD, stepW, newA, SV.tr, SV.trL, fz, allP, Ob.tr, loadA, cellsA, SV.cells, binA, binI, eqOut, isSl, isPt, natOf, callee, snap, SV.refsL, SV.refs, thaw, fzAll, loA, hiA, elemOf, partsA, buildA, putCells, ↓reduceIte, reduceCtorEq, okCell, Nat.reduceAdd, Nat.reduceEqDiff, Nat.reduceSub, Nat.reduceMul, Nat.reduceLeDiff, Nat.reduceLT, Nat.reduceBEq, PV.scal, PV.scalL, SV.scal, SV.scalL, Ob.scal, PV.isCell, pure', resO]
  exact finA_val (by simp [retA, rvA, mkE_cons, mk_nil, mkO_cons, mkO_nil, loadA, SV.tr, SV.trL, nmF, rn_nil, rn_cons1, rn_cons2, plainOb, SV.refsL, SV.refs, Ob.refs, X, F, List.range_succ, mkO, setO_mk]) (by simp [SV.tr, SV.trL])
theorem isL_fit {x : List Int} {m : Int} {l : List Int} (h : isL x m l = true) : l.length ≤ 8 ∧ m ≤ 1000 ∧ allSm m x = true := by
  obtain ⟨h1, h2⟩ := isL_st h
  have hs := allSm_eq.2 (isSt_small2 h1)
  have hm2 : m ≤ 1000 := by
    simp only [isSt, Bool.and_eq_true, decide_eq_true_eq] at h1; omega
  exact ⟨h2, hm2, hs⟩
def a_DoTell (f_areListed : FuncId) (f_count : FuncId) : AFn := ⟨2, 
  .seq (.reg [⟨some 2, none, .w (.box 2 (.t 0))⟩,
    ⟨some 4, none, .d (.mv (.c (.bool false)))⟩,
    ⟨some 5, none, .d (.mv (.c (.bool false)))⟩])
  (.seq (.seq (.reg [⟨some 6, none, .d (.load true 2 (.t 2))⟩,
    ⟨some 7, none, .d (.mv (.t 1))⟩,
    ⟨some 8, none, .d (.call (.f f_areListed) [(.t 6), (.t 7)])⟩,
    ⟨some 9, none, .d (.not (.t 8))⟩])
  (.cond (.t 9) (.seq (.reg [⟨some 4, none, .d (.mv (.c (.bool false)))⟩,
     ⟨some 5, none, .d (.mv (.c (.bool false)))⟩])
   (.ret)) (.skip)))
  (.seq (.reg [⟨some 10, none, .d (.load true 2 (.t 2))⟩,
    ⟨some 11, none, .d (.mv (.t 1))⟩,
    ⟨some 12, none, .d (.call (.f f_count) [(.t 10), (.t 11), (.c (.int .i64 2))])⟩,
    ⟨some 13, none, .d (.bin .arith .eql (.t 12) (.c (.int .i64 0)))⟩,
    ⟨some 4, none, .d (.mv (.t 13))⟩,
    ⟨some 5, none, .d (.mv (.c (.bool true)))⟩])
  (.ret))), [.tmp 4, .tmp 5]⟩
def n_DoTell : Nat → Option Ann := fun _ => none
abbrev k_DoTell : List Nat := [0, 1, 2, 4, 5, 9]
abbrev o_DoTell : List Nat := [2]
def c_DoTell : Con := pure' fun
  | [.p (.agg [.sl 1 x_, .int .i64 m]), .p (.sl 1 l_)] => if isI x_ = true ∧ isI l_ = true ∧ ((ofI x_).length ≤ 1100000 ∧ (ofI l_).length ≤ 1100000) then some (.tp [.p (.bool (isL (ofI x_) m (ofI l_) && ((cntN (ofI x_) m (ofI l_) 2 : Int) == 0))), .p (.bool (isL (ofI x_) m (ofI l_)))], []) else none
  | _ => none
theorem s_DoTell {P : Program} (hm : P.follows .mixedOrders = true) {Γ : Gam} (hΓ : GS P Γ) {n : FuncId} {f_areListed : FuncId} {f_count : FuncId} (is : Is P n (a_DoTell f_areListed f_count)) (h_areListed : Γ f_areListed = c_areListed) (h_count : Γ f_count = c_count)  : Says P n c_DoTell := by
  refine Says.pure fun args r fs h => ?_
  split at h
  case h_2 => cases h
  rename_i x_ m l_
  split at h
  case isFalse => cases h
  rename_i hc
  obtain ⟨hx_, hc⟩ := hc
  obtain ⟨x, rfl⟩ := isI_out hx_
  obtain ⟨hl_, hc⟩ := hc
  obtain ⟨l, rfl⟩ := isI_out hl_
  simp only [ofI_ints, ofBo_bools, ofAs_asks, Option.some.injEq, Prod.mk.injEq] at h hc
  obtain ⟨rfl, rfl⟩ := h
  cases hL : isL x m l with
  | false =>
    refine is.go hm hΓ k_DoTell o_DoTell (by simp [a_DoTell]) ?_
    simp only [a_DoTell, h_areListed, c_areListed, h_count, c_count, hc, hL, Bool.false_eq_true, Bool.false_and, List.zipIdx_cons, List.zipIdx_nil, ↓SP, SQ, Gam.add, stepM, callC, argC, lendO, nmBy, nmC, likeL, likeB, plainOb, offs, exL, X, F, trP, trO, stepD, stepW, newA, SV.tr, SV.trL, fz, allP, Ob.tr, loadA, cellsA, SV.cells, binA, binI, eqOut, isSl, isPt, natOf, callee, snap, SV.refsL, SV.refs, thaw, fzAll, loA, hiA, elemOf, partsA, buildA, putCells, ↓reduceIte, reduceCtorEq, okCell, Nat.reduceAdd, Nat.reduceEqDiff, Nat.reduceSub, Nat.reduceMul, Nat.reduceLeDiff, Nat.reduceLT, Nat.reduceBEq, PV.scal, PV.scalL, SV.scal, SV.scalL, Ob.scal, PV.isCell, pure', resO]
    exact finA_val (by simp [retA, rvA, mkE_cons, mk_nil, mkO_cons, mkO_nil, loadA, SV.tr, SV.trL, nmF, rn_nil, rn_cons1, rn_cons2, plainOb, SV.refsL, SV.refs, Ob.refs, X, F, List.range_succ, mkO, setO_mk]) (by simp [SV.tr, SV.trL])
  | true =>
    obtain ⟨h1, h2, h3⟩ := isL_fit hL
    refine is.go hm hΓ k_DoTell o_DoTell (by simp [a_DoTell]) ?_
    simp only [a_DoTell, h_areListed, c_areListed, h_count, c_count, hc, hL, h1, h2, h3, Bool.true_and, List.zipIdx_cons, List.zipIdx_nil, ↓SP, SQ, Gam.add, stepM, callC, argC, lendO, nmBy, nmC, likeL, likeB, plainOb, offs, exL, X, F, trP, trO, stepD, stepW, newA, SV.tr, SV.trL, fz, allP, Ob.tr, loadA, cellsA, SV.cells, binA, binI, eqOut, isSl, isPt, natOf, callee, snap, SV.refsL, SV.refs, thaw, fzAll, loA, hiA, elemOf, partsA, buildA, putCells, ↓reduceIte, reduceCtorEq, okCell, Nat.reduceAdd, Nat.reduceEqDiff, Nat.reduceSub, Nat.reduceMul, Nat.reduceLeDiff, Nat.reduceLT, Nat.reduceBEq, PV.scal, PV.scalL, SV.scal, SV.scalL, Ob.scal, PV.isCell, pure', resO]
    exact finA_val (by simp [retA, rvA, mkE_cons, mk_nil, mkO_cons, mkO_nil, loadA, SV.tr, SV.trL, nmF, rn_nil, rn_cons1, rn_cons2, plainOb, SV.refsL, SV.refs, Ob.refs, X, F, List.range_succ, mkO, setO_mk]) (by simp [SV.tr, SV.trL])
def wo (l : List Int) (i : Nat) : List Int := l.take i ++ l.drop (i + 1)
theorem wo_len {l : List Int} {i : Nat} (h : i < l.length) : (wo l i).length = l.length - 1 := by simp [wo]; omega
theorem put_wo {l : List Int} {i : Nat} (h : i < l.length) : putPV (ints l) i (ints (l.drop (i + 1))) = ints (wo l i ++ l.drop (l.length - 1)) := by
  rw [putPV_eq _ _ _ (by simp [ints]; try omega)]
  have e : i + (ints (l.drop (i + 1))).length = l.length - 1 := by simp [ints]; omega
  rw [e]
  simp [ints, wo, List.map_take, List.map_drop]
theorem put_end {l : List Int} {i : Nat} (h : i < l.length) : putPV (ints (wo l i ++ l.drop (l.length - 1))) (l.length - 1) (List.replicate 1 (.int .i64 0)) = ints (wo l i ++ [0]) := by
  have hl := wo_len h
  have h2 : (l.drop (l.length - 1)).length = 1 := by simp; omega
  rw [putPV_eq _ _ _ (by simp [ints, hl]; try omega)]
  have e : l.length - 1 + (List.replicate 1 (PV.int .i64 0)).length = l.length := by simp; omega
  rw [e]
  have e1 : (ints (wo l i ++ l.drop (l.length - 1))).take (l.length - 1) = ints (wo l i) := by
    rw [ints, ← List.map_take, ← hl, List.take_left]; rfl
  have e2 : (ints (wo l i ++ l.drop (l.length - 1))).drop l.length = [] := List.drop_eq_nil_of_le (by simp [ints, hl, h2]; try omega)
  rw [e1, e2]
  simp [ints]
theorem ints_cell1 (l : List Int) : (ints l).all PV.isCell = true := by simp [ints, PV.isCell]
def a_Delete : AFn := ⟨3, 
  .seq (.reg [⟨some 6, none, .d (.mv (.c (.nilsl)))⟩])
  (.seq (.reg [⟨some 8, none, .d (.mv (.t 0))⟩,
    ⟨some 9, none, .d (.mv (.t 1))⟩,
    ⟨some 10, none, .d (.mv (.t 2))⟩,
    ⟨some 11, none, .d (.mv (.t 0))⟩,
    ⟨some 12, none, .d (.len (.t 11))⟩,
    ⟨some 13, none, .d (.slc3 (.t 8) (.t 9) (.t 10) (.t 12))⟩])
  (.seq (.seq (.reg [⟨some 14, none, .d (.mv (.t 1))⟩,
    ⟨some 15, none, .d (.mv (.t 2))⟩,
    ⟨some 16, none, .d (.bin .arith .eql (.t 14) (.t 15))⟩])
  (.cond (.t 16) (.seq (.reg [⟨some 17, none, .d (.mv (.t 0))⟩,
     ⟨some 6, none, .d (.mv (.t 17))⟩])
   (.ret)) (.skip)))
  (.seq (.reg [⟨some 18, none, .d (.mv (.t 0))⟩,
    ⟨some 19, none, .d (.len (.t 18))⟩,
    ⟨some 7, none, .d (.mv (.t 19))⟩])
  (.seq (.dreg [] [([], ⟨some 20, none, .d (.mv (.t 0))⟩),
    ([], ⟨some 21, none, .d (.mv (.t 1))⟩),
    ([], ⟨some 22, none, .d (.slc 1 (.t 20) none (some (.t 21)))⟩),
    ([], ⟨some 23, none, .d (.mv (.t 0))⟩),
    ([], ⟨some 24, none, .d (.mv (.t 2))⟩),
    ([], ⟨some 25, none, .d (.slc 1 (.t 23) (some (.t 24)) none)⟩)] [⟨some 26, none, .w (.append 1 (.t 22) (.t 25))⟩,
    ⟨some 0, none, .d (.mv (.t 26))⟩])
  (.seq (.reg [⟨some 27, none, .d (.mv (.t 0))⟩,
    ⟨some 28, none, .d (.mv (.t 0))⟩,
    ⟨some 29, none, .d (.len (.t 28))⟩,
    ⟨some 30, none, .d (.mv (.t 7))⟩,
    ⟨some 31, none, .d (.slc 1 (.t 27) (some (.t 29)) (some (.t 30)))⟩,
    ⟨none, none, .w (.clear 1 (.int .i64 0) (.t 31))⟩])
  (.seq (.reg [⟨some 32, none, .d (.mv (.t 0))⟩,
    ⟨some 6, none, .d (.mv (.t 32))⟩])
  (.ret))))))), [.tmp 6]⟩
def n_Delete : Nat → Option Ann := fun _ => none
abbrev k_Delete : List Nat := [0, 1, 2, 6, 7, 16]
abbrev o_Delete : List Nat := [26]
def c_Delete : Con
  | [.ar 1000000, .p (.int .i64 i), .p (.int .i64 j)], [.arr 1 x_] => if isI x_ = true ∧ 0 ≤ i ∧ j = i + 1 ∧ i < (ofI x_).length ∧ (ofI x_).length ≤ 1100000 then some (.sub 1000000 0 ((ofI x_).length - 1), [.arr 1 (ints (wo (ofI x_) i.toNat ++ [0]))], []) else none
  | _, _ => none
theorem s_Delete {P : Program} (hm : P.follows .mixedOrders = true) {Γ : Gam} (hΓ : GS P Γ) {n : FuncId} (is : Is P n a_Delete)  : Says P n c_Delete := by
  intro args ext r ext' fs h
  unfold c_Delete at h
  split at h
  case h_2 => cases h
  rename_i i j x_
  split at h
  case isFalse => cases h
  rename_i hc
  obtain ⟨hx_, hi0, rfl, hlt, hlen⟩ := hc
  obtain ⟨l, rfl⟩ := isI_out hx_
  obtain ⟨i, rfl⟩ : ∃ n : Nat, i = n := ⟨i.toNat, by omega⟩
  simp only [ofI_ints, Option.some.injEq, Prod.mk.injEq, Int.toNat_natCast] at h hlt hlen
  obtain ⟨rfl, rfl, rfl⟩ := h
  have hlt' : i < l.length := by omega
  have q0 : i ≤ l.length := by omega
  have q1 : i + 1 ≤ l.length := by omega
  have q2 : i ≤ i + 1 := by omega
  have e1 : ((i : Int) == i + 1) = false := beq_eq_false_iff_ne.2 (by omega)
  have t1 : ((i : Int) + 1).toNat = i + 1 := by omega
  have n1 : ¬ (i : Int) + 1 < 0 := by omega
  have n0 : ¬ (i : Int) < 0 := by omega
  have ed : ((ints l).drop (i + 1)).take (l.length - (i + 1)) = ints (l.drop (i + 1)) := by
    rw [List.take_of_length_le (by simp [ints])]; simp [ints, List.map_drop]
  have hdl : (l.drop (i + 1)).length = l.length - (i + 1) := by simp
  have hcl := ints_cell1 (l.drop (i + 1))
  have p1 : (0 : Int) ≤ (i : Int) + 1 := by omega
  have q3 : i + (l.length - (i + 1)) = l.length - 1 := by omega
  have q4 : l.length - 1 ≤ l.length := by omega
  have q5 : 0 < l.length := by omega
  have hpw := put_wo hlt'
  have hpe := put_end hlt'
  have hwl : (wo l i ++ l.drop (l.length - 1)).length = l.length := by simp [wo_len hlt']; try omega
  have q6 : ¬ l.length ≤ l.length - 1 := by omega
  have q7 : l.length - (l.length - 1) = 1 := by omega
  refine is.goX hm hΓ k_Delete (1000000 :: o_Delete) (by simp [a_Delete]) (by simp) ?_
  simp only [a_Delete, hcl, p1, e1, t1, n0, n1, q0, q1, q2, q3, q4, q5, q6, q7, ed, hdl, hpw, hpe, hwl, ints_len, ints_cell, List.zipIdx_cons, List.zipIdx_nil, Int.toNat_natCast, Nat.sub_zero, Nat.zero_add, Nat.le_refl, and_self, ↓SP, SQ, Gam.add, stepM, callC, argC, lendO, nmBy, nmC, likeL, likeB, plainOb, offs, exL, X, F, trP, trO, stepD, stepW, newA, SV.tr, SV.trL, fz, allP, Ob.tr, loadA, cellsA, SV.cells, binA, binI, eqOut, isSl, isPt, natOf, callee, snap, SV.refsL, SV.refs, thaw, fzAll, loA, hiA, elemOf, partsA, buildA, putCells, ↓reduceIte, reduceCtorEq, okCell, Nat.reduceAdd, Nat.reduceEqDiff, Nat.reduceSub, Nat.reduceMul, Nat.reduceLeDiff, Nat.reduceLT, Nat.reduceBEq, PV.scal, PV.scalL, SV.scal, SV.scalL, Ob.scal, PV.isCell, pure', resO]
  refine finA_gen [] trivial (by simp [retA, rvA, mkE_cons, mk_nil, mkO_cons, mkO_nil, loadA, SV.tr, SV.trL, nmF, rn_nil, rn_cons1, rn_cons2, plainOb, SV.refsL, SV.refs, Ob.refs, X, F, List.range_succ, mkO, setO_mk]; rfl) ?_ ?_ ?_ ?_ ?_ ?_ ?_ <;> simp [retA, rvA, mkE_cons, mk_nil, mkO_cons, mkO_nil, loadA, SV.tr, SV.trL, nmF, rn_nil, rn_cons1, rn_cons2, plainOb, SV.refsL, SV.refs, Ob.refs, X, F, List.range_succ, mkO, setO_mk]
def a_without (f_Clone : FuncId) (f_Delete : FuncId) : AFn := ⟨2, 
  .seq (.reg [⟨some 4, none, .d (.mv (.c (.nilsl)))⟩])
  (.seq (.reg [⟨some 5, none, .d (.mv (.t 0))⟩,
    ⟨some 6, none, .w (.callL (.f f_Clone) [(.t 5)] [] 1 false)⟩,
    ⟨some 7, none, .d (.mv (.t 1))⟩,
    ⟨some 8, none, .d (.mv (.t 1))⟩,
    ⟨some 9, none, .d (.bin .arith .add (.t 8) (.c (.int .i64 1)))⟩,
    ⟨some 10, none, .w (.callL (.f f_Delete) [(.t 6), (.t 7), (.t 9)] [6] 0 false)⟩,
    ⟨some 4, none, .d (.mv (.t 10))⟩])
  (.ret)), [.tmp 4]⟩
def n_without : Nat → Option Ann := fun d => if d = 6 then some ⟨[], 1, false⟩ else if d = 10 then some ⟨[6], 0, false⟩ else none
abbrev k_without : List Nat := [0, 1, 4]
abbrev o_without : List Nat := [6]
def c_without : Con := pure' fun
  | [.p (.sl 1 l_), .p (.int .i64 i)] => if isI l_ = true ∧ (0 ≤ i ∧ i < (ofI l_).length ∧ (ofI l_).length ≤ 1100000) then some (.sub 2000000 0 ((ofI l_).length - 1), [.arr 1 (ints (wo (ofI l_) i.toNat ++ [0]))]) else none
  | _ => none
theorem s_without {P : Program} (hm : P.follows .mixedOrders = true) {Γ : Gam} (hΓ : GS P Γ) {n : FuncId} {f_Clone : FuncId} {f_Delete : FuncId} (is : Is P n (a_without f_Clone f_Delete)) (h_Clone : Γ f_Clone = c_Clone) (h_Delete : Γ f_Delete = c_Delete)  : Says P n c_without := by
  refine Says.pure fun args r fs h => ?_
  split at h
  case h_2 => cases h
  rename_i l_ i
  split at h
  case isFalse => cases h
  rename_i hc
  obtain ⟨hl_, hc⟩ := hc
  obtain ⟨l, rfl⟩ := isI_out hl_
  simp only [ofI_ints, ofBo_bools, ofAs_asks, Option.some.injEq, Prod.mk.injEq] at h hc
  obtain ⟨rfl, rfl⟩ := h
  obtain ⟨hi0, hlt, hlen⟩ := hc
  obtain ⟨i, rfl⟩ : ∃ n : Nat, i = n := ⟨i.toNat, by omega⟩
  simp only [Int.toNat_natCast]
  have hw := wrap_one (i := i) (by omega)
  have e1 : (((i + 1 : Nat)) : Int) = (i : Int) + 1 := by omega
  have hi1 : (0 : Int) ≤ i := by omega
  have hwl : (wo l i ++ [0]).length = l.length := by simp [wo_len (show i < l.length by omega)]; omega
  refine is.go hm hΓ k_without o_without (by simp [a_without]) ?_
  simp only [a_without, h_Clone, c_Clone, h_Delete, c_Delete, hlen, hlt, hw, e1, hi1, hwl, ints_len, isI_ints, ofI_ints, Int.toNat_natCast, and_self, List.zipIdx_cons, List.zipIdx_nil, ↓SP, SQ, Gam.add, stepM, callC, argC, lendO, nmBy, nmC, likeL, likeB, plainOb, offs, exL, X, F, trP, trO, stepD, stepW, newA, SV.tr, SV.trL, fz, allP, Ob.tr, loadA, cellsA, SV.cells, binA, binI, eqOut, isSl, isPt, natOf, callee, snap, SV.refsL, SV.refs, thaw, fzAll, loA, hiA, elemOf, partsA, buildA, putCells, ↓reduceIte, reduceCtorEq, okCell, Nat.reduceAdd, Nat.reduceEqDiff, Nat.reduceSub, Nat.reduceMul, Nat.reduceLeDiff, Nat.reduceLT, Nat.reduceBEq, PV.scal, PV.scalL, SV.scal, SV.scalL, Ob.scal, PV.isCell, pure', resO]
  refine finA_gen [6] trivial (by simp [retA, rvA, mkE_cons, mk_nil, mkO_cons, mkO_nil, loadA, SV.tr, SV.trL, nmF, rn_nil, rn_cons1, rn_cons2, plainOb, SV.refsL, SV.refs, Ob.refs, X, F, List.range_succ, mkO, setO_mk]; rfl) ?_ ?_ ?_ ?_ ?_ ?_ ?_ <;> simp [retA, rvA, mkE_cons, mk_nil, mkO_cons, mkO_nil, loadA, SV.tr, SV.trL, nmF, rn_nil, rn_cons1, rn_cons2, plainOb, SV.refsL, SV.refs, Ob.refs, X, F, List.range_succ, mkO, setO_mk]
/-- The questions without which the others tell, of the first i. -/
def nlN (x : List Int) (m : Int) (l : List Int) (i : Nat) : List Int := ((List.range i).filter fun j => ((cntN x m (wo l j) 2 : Int) == 0)).map fun j : Nat => (j : Int)
theorem nlN_yes {x : List Int} {m : Int} {l : List Int} {i : Nat} (h : ((cntN x m (wo l i) 2 : Int) == 0) = true) : nlN x m l i ++ [(i : Int)] = nlN x m l (i + 1) := by
  simp only [nlN, List.range_succ, List.filter_append, List.filter_cons, h, List.filter_nil, if_true, List.map_append, List.map_cons, List.map_nil]
theorem nlN_no {x : List Int} {m : Int} {l : List Int} {i : Nat} (h : ((cntN x m (wo l i) 2 : Int) == 0) = false) : nlN x m l (i + 1) = nlN x m l i := by
  simp only [nlN, List.range_succ, List.filter_append, List.filter_cons, h, List.filter_nil, Bool.false_eq_true, if_false, List.append_nil]
theorem nlN_len (x : List Int) (m : Int) (l : List Int) (i : Nat) : (nlN x m l i).length ≤ i := by
  simp only [nlN, List.length_map]
  exact Nat.le_trans (List.length_filter_le _ _) (by simp)
def nlOk (x : List Int) (m : Int) (l : List Int) : Bool := isL x m l && ((cntN x m l 2 : Int) == 0)
theorem fz_wo (l : List Int) {i : Nat} (h : i < l.length) : (ints (wo l i ++ [0])).take (l.length - 1 - 0) = ints (wo l i) := by
  rw [Nat.sub_zero, ints, ← List.map_take, ← wo_len h, List.take_left]; rfl
structure J1 where
  i : Nat
  a : SV
  b : SV
  c : SV
  o : Option Ob
  p : Option Ob
def a_NeedlessQuestions (f_DoTell : FuncId) (f_without : FuncId) (f_count : FuncId) : AFn := ⟨2, 
  .seq (.reg [⟨some 2, none, .w (.box 2 (.t 0))⟩,
    ⟨some 4, none, .d (.mv (.c (.nilsl)))⟩,
    ⟨some 5, none, .d (.mv (.c (.bool false)))⟩])
  (.seq (.seq (.reg [⟨some 11, none, .d (.load true 2 (.t 2))⟩,
    ⟨some 12, none, .d (.mv (.t 1))⟩,
    ⟨some 13, none, .d (.call (.f f_DoTell) [(.t 11), (.t 12)])⟩,
    ⟨some 10, none, .d (.mv (.t 13))⟩,
    ⟨some 14, none, .d (.extract (.t 10) 0)⟩,
    ⟨some 15, none, .d (.extract (.t 10) 1)⟩,
    ⟨some 6, none, .d (.mv (.t 14))⟩,
    ⟨some 7, none, .d (.mv (.t 15))⟩])
  (.seq (.reg [⟨some 16, none, .d (.mv (.t 7))⟩,
    ⟨some 17, none, .d (.not (.t 16))⟩,
    ⟨some 18, none, .d (.mv (.t 17))⟩,
    ⟨some 19, some (18, false), .d (.mv (.t 6))⟩,
    ⟨some 20, some (18, false), .d (.not (.t 19))⟩,
    ⟨some 21, none, .d (.pick (.t 18) (.c (.bool true)) (.t 20))⟩])
  (.cond (.t 21) (.seq (.reg [⟨some 4, none, .d (.mv (.c (.nilsl)))⟩,
     ⟨some 5, none, .d (.mv (.c (.bool false)))⟩])
   (.ret)) (.skip))))
  (.seq (.reg [⟨some 22, none, .w (.bslice 1 [] [])⟩,
    ⟨some 8, none, .d (.mv (.t 22))⟩])
  (.seq (.seq (.reg [⟨some 23, none, .d (.mv (.t 1))⟩,
    ⟨some 24, none, .d (.len (.t 23))⟩,
    ⟨some 25, none, .d (.mv (.c (.int .i64 0)))⟩])
  (.block 0 (.loop (.seq (.reg [⟨some 26, none, .d (.bin .arith .lss (.t 25) (.t 24))⟩])
    (.seq (.cond (.t 26) (.skip) (.exit 0))
    (.seq (.block 1 (.seq (.reg [⟨some 27, none, .d (.mv (.t 25))⟩,
       ⟨some 9, none, .d (.mv (.t 27))⟩])
     (.seq (.dreg [] [([], ⟨some 28, none, .d (.load true 2 (.t 2))⟩),
       ([], ⟨some 29, none, .d (.mv (.t 1))⟩),
       ([], ⟨some 30, none, .d (.mv (.t 9))⟩),
       ([], ⟨some 31, none, .d (.call (.f f_without) [(.t 29), (.t 30)])⟩)] [⟨some 32, none, .d (.call (.f f_count) [(.t 28), (.t 31), (.c (.int .i64 2))])⟩,
       ⟨some 33, none, .d (.bin .arith .eql (.t 32) (.c (.int .i64 0)))⟩])
     (.cond (.t 33) (.reg [⟨some 34, none, .d (.mv (.t 8))⟩,
        ⟨some 35, none, .d (.mv (.t 9))⟩,
        ⟨some 36, none, .w (.bslice 1 [.int .i64 0] [(0, (.t 35))])⟩,
        ⟨some 37, none, .w (.append 1 (.t 34) (.t 36))⟩,
        ⟨some 8, none, .d (.mv (.t 37))⟩]) (.skip)))))
    (.reg [⟨some 38, none, .d (.bin .arith .add (.t 25) (.c (.int .i64 1)))⟩,
      ⟨some 25, none, .d (.mv (.t 38))⟩])))))))
  (.seq (.reg [⟨some 39, none, .d (.mv (.t 8))⟩,
    ⟨some 4, none, .d (.mv (.t 39))⟩,
    ⟨some 5, none, .d (.mv (.c (.bool true)))⟩])
  (.ret))))), [.tmp 4, .tmp 5]⟩
def n_NeedlessQuestions : Nat → Option Ann := fun _ => none
abbrev k_NeedlessQuestions : List Nat := [0, 1, 2, 4, 5, 6, 7, 8, 9, 21, 24, 25, 26, 33]
abbrev o_NeedlessQuestions : List Nat := [2, 22, 36, 37]
def a_s_NeedlessQuestions (f_l8Good : FuncId) (f_l8Tell : FuncId) (f_l1Own : FuncId) : AFn := ⟨2, 
  .seq (.reg [⟨some 2, none, .w (.box 2 (.t 0))⟩,
    ⟨some 4, none, .d (.mv (.c (.nilsl)))⟩,
    ⟨some 5, none, .d (.mv (.c (.bool false)))⟩])
  (.seq (.reg [⟨some 8, none, .w (.bslice 1 [] [])⟩,
    ⟨some 6, none, .d (.mv (.t 8))⟩])
  (.seq (.seq (.reg [⟨some 9, none, .d (.load true 2 (.t 2))⟩,
    ⟨some 10, none, .d (.mv (.t 1))⟩,
    ⟨some 11, none, .d (.call (.f f_l8Good) [(.t 9), (.t 10)])⟩,
    ⟨some 12, none, .d (.not (.t 11))⟩,
    ⟨some 13, none, .d (.mv (.t 12))⟩,
    ⟨some 14, some (13, false), .d (.load true 2 (.t 2))⟩,
    ⟨some 15, some (13, false), .d (.mv (.t 1))⟩,
    ⟨some 16, some (13, false), .d (.call (.f f_l8Tell) [(.t 14), (.t 15)])⟩,
    ⟨some 17, some (13, false), .d (.not (.t 16))⟩,
    ⟨some 18, none, .d (.pick (.t 13) (.c (.bool true)) (.t 17))⟩])
  (.cond (.t 18) (.seq (.reg [⟨some 19, none, .d (.mv (.t 6))⟩,
     ⟨some 4, none, .d (.mv (.t 19))⟩,
     ⟨some 5, none, .d (.mv (.c (.bool false)))⟩])
   (.ret)) (.skip)))
  (.seq (.seq (.reg [⟨some 7, none, .d (.mv (.c (.int .i64 0)))⟩])
  (.block 0 (.loop (.seq (.seq (.reg [⟨some 20, none, .d (.mv (.t 7))⟩,
      ⟨some 21, none, .d (.mv (.t 1))⟩,
      ⟨some 22, none, .d (.len (.t 21))⟩,
      ⟨some 23, none, .d (.bin .arith .lss (.t 20) (.t 22))⟩])
    (.cond (.t 23) (.skip) (.exit 0)))
    (.seq (.block 1 (.seq (.creg [⟨some 26, none, .d (.load true 2 (.t 2))⟩,
       ⟨some 27, none, .d (.mv (.t 1))⟩,
       ⟨some 28, none, .d (.mv (.t 7))⟩,
       ⟨some 29, none, .d (.slc 1 (.t 27) none (some (.t 28)))⟩,
       ⟨some 31, none, .d (.mv (.t 1))⟩,
       ⟨some 32, none, .d (.mv (.t 7))⟩,
       ⟨some 33, none, .d (.bin .arith .add (.t 32) (.c (.int .i64 1)))⟩,
       ⟨some 34, none, .d (.slc 1 (.t 31) (some (.t 33)) none)⟩] [(⟨some 30, none, .w (.callL (.f f_l1Own) [(.t 29)] [] 1 false)⟩, [⟨some 26, none, .d (.load true 2 (.t 2))⟩, ⟨some 31, none, .d (.mv (.t 1))⟩, ⟨some 32, none, .d (.mv (.t 7))⟩, ⟨some 33, none, .d (.bin .arith .add (.t 32) (.c (.int .i64 1)))⟩, ⟨some 34, none, .d (.slc 1 (.t 31) (some (.t 33)) none)⟩]),
       (⟨some 35, none, .w (.append 1 (.t 30) (.t 34))⟩, [⟨some 26, none, .d (.load true 2 (.t 2))⟩])] [⟨some 36, none, .d (.call (.f f_l8Tell) [(.t 26), (.t 35)])⟩])
     (.cond (.t 36) (.reg [⟨some 37, none, .d (.mv (.t 6))⟩,
        ⟨some 38, none, .d (.mv (.t 7))⟩,
        ⟨some 39, none, .w (.bslice 1 [.int .i64 0] [(0, (.t 38))])⟩,
        ⟨some 40, none, .w (.append 1 (.t 37) (.t 39))⟩,
        ⟨some 6, none, .d (.mv (.t 40))⟩]) (.skip))))
    (.reg [⟨some 24, none, .d (.mv (.t 7))⟩,
      ⟨some 25, none, .d (.bin .arith .add (.t 24) (.c (.int .i64 1)))⟩,
      ⟨some 7, none, .d (.mv (.t 25))⟩]))))))
  (.seq (.reg [⟨some 41, none, .d (.mv (.t 6))⟩,
    ⟨some 4, none, .d (.mv (.t 41))⟩,
    ⟨some 5, none, .d (.mv (.c (.bool true)))⟩])
  (.ret))))), [.tmp 4, .tmp 5]⟩
def n_s_NeedlessQuestions : Nat → Option Ann := fun d => if d = 30 then some ⟨[], 1, false⟩ else none
abbrev k_s_NeedlessQuestions : List Nat := [0, 1, 2, 4, 5, 6, 7, 18, 23, 36]
abbrev o_s_NeedlessQuestions : List Nat := [2, 8, 30, 35, 39, 40]
def c_NeedlessQuestions : Con := pure' fun
  | [.p (.agg [.sl 1 x_, .int .i64 m]), .p (.sl 1 l_)] => if isI x_ = true ∧ isI l_ = true ∧ ((ofI x_).length ≤ 1100000 ∧ (ofI l_).length ≤ 1100000) then some (if nlOk (ofI x_) m (ofI l_) = true then .tp [.ar 2000000, .p (.bool true)] else .tp [.p .nilsl, .p (.bool false)], if nlOk (ofI x_) m (ofI l_) = true then [.arr 1 (ints (nlN (ofI x_) m (ofI l_) (ofI l_).length))] else []) else none
  | _ => none
def c_s_NeedlessQuestions : Con := pure' fun
  | [.p (.agg [.sl 1 x_, .int .i64 m]), .p (.sl 1 l_)] => if isI x_ = true ∧ isI l_ = true ∧ ((ofI x_).length ≤ 1100000 ∧ (ofI l_).length ≤ 1100000) then some (.tp [.ar 2000000, .p (.bool (nlOk (ofI x_) m (ofI l_)))], [.arr 1 (ints (if nlOk (ofI x_) m (ofI l_) = true then nlN (ofI x_) m (ofI l_) (ofI l_).length else []))]) else none
  | _ => none
theorem s_NeedlessQuestions {P : Program} (hm : P.follows .mixedOrders = true) {Γ : Gam} (hΓ : GS P Γ) {n : FuncId} {f_DoTell : FuncId} {f_without : FuncId} {f_count : FuncId} (is : Is P n (a_NeedlessQuestions f_DoTell f_without f_count)) (h_DoTell : Γ f_DoTell = c_DoTell) (h_without : Γ f_without = c_without) (h_count : Γ f_count = c_count)  : Says P n c_NeedlessQuestions := by
  refine Says.pure fun args r fs h => ?_
  split at h
  case h_2 => cases h
  rename_i x_ m l_
  split at h
  case isFalse => cases h
  rename_i hc
  obtain ⟨hx_, hc⟩ := hc
  obtain ⟨x, rfl⟩ := isI_out hx_
  obtain ⟨hl_, hc⟩ := hc
  obtain ⟨l, rfl⟩ := isI_out hl_
  simp only [ofI_ints, ofBo_bools, ofAs_asks, Option.some.injEq, Prod.mk.injEq] at h hc
  obtain ⟨rfl, rfl⟩ := h
  cases hL : isL x m l with
  | false =>
    have hok0 : nlOk x m l = false := by simp only [nlOk, hL, Bool.false_and]
    refine is.go hm hΓ k_NeedlessQuestions o_NeedlessQuestions (by simp [a_NeedlessQuestions]) ?_
    simp only [a_NeedlessQuestions, h_DoTell, c_DoTell, h_without, c_without, h_count, c_count, hc, hL, hok0, Bool.false_eq_true, List.zipIdx_cons, List.zipIdx_nil, ↓SP, SQ, Gam.add, stepM, callC, argC, lendO, nmBy, nmC, likeL, likeB, plainOb, offs, exL, X, F, trP, trO, stepD, stepW, newA, SV.tr, SV.trL, fz, allP, Ob.tr, loadA, cellsA, SV.cells, binA, binI, eqOut, isSl, isPt, natOf, callee, snap, SV.refsL, SV.refs, thaw, fzAll, loA, hiA, elemOf, partsA, buildA, putCells, ↓reduceIte, reduceCtorEq, okCell, Nat.reduceAdd, Nat.reduceEqDiff, Nat.reduceSub, Nat.reduceMul, Nat.reduceLeDiff, Nat.reduceLT, Nat.reduceBEq, PV.scal, PV.scalL, SV.scal, SV.scalL, Ob.scal, PV.isCell, pure', resO]
    refine finA_gen [] trivial (by simp [retA, rvA, mkE_cons, mk_nil, mkO_cons, mkO_nil, loadA, SV.tr, SV.trL, nmF, rn_nil, rn_cons1, rn_cons2, plainOb, SV.refsL, SV.refs, Ob.refs, X, F, List.range_succ, mkO, setO_mk]; rfl) ?_ ?_ ?_ ?_ ?_ ?_ ?_ <;> simp [retA, rvA, mkE_cons, mk_nil, mkO_cons, mkO_nil, loadA, SV.tr, SV.trL, nmF, rn_nil, rn_cons1, rn_cons2, plainOb, SV.refsL, SV.refs, Ob.refs, X, F, List.range_succ, mkO, setO_mk]
  | true =>
    cases h8 : ((cntN x m l 2 : Int) == 0) with
    | false =>
      have hok0 : nlOk x m l = false := by simp only [nlOk, h8, Bool.and_false]
      refine is.go hm hΓ k_NeedlessQuestions o_NeedlessQuestions (by simp [a_NeedlessQuestions]) ?_
      simp only [a_NeedlessQuestions, h_DoTell, c_DoTell, h_without, c_without, h_count, c_count, hc, hL, hok0, h8, Bool.false_eq_true, List.zipIdx_cons, List.zipIdx_nil, ↓SP, SQ, Gam.add, stepM, callC, argC, lendO, nmBy, nmC, likeL, likeB, plainOb, offs, exL, X, F, trP, trO, stepD, stepW, newA, SV.tr, SV.trL, fz, allP, Ob.tr, loadA, cellsA, SV.cells, binA, binI, eqOut, isSl, isPt, natOf, callee, snap, SV.refsL, SV.refs, thaw, fzAll, loA, hiA, elemOf, partsA, buildA, putCells, ↓reduceIte, reduceCtorEq, okCell, Nat.reduceAdd, Nat.reduceEqDiff, Nat.reduceSub, Nat.reduceMul, Nat.reduceLeDiff, Nat.reduceLT, Nat.reduceBEq, PV.scal, PV.scalL, SV.scal, SV.scalL, Ob.scal, PV.isCell, pure', resO]
      refine finA_gen [] trivial (by simp [retA, rvA, mkE_cons, mk_nil, mkO_cons, mkO_nil, loadA, SV.tr, SV.trL, nmF, rn_nil, rn_cons1, rn_cons2, plainOb, SV.refsL, SV.refs, Ob.refs, X, F, List.range_succ, mkO, setO_mk]; rfl) ?_ ?_ ?_ ?_ ?_ ?_ ?_ <;> simp [retA, rvA, mkE_cons, mk_nil, mkO_cons, mkO_nil, loadA, SV.tr, SV.trL, nmF, rn_nil, rn_cons1, rn_cons2, plainOb, SV.refsL, SV.refs, Ob.refs, X, F, List.range_succ, mkO, setO_mk]
    | true =>
      have hok0 : nlOk x m l = true := by simp only [nlOk, hL, h8, Bool.and_self]
      obtain ⟨g1, g2, g3⟩ := isL_fit hL
      refine is.go hm hΓ k_NeedlessQuestions o_NeedlessQuestions (by simp [a_NeedlessQuestions]) ?_
      simp only [a_NeedlessQuestions, h_DoTell, c_DoTell, h_without, c_without, h_count, c_count, hc, hL, hok0, h8, List.zipIdx_cons, List.zipIdx_nil, ↓SP, SQ, Gam.add, stepM, callC, argC, lendO, nmBy, nmC, likeL, likeB, plainOb, offs, exL, X, F, trP, trO, stepD, stepW, newA, SV.tr, SV.trL, fz, allP, Ob.tr, loadA, cellsA, SV.cells, binA, binI, eqOut, isSl, isPt, natOf, callee, snap, SV.refsL, SV.refs, thaw, fzAll, loA, hiA, elemOf, partsA, buildA, putCells, ↓reduceIte, reduceCtorEq, okCell, Nat.reduceAdd, Nat.reduceEqDiff, Nat.reduceSub, Nat.reduceMul, Nat.reduceLeDiff, Nat.reduceLT, Nat.reduceBEq, PV.scal, PV.scalL, SV.scal, SV.scalL, Ob.scal, PV.isCell, pure', resO]
      refine loop_at (fun s : J1 => mkEnv [(0, .p (.agg [.sl 1 (ints x), .int .i64 m])), (1, .p (.sl 1 (ints l))), (2, .bx 2 0), (4, .p .nilsl), (5, sb false), (6, sb true), (7, sb true), (8, .ar 22), (9, s.a), (21, sb false), (24, si l.length), (25, si s.i), (26, s.b), (33, s.c)]) (fun s => mkO [(2, some (.box [.p (.sl 1 (ints x)), si m])), (22, some (.arr 1 (ints (nlN x m l s.i)))), (36, s.o), (37, none)]) (fun s => s.i ≤ l.length) (fun s => l.length - s.i) ⟨0, .junk, .junk, .junk, none, none⟩ (by simp) rfl rfl ?_
      rintro ⟨i, c1, c2, c3, o1, o2⟩ hi R hR hN
      simp only at hi
      by_cases h : i < l.length
      · have h1 : (i : Int) < l.length := by omega
        have hw := wrap_one (i := i) (by omega)
        have hi0 : (0 : Int) ≤ i := by omega
        have hl2 : (wo l i).length ≤ 8 := by rw [wo_len h]; omega
        have hfz := fz_wo l h
        have hr : (nlN x m l i).length + 1 ≤ roomA := by have := nlN_len x m l i; unfold roomA; omega
        cases hb : ((cntN x m (wo l i) 2 : Int) == 0) with
        | true =>
          have hy := nlN_yes hb
          simp only [h1, hw, hi0, hc, g1, g2, g3, hl2, hfz, hr, hb, hy, h_without, c_without, h_count, c_count, ints_len, ints_app1, ints_cell, isI_ints, ofI_ints, Int.toNat_natCast, and_self, ↓SP, SQ, Gam.add, stepM, callC, argC, lendO, nmBy, nmC, likeL, likeB, plainOb, offs, exL, X, F, trP, trO, stepD, stepW, newA, SV.tr, SV.trL, fz, allP, Ob.tr, loadA, cellsA, SV.cells, binA, binI, eqOut, isSl, isPt, natOf, callee, snap, SV.refsL, SV.refs, thaw, fzAll, loA, hiA, elemOf, partsA, buildA, putCells, ↓reduceIte, reduceCtorEq, okCell, Nat.reduceAdd, Nat.reduceEqDiff, Nat.reduceSub, Nat.reduceMul, Nat.reduceLeDiff, Nat.reduceLT, Nat.reduceBEq, PV.scal, PV.scalL, SV.scal, SV.scalL, Ob.scal, PV.isCell, pure', resO]
          exact hN ⟨i + 1, _, _, _, _, none⟩ _ _ (by simp only; omega) (by simp only; omega) rfl rfl
        | false =>
          have hy := nlN_no hb
          simp only [h1, hw, hi0, hc, g1, g2, g3, hl2, hfz, hb, h_without, c_without, h_count, c_count, ints_len, isI_ints, ofI_ints, Int.toNat_natCast, and_self, ↓SP, SQ, Gam.add, stepM, callC, argC, lendO, nmBy, nmC, likeL, likeB, plainOb, offs, exL, X, F, trP, trO, stepD, stepW, newA, SV.tr, SV.trL, fz, allP, Ob.tr, loadA, cellsA, SV.cells, binA, binI, eqOut, isSl, isPt, natOf, callee, snap, SV.refsL, SV.refs, thaw, fzAll, loA, hiA, elemOf, partsA, buildA, putCells, ↓reduceIte, reduceCtorEq, okCell, Nat.reduceAdd, Nat.reduceEqDiff, Nat.reduceSub, Nat.reduceMul, Nat.reduceLeDiff, Nat.reduceLT, Nat.reduceBEq, PV.scal, PV.scalL, SV.scal, SV.scalL, Ob.scal, PV.isCell, pure', resO]
          exact hN ⟨i + 1, _, _, _, _, none⟩ _ _ (by simp only; omega) (by simp only; omega) rfl (by rw [hy])
      · have he : i = l.length := by omega
        have h1 : ¬ (i : Int) < l.length := by omega
        subst he
        simp only [h1, ↓SP, SQ, Gam.add, stepM, callC, argC, lendO, nmBy, nmC, likeL, likeB, plainOb, offs, exL, X, F, trP, trO, stepD, stepW, newA, SV.tr, SV.trL, fz, allP, Ob.tr, loadA, cellsA, SV.cells, binA, binI, eqOut, isSl, isPt, natOf, callee, snap, SV.refsL, SV.refs, thaw, fzAll, loA, hiA, elemOf, partsA, buildA, putCells, ↓reduceIte, reduceCtorEq, okCell, Nat.reduceAdd, Nat.reduceEqDiff, Nat.reduceSub, Nat.reduceMul, Nat.reduceLeDiff, Nat.reduceLT, Nat.reduceBEq, PV.scal, PV.scalL, SV.scal, SV.scalL, Ob.scal, PV.isCell, pure', resO]
        refine hR _ _ _ (by intro h; cases h) ?_
        simp only [↓SP, SQ, Gam.add, stepM, callC, argC, lendO, nmBy, nmC, likeL, likeB, plainOb, offs, exL, X, F, trP, trO, stepD, stepW, newA, SV.tr, SV.trL, fz, allP, Ob.tr, loadA, cellsA, SV.cells, binA, binI, eqOut, isSl, isPt, natOf, callee, snap, SV.refsL, SV.refs, thaw, fzAll, loA, hiA, elemOf, partsA, buildA, putCells, ↓reduceIte, reduceCtorEq, okCell, Nat.reduceAdd, Nat.reduceEqDiff, Nat.reduceSub, Nat.reduceMul, Nat.reduceLeDiff, Nat.reduceLT, Nat.reduceBEq, PV.scal, PV.scalL, SV.scal, SV.scalL, Ob.scal, PV.isCell, pure', resO]
        refine finA_gen [22] trivial (by simp [retA, rvA, mkE_cons, mk_nil, mkO_cons, mkO_nil, loadA, SV.tr, SV.trL, nmF, rn_nil, rn_cons1, rn_cons2, plainOb, SV.refsL, SV.refs, Ob.refs, X, F, List.range_succ, mkO, setO_mk]; rfl) ?_ ?_ ?_ ?_ ?_ ?_ ?_ <;> simp [retA, rvA, mkE_cons, mk_nil, mkO_cons, mkO_nil, loadA, SV.tr, SV.trL, nmF, rn_nil, rn_cons1, rn_cons2, plainOb, SV.refsL, SV.refs, Ob.refs, X, F, List.range_succ, mkO, setO_mk]
theorem s_s_NeedlessQuestions {P : Program} (hm : P.follows .mixedOrders = true) {Γ : Gam} (hΓ : GS P Γ) {n : FuncId} {f_l8Good : FuncId} {f_l8Tell : FuncId} {f_l1Own : FuncId} (is : Is P n (a_s_NeedlessQuestions f_l8Good f_l8Tell f_l1Own)) (h_l8Good : Γ f_l8Good = c_areListed) (h_l8Tell : Γ f_l8Tell = c_l8Tell) (h_l1Own : Γ f_l1Own = c_Clone)  : Says P n c_s_NeedlessQuestions := by
  refine Says.pure fun args r fs h => ?_
  split at h
  case h_2 => cases h
  rename_i x_ m l_
  split at h
  case isFalse => cases h
  rename_i hc
  obtain ⟨hx_, hc⟩ := hc
  obtain ⟨x, rfl⟩ := isI_out hx_
  obtain ⟨hl_, hc⟩ := hc
  obtain ⟨l, rfl⟩ := isI_out hl_
  simp only [ofI_ints, ofBo_bools, ofAs_asks, Option.some.injEq, Prod.mk.injEq] at h hc
  obtain ⟨rfl, rfl⟩ := h
  cases hL : isL x m l with
  | false =>
    have hok0 : nlOk x m l = false := by simp only [nlOk, hL, Bool.false_and]
    refine is.go hm hΓ k_s_NeedlessQuestions o_s_NeedlessQuestions (by simp [a_s_NeedlessQuestions]) ?_
    simp only [a_s_NeedlessQuestions, h_l8Good, c_areListed, h_l8Tell, c_l8Tell, h_l1Own, c_Clone, hc, hL, hok0, Bool.false_eq_true, List.zipIdx_cons, List.zipIdx_nil, ↓SP, SQ, Gam.add, stepM, callC, argC, lendO, nmBy, nmC, likeL, likeB, plainOb, offs, exL, X, F, trP, trO, stepD, stepW, newA, SV.tr, SV.trL, fz, allP, Ob.tr, loadA, cellsA, SV.cells, binA, binI, eqOut, isSl, isPt, natOf, callee, snap, SV.refsL, SV.refs, thaw, fzAll, loA, hiA, elemOf, partsA, buildA, putCells, ↓reduceIte, reduceCtorEq, okCell, Nat.reduceAdd, Nat.reduceEqDiff, Nat.reduceSub, Nat.reduceMul, Nat.reduceLeDiff, Nat.reduceLT, Nat.reduceBEq, PV.scal, PV.scalL, SV.scal, SV.scalL, Ob.scal, PV.isCell, pure', resO]
    refine finA_gen [8] trivial (by simp [retA, rvA, mkE_cons, mk_nil, mkO_cons, mkO_nil, loadA, SV.tr, SV.trL, nmF, rn_nil, rn_cons1, rn_cons2, plainOb, SV.refsL, SV.refs, Ob.refs, X, F, List.range_succ, mkO, setO_mk]; rfl) ?_ ?_ ?_ ?_ ?_ ?_ ?_ <;> simp [ints, retA, rvA, mkE_cons, mk_nil, mkO_cons, mkO_nil, loadA, SV.tr, SV.trL, nmF, rn_nil, rn_cons1, rn_cons2, plainOb, SV.refsL, SV.refs, Ob.refs, X, F, List.range_succ, mkO, setO_mk]
  | true =>
    obtain ⟨g1, g2, g3⟩ := isL_fit hL
    cases h8 : ((cntN x m l 2 : Int) == 0) with
    | false =>
      have hok0 : nlOk x m l = false := by simp only [nlOk, h8, Bool.and_false]
      refine is.go hm hΓ k_s_NeedlessQuestions o_s_NeedlessQuestions (by simp [a_s_NeedlessQuestions]) ?_
      simp only [a_s_NeedlessQuestions, h_l8Good, c_areListed, h_l8Tell, c_l8Tell, h_l1Own, c_Clone, hc, hL, hok0, h8, g1, g2, g3, Bool.false_eq_true, List.zipIdx_cons, List.zipIdx_nil, ↓SP, SQ, Gam.add, stepM, callC, argC, lendO, nmBy, nmC, likeL, likeB, plainOb, offs, exL, X, F, trP, trO, stepD, stepW, newA, SV.tr, SV.trL, fz, allP, Ob.tr, loadA, cellsA, SV.cells, binA, binI, eqOut, isSl, isPt, natOf, callee, snap, SV.refsL, SV.refs, thaw, fzAll, loA, hiA, elemOf, partsA, buildA, putCells, ↓reduceIte, reduceCtorEq, okCell, Nat.reduceAdd, Nat.reduceEqDiff, Nat.reduceSub, Nat.reduceMul, Nat.reduceLeDiff, Nat.reduceLT, Nat.reduceBEq, PV.scal, PV.scalL, SV.scal, SV.scalL, Ob.scal, PV.isCell, pure', resO]
      refine finA_gen [8] trivial (by simp [retA, rvA, mkE_cons, mk_nil, mkO_cons, mkO_nil, loadA, SV.tr, SV.trL, nmF, rn_nil, rn_cons1, rn_cons2, plainOb, SV.refsL, SV.refs, Ob.refs, X, F, List.range_succ, mkO, setO_mk]; rfl) ?_ ?_ ?_ ?_ ?_ ?_ ?_ <;> simp [ints, retA, rvA, mkE_cons, mk_nil, mkO_cons, mkO_nil, loadA, SV.tr, SV.trL, nmF, rn_nil, rn_cons1, rn_cons2, plainOb, SV.refsL, SV.refs, Ob.refs, X, F, List.range_succ, mkO, setO_mk]
    | true =>
      have hok0 : nlOk x m l = true := by simp only [nlOk, hL, h8, Bool.and_self]
      refine is.go hm hΓ k_s_NeedlessQuestions o_s_NeedlessQuestions (by simp [a_s_NeedlessQuestions]) ?_
      simp only [a_s_NeedlessQuestions, h_l8Good, c_areListed, h_l8Tell, c_l8Tell, h_l1Own, c_Clone, hc, hL, hok0, h8, g1, g2, g3, List.zipIdx_cons, List.zipIdx_nil, ↓SP, SQ, Gam.add, stepM, callC, argC, lendO, nmBy, nmC, likeL, likeB, plainOb, offs, exL, X, F, trP, trO, stepD, stepW, newA, SV.tr, SV.trL, fz, allP, Ob.tr, loadA, cellsA, SV.cells, binA, binI, eqOut, isSl, isPt, natOf, callee, snap, SV.refsL, SV.refs, thaw, fzAll, loA, hiA, elemOf, partsA, buildA, putCells, ↓reduceIte, reduceCtorEq, okCell, Nat.reduceAdd, Nat.reduceEqDiff, Nat.reduceSub, Nat.reduceMul, Nat.reduceLeDiff, Nat.reduceLT, Nat.reduceBEq, PV.scal, PV.scalL, SV.scal, SV.scalL, Ob.scal, PV.isCell, pure', resO]
      refine loop_at (fun s : J1 => mkEnv [(0, .p (.agg [.sl 1 (ints x), .int .i64 m])), (1, .p (.sl 1 (ints l))), (2, .bx 2 0), (4, .p .nilsl), (5, sb false), (6, .ar 8), (7, si s.i), (18, sb false), (23, s.a), (36, s.b)]) (fun s => mkO [(2, some (.box [.p (.sl 1 (ints x)), si m])), (8, some (.arr 1 (ints (nlN x m l s.i)))), (30, s.p), (35, none), (39, s.o), (40, none)]) (fun s => s.i ≤ l.length) (fun s => l.length - s.i) ⟨0, .junk, .junk, .junk, none, none⟩ (by simp) rfl rfl ?_
      rintro ⟨i, c1, c2, c3, o1, o2⟩ hi R hR hN
      simp only at hi
      by_cases h : i < l.length
      · have h1 : (i : Int) < l.length := by omega
        have hw := wrap_one (i := i) (by omega)
        have hi0 : (0 : Int) ≤ i := by omega
        have hil : i ≤ l.length := by omega
        have hil1 : i + 1 ≤ l.length := by omega
        have hl2 : (wo l i).length ≤ 8 := by rw [wo_len h]; omega
        have ht1 : List.take (i - 0) (ints l) = ints (l.take i) := by simp [ints, List.map_take]
        have ht2 : List.take (l.length - (i + 1)) (List.drop (i + 1) (ints l)) = ints (l.drop (i + 1)) := by
          rw [List.take_of_length_le (by simp [ints])]; simp [ints, List.map_drop]
        have hap : ints (l.take i) ++ ints (l.drop (i + 1)) = ints (wo l i) := by simp [ints, wo]
        have htl : (l.take i).length ≤ 1100000 := by simp; omega
        have hrA : (l.take i).length + (l.drop (i + 1)).length ≤ roomA := by simp; unfold roomA; omega
        have hr : (nlN x m l i).length + 1 ≤ roomA := by have := nlN_len x m l i; unfold roomA; omega
        cases hb : ((cntN x m (wo l i) 2 : Int) == 0) with
        | true =>
          have hy := nlN_yes hb
          simp only [h1, hw, hi0, hil, hil1, hc, g2, g3, hl2, ht1, ht2, hap, htl, hrA, hr, hb, hy, h_l1Own, c_Clone, h_l8Tell, c_l8Tell, ints_len, ints_app1, ints_cell, isI_ints, ofI_ints, Int.toNat_natCast, Nat.zero_le, and_self, ↓aw_creg, ↓runc_nil, ↓runc_w, chk_no, chk_d, and_true, true_and, ↓SP, SQ, Gam.add, stepM, callC, argC, lendO, nmBy, nmC, likeL, likeB, plainOb, offs, exL, X, F, trP, trO, stepD, stepW, newA, SV.tr, SV.trL, fz, allP, Ob.tr, loadA, cellsA, SV.cells, binA, binI, eqOut, isSl, isPt, natOf, callee, snap, SV.refsL, SV.refs, thaw, fzAll, loA, hiA, elemOf, partsA, buildA, putCells, ↓reduceIte, reduceCtorEq, okCell, Nat.reduceAdd, Nat.reduceEqDiff, Nat.reduceSub, Nat.reduceMul, Nat.reduceLeDiff, Nat.reduceLT, Nat.reduceBEq, PV.scal, PV.scalL, SV.scal, SV.scalL, Ob.scal, PV.isCell, pure', resO]
          exact hN ⟨i + 1, _, _, .junk, _, _⟩ _ _ (by simp only; omega) (by simp only; omega) rfl rfl
        | false =>
          have hy := nlN_no hb
          simp only [h1, hw, hi0, hil, hil1, hc, g2, g3, hl2, ht1, ht2, hap, htl, hrA, hr, hb, h_l1Own, c_Clone, h_l8Tell, c_l8Tell, ints_len, ints_app1, ints_cell, isI_ints, ofI_ints, Int.toNat_natCast, Nat.zero_le, and_self, ↓aw_creg, ↓runc_nil, ↓runc_w, chk_no, chk_d, and_true, true_and, ↓SP, SQ, Gam.add, stepM, callC, argC, lendO, nmBy, nmC, likeL, likeB, plainOb, offs, exL, X, F, trP, trO, stepD, stepW, newA, SV.tr, SV.trL, fz, allP, Ob.tr, loadA, cellsA, SV.cells, binA, binI, eqOut, isSl, isPt, natOf, callee, snap, SV.refsL, SV.refs, thaw, fzAll, loA, hiA, elemOf, partsA, buildA, putCells, ↓reduceIte, reduceCtorEq, okCell, Nat.reduceAdd, Nat.reduceEqDiff, Nat.reduceSub, Nat.reduceMul, Nat.reduceLeDiff, Nat.reduceLT, Nat.reduceBEq, PV.scal, PV.scalL, SV.scal, SV.scalL, Ob.scal, PV.isCell, pure', resO]
          exact hN ⟨i + 1, _, _, .junk, _, _⟩ _ _ (by simp only; omega) (by simp only; omega) rfl (by rw [hy])
      · have he : i = l.length := by omega
        have h1 : ¬ (i : Int) < l.length := by omega
        subst he
        simp only [h1, ↓SP, SQ, Gam.add, stepM, callC, argC, lendO, nmBy, nmC, likeL, likeB, plainOb, offs, exL, X, F, trP, trO, stepD, stepW, newA, SV.tr, SV.trL, fz, allP, Ob.tr, loadA, cellsA, SV.cells, binA, binI, eqOut, isSl, isPt, natOf, callee, snap, SV.refsL, SV.refs, thaw, fzAll, loA, hiA, elemOf, partsA, buildA, putCells, ↓reduceIte, reduceCtorEq, okCell, Nat.reduceAdd, Nat.reduceEqDiff, Nat.reduceSub, Nat.reduceMul, Nat.reduceLeDiff, Nat.reduceLT, Nat.reduceBEq, PV.scal, PV.scalL, SV.scal, SV.scalL, Ob.scal, PV.isCell, pure', resO]
        refine hR _ _ _ (by intro h; cases h) ?_
        simp only [↓SP, SQ, Gam.add, stepM, callC, argC, lendO, nmBy, nmC, likeL, likeB, plainOb, offs, exL, X, F, trP, trO, stepD, stepW, newA, SV.tr, SV.trL, fz, allP, Ob.tr, loadA, cellsA, SV.cells, binA, binI, eqOut, isSl, isPt, natOf, callee, snap, SV.refsL, SV.refs, thaw, fzAll, loA, hiA, elemOf, partsA, buildA, putCells, ↓reduceIte, reduceCtorEq, okCell, Nat.reduceAdd, Nat.reduceEqDiff, Nat.reduceSub, Nat.reduceMul, Nat.reduceLeDiff, Nat.reduceLT, Nat.reduceBEq, PV.scal, PV.scalL, SV.scal, SV.scalL, Ob.scal, PV.isCell, pure', resO]
        refine finA_gen [8] trivial (by simp [retA, rvA, mkE_cons, mk_nil, mkO_cons, mkO_nil, loadA, SV.tr, SV.trL, nmF, rn_nil, rn_cons1, rn_cons2, plainOb, SV.refsL, SV.refs, Ob.refs, X, F, List.range_succ, mkO, setO_mk]; rfl) ?_ ?_ ?_ ?_ ?_ ?_ ?_ <;> simp [retA, rvA, mkE_cons, mk_nil, mkO_cons, mkO_nil, loadA, SV.tr, SV.trL, nmF, rn_nil, rn_cons1, rn_cons2, plainOb, SV.refsL, SV.refs, Ob.refs, X, F, List.range_succ, mkO, setO_mk]
def a_x_NeedlessQuestions (f_szState : FuncId) (f_toState : FuncId) (f_toIntS : FuncId) (f_s_NeedlessQuestions : FuncId) (f_NeedlessQuestions : FuncId) (f_eqIntS : FuncId) (f_eqState : FuncId) (f_markState : FuncId) (f_markIntS : FuncId) (f_heldIntS : FuncId) : AFn := ⟨2, 
  .seq (.reg [⟨some 2, none, .w (.box 2 (.t 0))⟩,
    ⟨some 4, none, .d (.mv (.c (.bool false)))⟩])
  (.seq (.seq (.reg [⟨some 17, none, .d (.mv (.t 1))⟩,
    ⟨some 18, none, .d (.len (.t 17))⟩,
    ⟨some 19, none, .d (.bin .arith .gtr (.t 18) (.c (.int .i64 1048576)))⟩])
  (.cond (.t 19) (.seq (.reg [⟨some 4, none, .d (.mv (.c (.bool true)))⟩])
   (.ret)) (.skip)))
  (.seq (.reg [⟨some 5, none, .d (.mv (.c (.int .i64 1048576)))⟩])
  (.seq (.reg [⟨some 20, none, .d (.load true 2 (.t 2))⟩,
    ⟨some 21, none, .d (.mv (.t 5))⟩,
    ⟨some 22, none, .d (.call (.f f_szState) [(.t 20), (.t 21)])⟩,
    ⟨some 5, none, .d (.mv (.t 22))⟩])
  (.seq (.seq (.reg [⟨some 23, none, .d (.mv (.t 5))⟩,
    ⟨some 24, none, .d (.bin .arith .lss (.t 23) (.c (.int .i64 0)))⟩])
  (.cond (.t 24) (.seq (.reg [⟨some 4, none, .d (.mv (.c (.bool true)))⟩])
   (.ret)) (.skip)))
  (.seq (.reg [⟨some 26, none, .d (.load true 2 (.t 2))⟩,
    ⟨some 27, none, .d (.call (.f f_toState) [(.t 26)])⟩,
    ⟨some 28, none, .d (.mv (.t 1))⟩,
    ⟨some 29, none, .d (.call (.f f_toIntS) [(.t 28)])⟩,
    ⟨some 30, none, .d (.call (.f f_s_NeedlessQuestions) [(.t 27), (.t 29)])⟩,
    ⟨some 25, none, .d (.mv (.t 30))⟩,
    ⟨some 31, none, .d (.extract (.t 25) 0)⟩,
    ⟨some 32, none, .d (.extract (.t 25) 1)⟩,
    ⟨some 6, none, .d (.mv (.t 31))⟩,
    ⟨some 7, none, .d (.mv (.t 32))⟩])
  (.seq (.reg [⟨some 33, none, .d (.load true 2 (.t 2))⟩,
    ⟨some 34, none, .w (.callL (.f f_toState) [(.t 33)] [] 1 false)⟩,
    ⟨some 8, none, .w (.alloc [.nilsl, .int .i64 0])⟩,
    ⟨none, none, .w (.store 2 (.t 8) (.t 34))⟩])
  (.seq (.reg [⟨some 35, none, .d (.mv (.t 1))⟩,
    ⟨some 36, none, .w (.callL (.f f_toIntS) [(.t 35)] [] 1 false)⟩,
    ⟨some 9, none, .d (.mv (.t 36))⟩])
  (.seq (.reg [⟨some 38, none, .d (.load true 2 (.t 8))⟩,
    ⟨some 39, none, .d (.mv (.t 9))⟩,
    ⟨some 40, none, .w (.callL (.f f_NeedlessQuestions) [(.t 38), (.t 39)] [] 1 false)⟩,
    ⟨some 37, none, .d (.mv (.t 40))⟩,
    ⟨some 41, none, .d (.extract (.t 37) 0)⟩,
    ⟨some 42, none, .d (.extract (.t 37) 1)⟩,
    ⟨some 10, none, .d (.mv (.t 41))⟩,
    ⟨some 11, none, .d (.mv (.t 42))⟩])
  (.seq (.seq (.reg [⟨some 43, none, .d (.mv (.t 10))⟩,
    ⟨some 44, none, .d (.mv (.t 6))⟩,
    ⟨some 45, none, .d (.call (.f f_eqIntS) [(.t 43), (.t 44)])⟩,
    ⟨some 46, none, .d (.not (.t 45))⟩,
    ⟨some 47, none, .d (.mv (.t 46))⟩,
    ⟨some 48, some (47, false), .d (.mv (.t 11))⟩,
    ⟨some 49, some (47, false), .d (.mv (.t 7))⟩,
    ⟨some 50, some (47, false), .d (.bin .bool .neq (.t 48) (.t 49))⟩,
    ⟨some 51, none, .d (.pick (.t 47) (.c (.bool true)) (.t 50))⟩])
  (.cond (.t 51) (.seq (.reg [⟨some 4, none, .d (.mv (.c (.bool false)))⟩])
   (.ret)) (.skip)))
  (.seq (.seq (.dreg [] [([], ⟨some 52, none, .d (.load true 2 (.t 8))⟩),
    ([], ⟨some 53, none, .d (.load true 2 (.t 2))⟩),
    ([], ⟨some 54, none, .d (.call (.f f_toState) [(.t 53)])⟩)] [⟨some 55, none, .d (.call (.f f_eqState) [(.t 52), (.t 54)])⟩,
    ⟨some 56, none, .d (.not (.t 55))⟩])
  (.cond (.t 56) (.seq (.reg [⟨some 4, none, .d (.mv (.c (.bool false)))⟩])
   (.ret)) (.skip)))
  (.seq (.seq (.reg [⟨some 57, none, .d (.mv (.t 9))⟩,
    ⟨some 58, none, .d (.mv (.t 1))⟩,
    ⟨some 59, none, .d (.call (.f f_toIntS) [(.t 58)])⟩,
    ⟨some 60, none, .d (.call (.f f_eqIntS) [(.t 57), (.t 59)])⟩,
    ⟨some 61, none, .d (.not (.t 60))⟩])
  (.cond (.t 61) (.seq (.reg [⟨some 4, none, .d (.mv (.c (.bool false)))⟩])
   (.ret)) (.skip)))
  (.seq (.reg [⟨some 12, none, .d (.mv (.c (.int .i64 1)))⟩])
  (.seq (.reg [⟨some 62, none, .d (.load true 2 (.t 8))⟩,
    ⟨some 63, none, .d (.mv (.t 12))⟩,
    ⟨some 64, none, .w (.callL (.f f_markState) [(.t 62), (.t 63)] [34] 0 false)⟩,
    ⟨some 12, none, .d (.mv (.t 64))⟩])
  (.seq (.reg [⟨some 65, none, .d (.mv (.t 9))⟩,
    ⟨some 66, none, .d (.mv (.t 12))⟩,
    ⟨some 67, none, .w (.callL (.f f_markIntS) [(.t 65), (.t 66)] [36] 0 false)⟩,
    ⟨some 12, none, .d (.mv (.t 67))⟩])
  (.seq (.seq (.reg [⟨some 68, none, .d (.mv (.t 12))⟩,
    ⟨some 69, none, .d (.bin .arith .lss (.t 68) (.c (.int .i64 0)))⟩,
    ⟨some 70, none, .d (.mv (.t 69))⟩,
    ⟨some 71, some (70, false), .d (.mv (.t 10))⟩,
    ⟨some 72, some (70, false), .d (.mv (.t 6))⟩,
    ⟨some 73, some (70, false), .d (.call (.f f_eqIntS) [(.t 71), (.t 72)])⟩,
    ⟨some 74, some (70, false), .d (.not (.t 73))⟩,
    ⟨some 75, none, .d (.pick (.t 70) (.c (.bool true)) (.t 74))⟩,
    ⟨some 76, none, .d (.mv (.t 75))⟩,
    ⟨some 77, some (76, false), .d (.mv (.t 11))⟩,
    ⟨some 78, some (76, false), .d (.mv (.t 7))⟩,
    ⟨some 79, some (76, false), .d (.bin .bool .neq (.t 77) (.t 78))⟩,
    ⟨some 80, none, .d (.pick (.t 76) (.c (.bool true)) (.t 79))⟩])
  (.cond (.t 80) (.seq (.reg [⟨some 4, none, .d (.mv (.c (.bool false)))⟩])
   (.ret)) (.skip)))
  (.seq (.reg [⟨some 13, none, .d (.mv (.c (.int .i64 1)))⟩])
  (.seq (.reg [⟨some 81, none, .d (.mv (.t 10))⟩,
    ⟨some 82, none, .d (.mv (.t 13))⟩,
    ⟨some 83, none, .w (.callL (.f f_markIntS) [(.t 81), (.t 82)] [40] 0 false)⟩,
    ⟨some 13, none, .d (.mv (.t 83))⟩])
  (.seq (.reg [⟨some 14, none, .d (.mv (.c (.int .i64 1)))⟩])
  (.seq (.reg [⟨some 84, none, .d (.mv (.t 10))⟩,
    ⟨some 85, none, .d (.mv (.t 14))⟩,
    ⟨some 86, none, .d (.call (.f f_heldIntS) [(.t 84), (.t 85)])⟩,
    ⟨some 14, none, .d (.mv (.t 86))⟩])
  (.seq (.seq (.reg [⟨some 87, none, .d (.mv (.t 14))⟩,
    ⟨some 88, none, .d (.bin .arith .lss (.t 87) (.c (.int .i64 0)))⟩])
  (.cond (.t 88) (.seq (.reg [⟨some 4, none, .d (.mv (.c (.bool false)))⟩])
   (.ret)) (.skip)))
  (.seq (.seq (.reg [⟨some 89, none, .d (.mv (.t 14))⟩,
    ⟨some 90, none, .d (.mv (.t 13))⟩,
    ⟨some 91, none, .d (.bin .arith .neq (.t 89) (.t 90))⟩])
  (.cond (.t 91) (.seq (.reg [⟨some 4, none, .d (.mv (.c (.bool false)))⟩])
   (.ret)) (.skip)))
  (.seq (.reg [⟨some 93, none, .d (.load true 2 (.t 2))⟩,
    ⟨some 94, none, .d (.call (.f f_toState) [(.t 93)])⟩,
    ⟨some 95, none, .d (.mv (.t 1))⟩,
    ⟨some 96, none, .d (.call (.f f_toIntS) [(.t 95)])⟩,
    ⟨some 97, none, .d (.call (.f f_NeedlessQuestions) [(.t 94), (.t 96)])⟩,
    ⟨some 92, none, .d (.mv (.t 97))⟩,
    ⟨some 98, none, .d (.extract (.t 92) 0)⟩,
    ⟨some 99, none, .d (.extract (.t 92) 1)⟩,
    ⟨some 15, none, .d (.mv (.t 98))⟩,
    ⟨some 16, none, .d (.mv (.t 99))⟩])
  (.seq (.seq (.reg [⟨some 100, none, .d (.mv (.t 15))⟩,
    ⟨some 101, none, .d (.mv (.t 6))⟩,
    ⟨some 102, none, .d (.call (.f f_eqIntS) [(.t 100), (.t 101)])⟩,
    ⟨some 103, none, .d (.not (.t 102))⟩,
    ⟨some 104, none, .d (.mv (.t 103))⟩,
    ⟨some 105, some (104, false), .d (.mv (.t 16))⟩,
    ⟨some 106, some (104, false), .d (.mv (.t 7))⟩,
    ⟨some 107, some (104, false), .d (.bin .bool .neq (.t 105) (.t 106))⟩,
    ⟨some 108, none, .d (.pick (.t 104) (.c (.bool true)) (.t 107))⟩])
  (.cond (.t 108) (.seq (.reg [⟨some 4, none, .d (.mv (.c (.bool false)))⟩])
   (.ret)) (.skip)))
  (.seq (.reg [⟨some 14, none, .d (.mv (.c (.int .i64 1)))⟩])
  (.seq (.reg [⟨some 109, none, .d (.mv (.t 10))⟩,
    ⟨some 110, none, .d (.mv (.t 14))⟩,
    ⟨some 111, none, .d (.call (.f f_heldIntS) [(.t 109), (.t 110)])⟩,
    ⟨some 14, none, .d (.mv (.t 111))⟩])
  (.seq (.seq (.reg [⟨some 112, none, .d (.mv (.t 14))⟩,
    ⟨some 113, none, .d (.bin .arith .lss (.t 112) (.c (.int .i64 0)))⟩])
  (.cond (.t 113) (.seq (.reg [⟨some 4, none, .d (.mv (.c (.bool false)))⟩])
   (.ret)) (.skip)))
  (.seq (.seq (.reg [⟨some 114, none, .d (.mv (.t 14))⟩,
    ⟨some 115, none, .d (.mv (.t 13))⟩,
    ⟨some 116, none, .d (.bin .arith .neq (.t 114) (.t 115))⟩])
  (.cond (.t 116) (.seq (.reg [⟨some 4, none, .d (.mv (.c (.bool false)))⟩])
   (.ret)) (.skip)))
  (.seq (.reg [⟨some 4, none, .d (.mv (.c (.bool true)))⟩])
  (.ret))))))))))))))))))))))))))))), [.tmp 4]⟩
def n_x_NeedlessQuestions : Nat → Option Ann := fun d => if d = 34 then some ⟨[], 1, false⟩ else if d = 36 then some ⟨[], 1, false⟩ else if d = 40 then some ⟨[], 1, false⟩ else if d = 64 then some ⟨[34], 0, false⟩ else if d = 67 then some ⟨[36], 0, false⟩ else if d = 83 then some ⟨[40], 0, false⟩ else none
abbrev k_x_NeedlessQuestions : List Nat := [0, 1, 2, 4, 5, 6, 7, 8, 9, 10, 11, 12, 13, 14, 15, 16, 19, 24, 51, 56, 61, 80, 88, 91, 108, 113, 116]
abbrev o_x_NeedlessQuestions : List Nat := [2, 8, 34, 36, 40]
def c_x_NeedlessQuestions : Con := pure' fun
  | [.p (.agg [v, .int .i64 m]), .p u] => match slI v, slI u with
    | some x, some l => if x.length ≤ 9223372036854775807 ∧ l.length ≤ 9223372036854775807 then some (.p (.bool true), []) else none
    | _, _ => none
  | _ => none
set_option maxRecDepth 100000 in
theorem s_x_NeedlessQuestions {P : Program} (hm : P.follows .mixedOrders = true) {Γ : Gam} (hΓ : GS P Γ) {n : FuncId} {f_szState : FuncId} {f_toState : FuncId} {f_toIntS : FuncId} {f_s_NeedlessQuestions : FuncId} {f_NeedlessQuestions : FuncId} {f_eqIntS : FuncId} {f_eqState : FuncId} {f_markState : FuncId} {f_markIntS : FuncId} {f_heldIntS : FuncId} (is : Is P n (a_x_NeedlessQuestions f_szState f_toState f_toIntS f_s_NeedlessQuestions f_NeedlessQuestions f_eqIntS f_eqState f_markState f_markIntS f_heldIntS)) (h_szState : Γ f_szState = c_szState) (h_toState : Γ f_toState = c_toState) (h_toIntS : Γ f_toIntS = c_toIntS) (h_s_NeedlessQuestions : Γ f_s_NeedlessQuestions = c_s_NeedlessQuestions) (h_NeedlessQuestions : Γ f_NeedlessQuestions = c_NeedlessQuestions) (h_eqIntS : Γ f_eqIntS = c_eqIntS) (h_eqState : Γ f_eqState = c_eqState) (h_markState : Γ f_markState = c_markState) (h_markIntS : Γ f_markIntS = c_markIntS) (h_heldIntS : Γ f_heldIntS = c_heldIntS)  : Says P n c_x_NeedlessQuestions := by
  refine Says.pure fun args r fs h => ?_
  split at h
  case h_2 => cases h
  rename_i v m u
  split at h
  case h_2 => cases h
  rename_i x l hx hu
  split at h
  case isFalse => cases h
  rename_i hc
  simp only [Option.some.injEq, Prod.mk.injEq] at h
  obtain ⟨rfl, rfl⟩ := h
  have hlp := slI_lenP hx
  have hlu := slI_len hu
  by_cases hku : (l.length : Int) > 1048576
  · refine is.go hm hΓ k_x_NeedlessQuestions o_x_NeedlessQuestions (by simp [a_x_NeedlessQuestions]) ?_
    simp only [a_x_NeedlessQuestions, h_szState, c_szState, h_toState, c_toState, h_toIntS, c_toIntS, h_s_NeedlessQuestions, c_s_NeedlessQuestions, h_NeedlessQuestions, c_NeedlessQuestions, h_eqIntS, c_eqIntS, h_eqState, c_eqState, h_markState, c_markState, h_markIntS, c_markIntS, h_heldIntS, c_heldIntS, hlp, hlu, hc, hku, Int.reduceLE, Int.reduceNeg, Int.reduceLT, List.zipIdx_cons, List.zipIdx_nil, ↓SP, SQ, Gam.add, stepM, callC, argC, lendO, nmBy, nmC, likeL, likeB, plainOb, offs, exL, X, F, trP, trO, stepD, stepW, newA, SV.tr, SV.trL, fz, allP, Ob.tr, loadA, cellsA, SV.cells, binA, binI, eqOut, isSl, isPt, natOf, callee, snap, SV.refsL, SV.refs, thaw, fzAll, loA, hiA, elemOf, partsA, buildA, putCells, ↓reduceIte, reduceCtorEq, okCell, Nat.reduceAdd, Nat.reduceEqDiff, Nat.reduceSub, Nat.reduceMul, Nat.reduceLeDiff, Nat.reduceLT, Nat.reduceBEq, PV.scal, PV.scalL, SV.scal, SV.scalL, Ob.scal, PV.isCell, pure', resO]
    exact finA_val (by simp [retA, rvA, mkE_cons, mk_nil, mkO_cons, mkO_nil, loadA, SV.tr, SV.trL, nmF, rn_nil, rn_cons1, rn_cons2, plainOb, SV.refsL, SV.refs, Ob.refs, X, F, List.range_succ, mkO, setO_mk]) (by simp [SV.tr, SV.trL])
  · by_cases hk : (1048576 : Int) - (x.length : Int) < 0
    · refine is.go hm hΓ k_x_NeedlessQuestions o_x_NeedlessQuestions (by simp [a_x_NeedlessQuestions]) ?_
      simp only [a_x_NeedlessQuestions, h_szState, c_szState, h_toState, c_toState, h_toIntS, c_toIntS, h_s_NeedlessQuestions, c_s_NeedlessQuestions, h_NeedlessQuestions, c_NeedlessQuestions, h_eqIntS, c_eqIntS, h_eqState, c_eqState, h_markState, c_markState, h_markIntS, c_markIntS, h_heldIntS, c_heldIntS, hlp, hlu, hc, hk, hku, Int.reduceLE, Int.reduceNeg, Int.reduceLT, List.zipIdx_cons, List.zipIdx_nil, ↓SP, SQ, Gam.add, stepM, callC, argC, lendO, nmBy, nmC, likeL, likeB, plainOb, offs, exL, X, F, trP, trO, stepD, stepW, newA, SV.tr, SV.trL, fz, allP, Ob.tr, loadA, cellsA, SV.cells, binA, binI, eqOut, isSl, isPt, natOf, callee, snap, SV.refsL, SV.refs, thaw, fzAll, loA, hiA, elemOf, partsA, buildA, putCells, ↓reduceIte, reduceCtorEq, okCell, Nat.reduceAdd, Nat.reduceEqDiff, Nat.reduceSub, Nat.reduceMul, Nat.reduceLeDiff, Nat.reduceLT, Nat.reduceBEq, PV.scal, PV.scalL, SV.scal, SV.scalL, Ob.scal, PV.isCell, pure', resO]
      exact finA_val (by simp [retA, rvA, mkE_cons, mk_nil, mkO_cons, mkO_nil, loadA, SV.tr, SV.trL, nmF, rn_nil, rn_cons1, rn_cons2, plainOb, SV.refsL, SV.refs, Ob.refs, X, F, List.range_succ, mkO, setO_mk]) (by simp [SV.tr, SV.trL])
    · have hlen : x.length ≤ 1048576 := by omega
      have hlen2 : x.length ≤ 1100000 := by omega
      have hlen3 : l.length ≤ 1048576 := by omega
      have hlen4 : l.length ≤ 1100000 := by omega
      have hml := marks_len 1 x.length
      have hml2 := marks_len (1 + x.length) l.length
      have q0 : (0 : Int) ≤ 1 + x.length := by omega
      have q1 : (1 : Int) + x.length ≤ 10000000 := by omega
      have q2 : ¬ (1 : Int) + x.length + l.length < 0 := by omega
      have hnb : held [] 1 := fun j hj => by simp at hj
      cases hg2 : nlOk x m l with
      | true =>
        have hyl := nlN_len x m l l.length
        have y5 : (nlN x m l l.length).length ≤ 1100000 := by omega
        have hms := marks_len 1 (nlN x m l l.length).length
        have hhs := held_marks 1 (nlN x m l l.length).length
        have q3 : ¬ (1 : Int) + (nlN x m l l.length).length < 0 := by omega
        refine is.go hm hΓ k_x_NeedlessQuestions o_x_NeedlessQuestions (by simp [a_x_NeedlessQuestions]) ?_
        simp only [a_x_NeedlessQuestions, h_szState, c_szState, h_toState, c_toState, h_toIntS, c_toIntS, h_s_NeedlessQuestions, c_s_NeedlessQuestions, h_NeedlessQuestions, c_NeedlessQuestions, h_eqIntS, c_eqIntS, h_eqState, c_eqState, h_markState, c_markState, h_markIntS, c_markIntS, h_heldIntS, c_heldIntS, hx, hu, hlp, hlu, hc, hk, hku, hlen, hlen2, hlen3, hlen4, hg2, hml, hml2, q0, q1, q2, q3, y5, hms, hhs, ints_len, slI_sl, beq_self_eq_true, Bool.not_true, Int.reduceLE, Int.reduceNeg, Int.reduceLT, bne_self_eq_false, List.zipIdx_cons, List.zipIdx_nil, ↓SP, SQ, Gam.add, stepM, callC, argC, lendO, nmBy, nmC, likeL, likeB, plainOb, offs, exL, X, F, trP, trO, stepD, stepW, newA, SV.tr, SV.trL, fz, allP, Ob.tr, loadA, cellsA, SV.cells, binA, binI, eqOut, isSl, isPt, natOf, callee, snap, SV.refsL, SV.refs, thaw, fzAll, loA, hiA, elemOf, partsA, buildA, putCells, ↓reduceIte, reduceCtorEq, okCell, Nat.reduceAdd, Nat.reduceEqDiff, Nat.reduceSub, Nat.reduceMul, Nat.reduceLeDiff, Nat.reduceLT, Nat.reduceBEq, PV.scal, PV.scalL, SV.scal, SV.scalL, Ob.scal, PV.isCell, pure', resO]
        exact finA_val (by simp [retA, rvA, mkE_cons, mk_nil, mkO_cons, mkO_nil, loadA, SV.tr, SV.trL, nmF, rn_nil, rn_cons1, rn_cons2, plainOb, SV.refsL, SV.refs, Ob.refs, X, F, List.range_succ, mkO, setO_mk]) (by simp [SV.tr, SV.trL])
      | false =>
        have z0 : (1 : Int) + ((0 : Nat) : Int) = 1 := rfl
        have hb0 : slI (.sl 1 []) = some [] := rfl
        refine is.go hm hΓ k_x_NeedlessQuestions o_x_NeedlessQuestions (by simp [a_x_NeedlessQuestions]) ?_
        simp only [a_x_NeedlessQuestions, h_szState, c_szState, h_toState, c_toState, h_toIntS, c_toIntS, h_s_NeedlessQuestions, c_s_NeedlessQuestions, h_NeedlessQuestions, c_NeedlessQuestions, h_eqIntS, c_eqIntS, h_eqState, c_eqState, h_markState, c_markState, h_markIntS, c_markIntS, h_heldIntS, c_heldIntS, hx, hu, hlp, hlu, hc, hk, hku, hlen, hlen2, hlen3, hlen4, hg2, hml, hml2, q0, q1, q2, hnb, z0, hb0, ints_len, slI_sl, slI_nil, Bool.false_eq_true, beq_self_eq_true, Bool.not_true, Int.reduceLE, Int.reduceNeg, Int.reduceLT, bne_self_eq_false, List.zipIdx_cons, List.zipIdx_nil, ↓SP, SQ, Gam.add, stepM, callC, argC, lendO, nmBy, nmC, likeL, likeB, plainOb, offs, exL, X, F, trP, trO, stepD, stepW, newA, SV.tr, SV.trL, fz, allP, Ob.tr, loadA, cellsA, SV.cells, binA, binI, eqOut, isSl, isPt, natOf, callee, snap, SV.refsL, SV.refs, thaw, fzAll, loA, hiA, elemOf, partsA, buildA, putCells, ↓reduceIte, reduceCtorEq, okCell, Nat.reduceAdd, Nat.reduceEqDiff, Nat.reduceSub, Nat.reduceMul, Nat.reduceLeDiff, Nat.reduceLT, Nat.reduceBEq, PV.scal, PV.scalL, SV.scal, SV.scalL, Ob.scal, PV.isCell, pure', resO]
        exact finA_val (by simp [retA, rvA, mkE_cons, mk_nil, mkO_cons, mkO_nil, loadA, SV.tr, SV.trL, nmF, rn_nil, rn_cons1, rn_cons2, plainOb, SV.refsL, SV.refs, Ob.refs, X, F, List.range_succ, mkO, setO_mk]) (by simp [SV.tr, SV.trL])
end Go.Proofs.Ytnonkjcklgihhaa.Pam
