/- A part of the proof that stands in this folder: a small machine whose steps are shown to be the steps of the model, or walks of functions by it. No condition of its own. -/
import Derived.Test.YtnonkjcklgihhaaGaLK
set_option linter.unusedVariables false
set_option linter.unusedSimpArgs false
namespace Go.Proofs.Ytnonkjcklgihhaa.Pam
open Go
theorem zip_getD (l : List Int) (b : List Bool) (i : Nat) (h1 : i < l.length) (h2 : i < b.length) : (l.zip b).getD i (0, false) = (l.getD i 0, b.getD i false) := by
  rw [getD_lt (by simp; omega), getD_lt h1, getD_lt h2]; simp
/-- Lies behind answers to listed questions. -/
def endL (m : Int) (x l : List Int) (b : List Bool) : List Int := allL (st2 m) x (l.zip b)
theorem isSt_small2 {l : List Int} {m : Int} (h : isSt l m = true) : smallL m l := by
  simp only [isSt, Bool.and_eq_true, List.all_eq_true, decide_eq_true_eq] at h
  intro x hx
  have := (h.2 x hx).2
  omega
theorem endL_ok {m : Int} {x : List Int} (h : smallL m x) (l : List Int) (b : List Bool) : (endL m x l b).length = x.length ∧ smallL m (endL m x l b) := allL_ok (st := st2 m) (m := m) st2_len st2_small h _
def allSm (m : Int) (l : List Int) : Bool := l.all fun x => decide (x ≤ m) || decide (x ≤ 0)
theorem allSm_eq {m : Int} {l : List Int} : allSm m l = true ↔ smallL m l := by
  simp [allSm, smallL]
def a_l8End (f_l2After : FuncId) : AFn := ⟨3, 
  .seq (.reg [⟨some 3, none, .w (.box 2 (.t 0))⟩,
    ⟨some 6, none, .w (.alloc [.nilsl, .int .i64 0])⟩])
  (.seq (.seq (.reg [⟨some 7, none, .d (.mv (.c (.int .i64 0)))⟩])
  (.block 0 (.loop (.seq (.seq (.reg [⟨some 8, none, .d (.mv (.t 7))⟩,
      ⟨some 9, none, .d (.mv (.t 1))⟩,
      ⟨some 10, none, .d (.len (.t 9))⟩,
      ⟨some 11, none, .d (.bin .arith .lss (.t 8) (.t 10))⟩])
    (.cond (.t 11) (.skip) (.exit 0)))
    (.seq (.block 1 (.dreg [] [([], ⟨some 14, none, .d (.load true 2 (.t 3))⟩),
       ([], ⟨some 15, none, .d (.mv (.t 1))⟩),
       ([], ⟨some 16, none, .d (.mv (.t 7))⟩),
       ([], ⟨some 17, none, .d (.ia 1 (.t 15) (.t 16))⟩),
       ([], ⟨some 18, none, .d (.load false 1 (.t 17))⟩),
       ([], ⟨some 19, none, .d (.mv (.t 2))⟩),
       ([], ⟨some 20, none, .d (.mv (.t 7))⟩),
       ([], ⟨some 21, none, .d (.ia 1 (.t 19) (.t 20))⟩),
       ([], ⟨some 22, none, .d (.load false 1 (.t 21))⟩)] [⟨some 23, none, .d (.call (.f f_l2After) [(.t 14), (.t 18), (.t 22)])⟩,
       ⟨none, none, .w (.store 2 (.t 3) (.t 23))⟩]))
    (.reg [⟨some 12, none, .d (.mv (.t 7))⟩,
      ⟨some 13, none, .d (.bin .arith .add (.t 12) (.c (.int .i64 1)))⟩,
      ⟨some 7, none, .d (.mv (.t 13))⟩]))))))
  (.seq (.reg [⟨some 24, none, .d (.load true 2 (.t 3))⟩,
    ⟨none, none, .w (.store 2 (.t 6) (.t 24))⟩])
  (.ret))), [.cell 6 2 true]⟩
def n_l8End : Nat → Option Ann := fun _ => none
abbrev k_l8End : List Nat := [0, 1, 2, 3, 6, 7, 11]
abbrev o_l8End : List Nat := [3, 6]
def a_told (f_answered : FuncId) : AFn := ⟨3, 
  .seq (.reg [⟨some 3, none, .w (.box 2 (.t 0))⟩,
    ⟨some 6, none, .w (.alloc [.nilsl, .int .i64 0])⟩])
  (.seq (.seq (.reg [⟨some 9, none, .d (.mv (.t 1))⟩,
    ⟨some 10, none, .d (.len (.t 9))⟩,
    ⟨some 11, none, .d (.mv (.c (.int .i64 0)))⟩])
  (.block 0 (.loop (.seq (.reg [⟨some 12, none, .d (.bin .arith .lss (.t 11) (.t 10))⟩])
    (.seq (.cond (.t 12) (.skip) (.exit 0))
    (.seq (.block 1 (.seq (.reg [⟨some 13, none, .d (.mv (.t 11))⟩,
       ⟨some 14, none, .d (.ia 1 (.t 9) (.t 11))⟩,
       ⟨some 15, none, .d (.load false 1 (.t 14))⟩,
       ⟨some 7, none, .d (.mv (.t 13))⟩,
       ⟨some 8, none, .d (.mv (.t 15))⟩])
     (.dreg [] [([], ⟨some 16, none, .d (.load true 2 (.t 3))⟩),
       ([], ⟨some 17, none, .d (.mv (.t 8))⟩),
       ([], ⟨some 18, none, .d (.mv (.t 2))⟩),
       ([], ⟨some 19, none, .d (.mv (.t 7))⟩),
       ([], ⟨some 20, none, .d (.ia 1 (.t 18) (.t 19))⟩),
       ([], ⟨some 21, none, .d (.load false 1 (.t 20))⟩),
       ([], ⟨some 22, none, .d (.build [.int .i64 0, .bool false] [(0, 1, (.t 17)), (1, 1, (.t 21))])⟩)] [⟨some 23, none, .d (.call (.f f_answered) [(.t 16), (.t 22)])⟩,
       ⟨none, none, .w (.store 2 (.t 3) (.t 23))⟩])))
    (.reg [⟨some 24, none, .d (.bin .arith .add (.t 11) (.c (.int .i64 1)))⟩,
      ⟨some 11, none, .d (.mv (.t 24))⟩])))))))
  (.seq (.reg [⟨some 25, none, .d (.load true 2 (.t 3))⟩,
    ⟨none, none, .w (.store 2 (.t 6) (.t 25))⟩])
  (.ret))), [.cell 6 2 true]⟩
def n_told : Nat → Option Ann := fun _ => none
abbrev k_told : List Nat := [0, 1, 2, 3, 6, 7, 8, 9, 10, 11, 12]
abbrev o_told : List Nat := [3, 6]
def c_l8End : Con := pure' fun
  | [.p (.agg [.sl 1 x_, .int .i64 m]), .p (.sl 1 l_), .p (.sl 1 b_)] => if isI x_ = true ∧ isI l_ = true ∧ isBo b_ = true ∧ ((ofI x_).length ≤ 1100000 ∧ (ofI l_).length ≤ 1100000 ∧ (ofBo b_).length = (ofI l_).length ∧ m ≤ 1000 ∧ allSm m (ofI x_) = true) then some (.ag [.p (.sl 1 (ints (endL m (ofI x_) (ofI l_) (ofBo b_)))), .p (.int .i64 m)], []) else none
  | _ => none
theorem s_l8End {P : Program} (hm : P.follows .mixedOrders = true) {Γ : Gam} (hΓ : GS P Γ) {n : FuncId} {f_l2After : FuncId} (is : Is P n (a_l8End f_l2After)) (h_l2After : Γ f_l2After = c_l2After)  : Says P n c_l8End := by
  refine Says.pure fun args r fs h => ?_
  split at h
  case h_2 => cases h
  rename_i x_ m l_ b_
  split at h
  case isFalse => cases h
  rename_i hc
  obtain ⟨hx_, hc⟩ := hc
  obtain ⟨x, rfl⟩ := isI_out hx_
  obtain ⟨hl_, hc⟩ := hc
  obtain ⟨l, rfl⟩ := isI_out hl_
  obtain ⟨hb_, hc⟩ := hc
  obtain ⟨b, rfl⟩ := isBo_out hb_
  simp only [ofI_ints, ofBo_bools, ofAs_asks, Option.some.injEq, Prod.mk.injEq] at h hc
  obtain ⟨rfl, rfl⟩ := h
  obtain ⟨hx0, hl0, hb0, hm1, hsm⟩ := hc
  rw [allSm_eq] at hsm
  have hok := fun k => allL_ok (st := st2 m) (m := m) st2_len st2_small hsm ((l.zip b).take k)
  have hzl : (l.zip b).length = l.length := by simp; omega
  refine is.go hm hΓ k_l8End o_l8End (by simp [a_l8End]) ?_
  simp only [a_l8End, h_l2After, c_l2After, List.zipIdx_cons, List.zipIdx_nil, ↓SP, SQ, Gam.add, stepM, callC, argC, lendO, nmBy, nmC, likeL, likeB, plainOb, offs, X, F, trP, trO, stepD, stepW, newA, SV.tr, SV.trL, fz, allP, Ob.tr, loadA, cellsA, SV.cells, binA, binI, eqOut, isSl, isPt, natOf, callee, snap, SV.refsL, SV.refs, thaw, fzAll, loA, hiA, elemOf, partsA, buildA, putCells, ↓reduceIte, reduceCtorEq, okCell, Nat.reduceAdd, Nat.reduceEqDiff, Nat.reduceSub, Nat.reduceMul, Nat.reduceLeDiff, Nat.reduceLT, Nat.reduceBEq, PV.scal, PV.scalL, SV.scal, SV.scalL, Ob.scal, PV.isCell, pure', resO]
  refine loop_at (fun s : Nat × SV => mkEnv [(0, .p (.agg [.sl 1 (ints x), .int .i64 m])), (1, .p (.sl 1 (ints l))), (2, .p (.sl 1 (bools b))), (3, .bx 3 0), (6, .bx 6 0), (7, si s.1), (11, s.2)]) (fun s => mkO [(3, some (.box [.p (.sl 1 (ints (allL (st2 m) x ((l.zip b).take s.1)))), si m])), (6, some (.box [.p .nilsl, si 0]))]) (fun s => s.1 ≤ l.length) (fun s => l.length - s.1) (0, .junk) (by simp) rfl rfl ?_
  rintro ⟨i, c⟩ hi R hR hN
  simp only at hi
  by_cases h : i < l.length
  · have h1 : (i : Int) < l.length := by omega
    have hw := wrap_one (i := i) (by omega)
    have hg := ints_get h
    have hg2 := bools_get (l := b) (i := i) (by omega)
    have hl1 : (allL (st2 m) x ((l.zip b).take i)).length ≤ 1100000 := by rw [(hok i).1]; omega
    have hl2 := small_1000 (hok i).2 hm1
    have hal := allL_one (st2 m) x (l.zip b) i (by omega)
    rw [zip_getD l b i h (by omega)] at hal
    simp only [h1, hw, hg, hg2, h_l2After, c_l2After, hl1, hl2, ↓SP, SQ, Gam.add, stepM, callC, argC, lendO, nmBy, nmC, likeL, likeB, plainOb, offs, X, F, trP, trO, stepD, stepW, newA, SV.tr, SV.trL, fz, allP, Ob.tr, loadA, cellsA, SV.cells, binA, binI, eqOut, isSl, isPt, natOf, callee, snap, SV.refsL, SV.refs, thaw, fzAll, loA, hiA, elemOf, partsA, buildA, putCells, ↓reduceIte, reduceCtorEq, okCell, Nat.reduceAdd, Nat.reduceEqDiff, Nat.reduceSub, Nat.reduceMul, Nat.reduceLeDiff, Nat.reduceLT, Nat.reduceBEq, PV.scal, PV.scalL, SV.scal, SV.scalL, Ob.scal, PV.isCell, pure', resO]
    refine hN (i + 1, _) _ _ (by simp only; omega) (by simp only; omega) rfl (by rw [hal]; rfl)
  · have he : i = l.length := by omega
    have h1 : ¬ (i : Int) < l.length := by omega
    simp only [h1, ↓SP, SQ, Gam.add, stepM, callC, argC, lendO, nmBy, nmC, likeL, likeB, plainOb, offs, X, F, trP, trO, stepD, stepW, newA, SV.tr, SV.trL, fz, allP, Ob.tr, loadA, cellsA, SV.cells, binA, binI, eqOut, isSl, isPt, natOf, callee, snap, SV.refsL, SV.refs, thaw, fzAll, loA, hiA, elemOf, partsA, buildA, putCells, ↓reduceIte, reduceCtorEq, okCell, Nat.reduceAdd, Nat.reduceEqDiff, Nat.reduceSub, Nat.reduceMul, Nat.reduceLeDiff, Nat.reduceLT, Nat.reduceBEq, PV.scal, PV.scalL, SV.scal, SV.scalL, Ob.scal, PV.isCell, pure', resO]
    refine hR _ _ _ (by intro h; cases h) ?_
    simp only [↓SP, SQ, Gam.add, stepM, callC, argC, lendO, nmBy, nmC, likeL, likeB, plainOb, offs, X, F, trP, trO, stepD, stepW, newA, SV.tr, SV.trL, fz, allP, Ob.tr, loadA, cellsA, SV.cells, binA, binI, eqOut, isSl, isPt, natOf, callee, snap, SV.refsL, SV.refs, thaw, fzAll, loA, hiA, elemOf, partsA, buildA, putCells, ↓reduceIte, reduceCtorEq, okCell, Nat.reduceAdd, Nat.reduceEqDiff, Nat.reduceSub, Nat.reduceMul, Nat.reduceLeDiff, Nat.reduceLT, Nat.reduceBEq, PV.scal, PV.scalL, SV.scal, SV.scalL, Ob.scal, PV.isCell, pure', resO]
    have ht : (l.zip b).take i = l.zip b := by rw [he, ← hzl]; exact List.take_length
    exact finA_val (by simp [ht, endL, retA, rvA, List.mapM_cons, List.mapM_nil, Option.pure_def, Option.bind_eq_bind, Option.bind_some, Option.map_some, mkE_cons, mk_nil, mkO_cons, mkO_nil, loadA, ↓reduceIte, List.take_succ_cons, List.take_zero, List.drop_zero, List.drop_succ_cons, List.length_cons, List.length_nil, Nat.reduceAdd, Nat.reduceEqDiff, Nat.reduceLeDiff, Nat.zero_add, Nat.le_refl, reduceCtorEq, SV.tr, SV.trL, nmF, rn_nil, rn_cons1, rn_cons2, List.map_cons, List.map_nil, List.all_cons, List.all_nil, plainOb, SV.refsL, SV.refs, Ob.refs, X, F, List.range_succ, List.range_zero, List.nil_append, List.cons_append, List.isEmpty_nil, decide_true, Nat.reduceLT, Bool.and_self, Bool.and_true, and_self, and_true, List.getElem?_cons_zero, List.getElem?_cons_succ, List.nodup_cons, List.nodup_nil, List.mem_cons, List.not_mem_nil, not_false_eq_true, or_false, List.append_nil, mkO, setO_mk, List.mem_singleton]) (by simp [SV.tr, SV.trL])
theorem s_told {P : Program} (hm : P.follows .mixedOrders = true) {Γ : Gam} (hΓ : GS P Γ) {n : FuncId} {f_answered : FuncId} (is : Is P n (a_told f_answered)) (h_answered : Γ f_answered = c_answered)  : Says P n c_l8End := by
  refine Says.pure fun args r fs h => ?_
  split at h
  case h_2 => cases h
  rename_i x_ m l_ b_
  split at h
  case isFalse => cases h
  rename_i hc
  obtain ⟨hx_, hc⟩ := hc
  obtain ⟨x, rfl⟩ := isI_out hx_
  obtain ⟨hl_, hc⟩ := hc
  obtain ⟨l, rfl⟩ := isI_out hl_
  obtain ⟨hb_, hc⟩ := hc
  obtain ⟨b, rfl⟩ := isBo_out hb_
  simp only [ofI_ints, ofBo_bools, ofAs_asks, Option.some.injEq, Prod.mk.injEq] at h hc
  obtain ⟨rfl, rfl⟩ := h
  obtain ⟨hx0, hl0, hb0, hm1, hsm⟩ := hc
  rw [allSm_eq] at hsm
  have hok := fun k => allL_ok (st := st2 m) (m := m) st2_len st2_small hsm ((l.zip b).take k)
  have hzl : (l.zip b).length = l.length := by simp; omega
  refine is.go hm hΓ k_told o_told (by simp [a_told]) ?_
  simp only [a_told, h_answered, c_answered, List.zipIdx_cons, List.zipIdx_nil, ↓SP, SQ, Gam.add, stepM, callC, argC, lendO, nmBy, nmC, likeL, likeB, plainOb, offs, X, F, trP, trO, stepD, stepW, newA, SV.tr, SV.trL, fz, allP, Ob.tr, loadA, cellsA, SV.cells, binA, binI, eqOut, isSl, isPt, natOf, callee, snap, SV.refsL, SV.refs, thaw, fzAll, loA, hiA, elemOf, partsA, buildA, putCells, ↓reduceIte, reduceCtorEq, okCell, Nat.reduceAdd, Nat.reduceEqDiff, Nat.reduceSub, Nat.reduceMul, Nat.reduceLeDiff, Nat.reduceLT, Nat.reduceBEq, PV.scal, PV.scalL, SV.scal, SV.scalL, Ob.scal, PV.isCell, pure', resO]
  refine loop_at (fun s : Nat × SV × SV × SV => mkEnv [(0, .p (.agg [.sl 1 (ints x), .int .i64 m])), (1, .p (.sl 1 (ints l))), (2, .p (.sl 1 (bools b))), (3, .bx 3 0), (6, .bx 6 0), (7, s.2.1), (8, s.2.2.1), (9, .p (.sl 1 (ints l))), (10, si l.length), (11, si s.1), (12, s.2.2.2)]) (fun s => mkO [(3, some (.box [.p (.sl 1 (ints (allL (st2 m) x ((l.zip b).take s.1)))), si m])), (6, some (.box [.p .nilsl, si 0]))]) (fun s => s.1 ≤ l.length) (fun s => l.length - s.1) (0, .junk, .junk, .junk) (by simp) rfl rfl ?_
  rintro ⟨i, c1, c2, c3⟩ hi R hR hN
  simp only at hi
  by_cases h : i < l.length
  · have h1 : (i : Int) < l.length := by omega
    have hw := wrap_one (i := i) (by omega)
    have hg := ints_get h
    have hg2 := bools_get (l := b) (i := i) (by omega)
    have hl1 : (allL (st2 m) x ((l.zip b).take i)).length ≤ 1100000 := by rw [(hok i).1]; omega
    have hl2 := small_1000 (hok i).2 hm1
    have hal := allL_one (st2 m) x (l.zip b) i (by omega)
    rw [zip_getD l b i h (by omega)] at hal
    simp only [h1, hw, hg, hg2, h_answered, c_answered, hl1, hl2, ↓SP, SQ, Gam.add, stepM, callC, argC, lendO, nmBy, nmC, likeL, likeB, plainOb, offs, X, F, trP, trO, stepD, stepW, newA, SV.tr, SV.trL, fz, allP, Ob.tr, loadA, cellsA, SV.cells, binA, binI, eqOut, isSl, isPt, natOf, callee, snap, SV.refsL, SV.refs, thaw, fzAll, loA, hiA, elemOf, partsA, buildA, putCells, ↓reduceIte, reduceCtorEq, okCell, Nat.reduceAdd, Nat.reduceEqDiff, Nat.reduceSub, Nat.reduceMul, Nat.reduceLeDiff, Nat.reduceLT, Nat.reduceBEq, PV.scal, PV.scalL, SV.scal, SV.scalL, Ob.scal, PV.isCell, pure', resO]
    refine hN (i + 1, _, _, _) _ _ (by simp only; omega) (by simp only; omega) rfl (by rw [hal]; rfl)
  · have he : i = l.length := by omega
    have h1 : ¬ (i : Int) < l.length := by omega
    simp only [h1, ↓SP, SQ, Gam.add, stepM, callC, argC, lendO, nmBy, nmC, likeL, likeB, plainOb, offs, X, F, trP, trO, stepD, stepW, newA, SV.tr, SV.trL, fz, allP, Ob.tr, loadA, cellsA, SV.cells, binA, binI, eqOut, isSl, isPt, natOf, callee, snap, SV.refsL, SV.refs, thaw, fzAll, loA, hiA, elemOf, partsA, buildA, putCells, ↓reduceIte, reduceCtorEq, okCell, Nat.reduceAdd, Nat.reduceEqDiff, Nat.reduceSub, Nat.reduceMul, Nat.reduceLeDiff, Nat.reduceLT, Nat.reduceBEq, PV.scal, PV.scalL, SV.scal, SV.scalL, Ob.scal, PV.isCell, pure', resO]
    refine hR _ _ _ (by intro h; cases h) ?_
    simp only [↓SP, SQ, Gam.add, stepM, callC, argC, lendO, nmBy, nmC, likeL, likeB, plainOb, offs, X, F, trP, trO, stepD, stepW, newA, SV.tr, SV.trL, fz, allP, Ob.tr, loadA, cellsA, SV.cells, binA, binI, eqOut, isSl, isPt, natOf, callee, snap, SV.refsL, SV.refs, thaw, fzAll, loA, hiA, elemOf, partsA, buildA, putCells, ↓reduceIte, reduceCtorEq, okCell, Nat.reduceAdd, Nat.reduceEqDiff, Nat.reduceSub, Nat.reduceMul, Nat.reduceLeDiff, Nat.reduceLT, Nat.reduceBEq, PV.scal, PV.scalL, SV.scal, SV.scalL, Ob.scal, PV.isCell, pure', resO]
    have ht : (l.zip b).take i = l.zip b := by rw [he, ← hzl]; exact List.take_length
    exact finA_val (by simp [ht, endL, retA, rvA, List.mapM_cons, List.mapM_nil, Option.pure_def, Option.bind_eq_bind, Option.bind_some, Option.map_some, mkE_cons, mk_nil, mkO_cons, mkO_nil, loadA, ↓reduceIte, List.take_succ_cons, List.take_zero, List.drop_zero, List.drop_succ_cons, List.length_cons, List.length_nil, Nat.reduceAdd, Nat.reduceEqDiff, Nat.reduceLeDiff, Nat.zero_add, Nat.le_refl, reduceCtorEq, SV.tr, SV.trL, nmF, rn_nil, rn_cons1, rn_cons2, List.map_cons, List.map_nil, List.all_cons, List.all_nil, plainOb, SV.refsL, SV.refs, Ob.refs, X, F, List.range_succ, List.range_zero, List.nil_append, List.cons_append, List.isEmpty_nil, decide_true, Nat.reduceLT, Bool.and_self, Bool.and_true, and_self, and_true, List.getElem?_cons_zero, List.getElem?_cons_succ, List.nodup_cons, List.nodup_nil, List.mem_cons, List.not_mem_nil, not_false_eq_true, or_false, List.append_nil, mkO, setO_mk, List.mem_singleton]) (by simp [SV.tr, SV.trL])
end Go.Proofs.Ytnonkjcklgihhaa.Pam
