/- A part of the proof that stands in this folder. No condition of its own. -/
import Derived.Test.YtmjkdmlndbfdjaaR1D
set_option linter.unusedVariables false
set_option linter.unusedSimpArgs false
namespace Go.Proofs.Ytmjkdmlndbfdjaa
open Go Go.Proofs Go.Proofs.Ytmjkdmlndbfdjaa.Pam

/-- The chance that some k of m are false, in parts, as the machine counts. -/
def partsW (m k a b : Int) : Int := IntKind.i64.wrap (powW a k.toNat * powW (IntKind.i64.wrap (b - a)) (m - k).toNat)
def gParts : List SV → Option (SV × List Ob)
  | [.p (.int .i64 m), .p (.int .i64 k), .p (.agg [.int .i64 a, .int .i64 b])] => if 0 ≤ k ∧ k ≤ m ∧ m ≤ 12 then some (.p (.int .i64 (partsW m k a b)), []) else none
  | _ => none
def gThese : List SV → Option (SV × List Ob)
  | [.p (.agg [.int .i64 a, .int .i64 b]), .p (.int .i64 m), .p (.int .i64 k)] => if 0 ≤ k ∧ k ≤ m ∧ m ≤ 12 then some (.p (.int .i64 (partsW m k a b)), []) else none
  | _ => none
theorem gs34 : ∀ args r fs, gParts args = some (r, fs) → PC Try.prog 34 args [] r [] fs := by
  intro args r fs h
  unfold gParts at h; split at h
  case h_2 => cases h
  rename_i m k a b
  split at h
  case isFalse => cases h
  rename_i hn
  simp at h
  obtain ⟨rfl, rfl⟩ := h
  refine is34.go mixed (GS.none.add gs30) k34 o34 (by simp [a34]) ?_
  have h1 : IntKind.i64.wrap (m - k) = m - k := w_id (by omega) (by omega)
  have h2 : m - k ≤ 1000 := by omega
  have h3 : k ≤ 1000 := by omega
  simp only [a34, List.zipIdx_cons, List.zipIdx_nil, gPow, h1, h2, h3, Gam.add, ↓aw_reg, ↓aw_dreg, ↓aw_skip, ↓aw_ret, ↓aw_exit, ↓aw_seq, ↓aw_block, ↓aw_cond, ↓run_nil, bindD_some, bindW_some, ↓run_d, ↓run_w, ↓run_g, ↓rund_nil, ↓rund_d, ↓rund_g, nrm_mk, gd_b, gd_un, br_b, put_mk, put_no, mkE_cons, mk_nil, mkO_cons, mkO_nil, setO_mk, ev_t, ev_c, ev_f, keepE_mk, keepO_mkO, freezeE_mk, freezeO_mk, trP, trO, stepD, stepW, newA, List.map_cons, List.map_nil, SV.tr, SV.trL, fz, Ob.tr, Option.map_some, Option.map_none, Option.bind_some, Option.bind_none, loadA, cellsA, PV.cells, SV.cells, binA, binI, eqOut, natOf, callee, snap, SV.refsL, SV.refs, List.append_nil, List.nil_append, List.cons_append, thaw, resO_nil', fzAll, loA, hiA, lenA, buildA, putCells, List.mapM_cons, List.mapM_nil, Option.pure_def, Option.bind_eq_bind, ↓reduceIte, reduceCtorEq, ne_eq, not_false_eq_true, not_true_eq_false, true_or, or_true, List.length_cons, List.length_nil, List.take_succ_cons, List.take_zero, List.drop_succ_cons, List.drop_zero, List.getElem?_cons_zero, List.getElem?_cons_succ, List.set_cons_zero, List.set_cons_succ, Bool.not_true, Bool.not_false, okCell, List.all_cons, List.all_nil, Bool.and_self, Bool.and_true, Bool.true_and, Option.isSome_some, and_self, and_true, true_and, Nat.zero_add, Nat.add_zero, Nat.reduceAdd, Nat.reduceEqDiff, Nat.reduceSub, Nat.reduceMul, Nat.reduceLeDiff, ge_iff_le, gt_iff_lt, decide_true, decide_false, Bool.false_eq_true, beq_self_eq_true, Nat.le_refl, if_true, if_false, PV.scal, PV.scalL, SV.scal, SV.scalL, Ob.scal]
  exact finA_val (by simp [retA, rvA, List.mapM_cons, List.mapM_nil, Option.pure_def, Option.bind_eq_bind, Option.bind_some, Option.map_some, mkE_cons, mk_nil, mkO_cons, mkO_nil, loadA, ↓reduceIte, List.take_succ_cons, List.take_zero, List.drop_zero, List.drop_succ_cons, List.length_cons, List.length_nil, Nat.reduceAdd, Nat.reduceEqDiff, Nat.reduceLeDiff, Nat.zero_add, Nat.le_refl, reduceCtorEq, partsW]) (by simp [SV.tr])
theorem gs42 : ∀ args r fs, gThese args = some (r, fs) → PC Try.prog 42 args [] r [] fs := by
  intro args r fs h
  unfold gThese at h; split at h
  case h_2 => cases h
  rename_i a b m k
  split at h
  case isFalse => cases h
  rename_i hn
  simp at h
  obtain ⟨rfl, rfl⟩ := h
  refine is42.go mixed (GS.none.add gs32) k42 o42 (by simp [a42]) ?_
  have h1 : IntKind.i64.wrap (m - k) = m - k := w_id (by omega) (by omega)
  have h2 : m - k ≤ 1000 := by omega
  have h3 : k ≤ 1000 := by omega
  simp only [a42, List.zipIdx_cons, List.zipIdx_nil, gPow, h1, h2, h3, Gam.add, ↓aw_reg, ↓aw_dreg, ↓aw_skip, ↓aw_ret, ↓aw_exit, ↓aw_seq, ↓aw_block, ↓aw_cond, ↓run_nil, bindD_some, bindW_some, ↓run_d, ↓run_w, ↓run_g, ↓rund_nil, ↓rund_d, ↓rund_g, nrm_mk, gd_b, gd_un, br_b, put_mk, put_no, mkE_cons, mk_nil, mkO_cons, mkO_nil, setO_mk, ev_t, ev_c, ev_f, keepE_mk, keepO_mkO, freezeE_mk, freezeO_mk, trP, trO, stepD, stepW, newA, List.map_cons, List.map_nil, SV.tr, SV.trL, fz, Ob.tr, Option.map_some, Option.map_none, Option.bind_some, Option.bind_none, loadA, cellsA, PV.cells, SV.cells, binA, binI, eqOut, natOf, callee, snap, SV.refsL, SV.refs, List.append_nil, List.nil_append, List.cons_append, thaw, resO_nil', fzAll, loA, hiA, lenA, buildA, putCells, List.mapM_cons, List.mapM_nil, Option.pure_def, Option.bind_eq_bind, ↓reduceIte, reduceCtorEq, ne_eq, not_false_eq_true, not_true_eq_false, true_or, or_true, List.length_cons, List.length_nil, List.take_succ_cons, List.take_zero, List.drop_succ_cons, List.drop_zero, List.getElem?_cons_zero, List.getElem?_cons_succ, List.set_cons_zero, List.set_cons_succ, Bool.not_true, Bool.not_false, okCell, List.all_cons, List.all_nil, Bool.and_self, Bool.and_true, Bool.true_and, Option.isSome_some, and_self, and_true, true_and, Nat.zero_add, Nat.add_zero, Nat.reduceAdd, Nat.reduceEqDiff, Nat.reduceSub, Nat.reduceMul, Nat.reduceLeDiff, ge_iff_le, gt_iff_lt, decide_true, decide_false, Bool.false_eq_true, beq_self_eq_true, Nat.le_refl, if_true, if_false, PV.scal, PV.scalL, SV.scal, SV.scalL, Ob.scal]
  exact finA_val (by simp [retA, rvA, List.mapM_cons, List.mapM_nil, Option.pure_def, Option.bind_eq_bind, Option.bind_some, Option.map_some, mkE_cons, mk_nil, mkO_cons, mkO_nil, loadA, ↓reduceIte, List.take_succ_cons, List.take_zero, List.drop_zero, List.drop_succ_cons, List.length_cons, List.length_nil, Nat.reduceAdd, Nat.reduceEqDiff, Nat.reduceLeDiff, Nat.zero_add, Nat.le_refl, reduceCtorEq, partsW]) (by simp [SV.tr])
def anyW (m k a b : Int) : Int := IntKind.i64.wrap (waysW m k.toNat * partsW m k a b)
def gAny : List SV → Option (SV × List Ob)
  | [.p (.agg [.int .i64 a, .int .i64 b]), .p (.int .i64 m), .p (.int .i64 k)] => if 0 ≤ k ∧ k ≤ m ∧ m ≤ 12 then some (.p (.int .i64 (anyW m k a b)), []) else none
  | _ => none
theorem gs36 : ∀ args r fs, gAny args = some (r, fs) → PC Try.prog 36 args [] r [] fs := by
  intro args r fs h
  unfold gAny at h; split at h
  case h_2 => cases h
  rename_i a b m k
  split at h
  case isFalse => cases h
  rename_i hn
  simp at h
  obtain ⟨rfl, rfl⟩ := h
  refine is36.go mixed ((GS.none.add gs41).add gs42) k36 o36 (by simp [a36]) ?_
  have h3 : k ≤ 1000 := by omega
  simp only [a36, List.zipIdx_cons, List.zipIdx_nil, gWays, gThese, hn, h3, Gam.add, ↓aw_reg, ↓aw_dreg, ↓aw_skip, ↓aw_ret, ↓aw_exit, ↓aw_seq, ↓aw_block, ↓aw_cond, ↓run_nil, bindD_some, bindW_some, ↓run_d, ↓run_w, ↓run_g, ↓rund_nil, ↓rund_d, ↓rund_g, nrm_mk, gd_b, gd_un, br_b, put_mk, put_no, mkE_cons, mk_nil, mkO_cons, mkO_nil, setO_mk, ev_t, ev_c, ev_f, keepE_mk, keepO_mkO, freezeE_mk, freezeO_mk, trP, trO, stepD, stepW, newA, List.map_cons, List.map_nil, SV.tr, SV.trL, fz, Ob.tr, Option.map_some, Option.map_none, Option.bind_some, Option.bind_none, loadA, cellsA, PV.cells, SV.cells, binA, binI, eqOut, natOf, callee, snap, SV.refsL, SV.refs, List.append_nil, List.nil_append, List.cons_append, thaw, resO_nil', fzAll, loA, hiA, lenA, buildA, putCells, List.mapM_cons, List.mapM_nil, Option.pure_def, Option.bind_eq_bind, ↓reduceIte, reduceCtorEq, ne_eq, not_false_eq_true, not_true_eq_false, true_or, or_true, List.length_cons, List.length_nil, List.take_succ_cons, List.take_zero, List.drop_succ_cons, List.drop_zero, List.getElem?_cons_zero, List.getElem?_cons_succ, List.set_cons_zero, List.set_cons_succ, Bool.not_true, Bool.not_false, okCell, List.all_cons, List.all_nil, Bool.and_self, Bool.and_true, Bool.true_and, Option.isSome_some, and_self, and_true, true_and, Nat.zero_add, Nat.add_zero, Nat.reduceAdd, Nat.reduceEqDiff, Nat.reduceSub, Nat.reduceMul, Nat.reduceLeDiff, ge_iff_le, gt_iff_lt, decide_true, decide_false, Bool.false_eq_true, beq_self_eq_true, Nat.le_refl, if_true, if_false, PV.scal, PV.scalL, SV.scal, SV.scalL, Ob.scal]
  exact finA_val (by simp [retA, rvA, List.mapM_cons, List.mapM_nil, Option.pure_def, Option.bind_eq_bind, Option.bind_some, Option.map_some, mkE_cons, mk_nil, mkO_cons, mkO_nil, loadA, ↓reduceIte, List.take_succ_cons, List.take_zero, List.drop_zero, List.drop_succ_cons, List.length_cons, List.length_nil, Nat.reduceAdd, Nat.reduceEqDiff, Nat.reduceLeDiff, Nat.zero_add, Nat.le_refl, reduceCtorEq, anyW]) (by simp [SV.tr])
def sumW (m a b : Int) : Nat → Int
  | 0 => 0
  | i + 1 => IntKind.i64.wrap (sumW m a b i + anyW m i a b)
def gWithin : List SV → Option (SV × List Ob)
  | [.p (.int .i64 m), .p (.int .i64 k), .p (.agg [.int .i64 a, .int .i64 b])] => if 0 ≤ k ∧ k ≤ m ∧ m ≤ 12 then some (.p (.int .i64 (sumW m a b (k + 1).toNat)), []) else none
  | _ => none
def gWithin' : List SV → Option (SV × List Ob)
  | [.p (.agg [.int .i64 a, .int .i64 b]), .p (.int .i64 m), .p (.int .i64 k)] => if 0 ≤ k ∧ k ≤ m ∧ m ≤ 12 then some (.p (.int .i64 (sumW m a b (k + 1).toNat)), []) else none
  | _ => none
theorem gs37 : ∀ args r fs, gWithin args = some (r, fs) → PC Try.prog 37 args [] r [] fs := by
  intro args r fs h
  unfold gWithin at h; split at h
  case h_2 => cases h
  rename_i m k a b
  split at h
  case isFalse => cases h
  rename_i hn
  simp at h
  obtain ⟨rfl, rfl⟩ := h
  refine is37.go mixed ((GS.none.add gs33).add gs34) k37 o37 (by simp [a37]) ?_
  simp only [a37, List.zipIdx_cons, List.zipIdx_nil, Gam.add, ↓aw_reg, ↓aw_dreg, ↓aw_skip, ↓aw_ret, ↓aw_exit, ↓aw_seq, ↓aw_block, ↓aw_cond, ↓run_nil, bindD_some, bindW_some, ↓run_d, ↓run_w, ↓run_g, ↓rund_nil, ↓rund_d, ↓rund_g, nrm_mk, gd_b, gd_un, br_b, put_mk, put_no, mkE_cons, mk_nil, mkO_cons, mkO_nil, setO_mk, ev_t, ev_c, ev_f, keepE_mk, keepO_mkO, freezeE_mk, freezeO_mk, trP, trO, stepD, stepW, newA, List.map_cons, List.map_nil, SV.tr, SV.trL, fz, Ob.tr, Option.map_some, Option.map_none, Option.bind_some, Option.bind_none, loadA, cellsA, PV.cells, SV.cells, binA, binI, eqOut, natOf, callee, snap, SV.refsL, SV.refs, List.append_nil, List.nil_append, List.cons_append, thaw, resO_nil', fzAll, loA, hiA, lenA, buildA, putCells, List.mapM_cons, List.mapM_nil, Option.pure_def, Option.bind_eq_bind, ↓reduceIte, reduceCtorEq, ne_eq, not_false_eq_true, not_true_eq_false, true_or, or_true, List.length_cons, List.length_nil, List.take_succ_cons, List.take_zero, List.drop_succ_cons, List.drop_zero, List.getElem?_cons_zero, List.getElem?_cons_succ, List.set_cons_zero, List.set_cons_succ, Bool.not_true, Bool.not_false, okCell, List.all_cons, List.all_nil, Bool.and_self, Bool.and_true, Bool.true_and, Option.isSome_some, and_self, and_true, true_and, Nat.zero_add, Nat.add_zero, Nat.reduceAdd, Nat.reduceEqDiff, Nat.reduceSub, Nat.reduceMul, Nat.reduceLeDiff, ge_iff_le, gt_iff_lt, decide_true, decide_false, Bool.false_eq_true, beq_self_eq_true, Nat.le_refl, if_true, if_false, PV.scal, PV.scalL, SV.scal, SV.scalL, Ob.scal]
  refine loop_ind (fun s : Nat × SV => mkEnv [(0, .p (.int .i64 m)), (1, .p (.int .i64 k)), (2, .p (.agg [.int .i64 a, .int .i64 b])), (5, .bx 5 0), (6, .p (.int .i64 0)), (7, .p (.int .i64 (sumW m a b s.1))), (8, .p (.int .i64 s.1)), (11, s.2)]) (fun _ => mkO [(5, some (.box [.p (.int .i64 a), .p (.int .i64 b)]))]) (fun s => s.1 ≤ (k + 1).toNat) (fun s => (k + 1).toNat - s.1) ?_ (0, .junk) (by simp)
  rintro ⟨i, c⟩ hi R hR hN
  simp only at hi
  by_cases h : (i : Int) ≤ k
  · have hw : IntKind.i64.wrap ((i : Int) + 1) = ((i + 1 : Nat) : Int) := by rw [w_id (by omega) (by omega)]; omega
    have hc : (i : Int) ≤ 1000 := by omega
    have hp : 0 ≤ (i : Int) ∧ (i : Int) ≤ m ∧ m ≤ 12 := by omega
    simp only [h, hw, hc, hp, gWays, gParts, Gam.add, ↓aw_reg, ↓aw_dreg, ↓aw_skip, ↓aw_ret, ↓aw_exit, ↓aw_seq, ↓aw_block, ↓aw_cond, ↓run_nil, bindD_some, bindW_some, ↓run_d, ↓run_w, ↓run_g, ↓rund_nil, ↓rund_d, ↓rund_g, nrm_mk, gd_b, gd_un, br_b, put_mk, put_no, mkE_cons, mk_nil, mkO_cons, mkO_nil, setO_mk, ev_t, ev_c, ev_f, keepE_mk, keepO_mkO, freezeE_mk, freezeO_mk, trP, trO, stepD, stepW, newA, List.map_cons, List.map_nil, SV.tr, SV.trL, fz, Ob.tr, Option.map_some, Option.map_none, Option.bind_some, Option.bind_none, loadA, cellsA, PV.cells, SV.cells, binA, binI, eqOut, natOf, callee, snap, SV.refsL, SV.refs, List.append_nil, List.nil_append, List.cons_append, thaw, resO_nil', fzAll, loA, hiA, lenA, buildA, putCells, List.mapM_cons, List.mapM_nil, Option.pure_def, Option.bind_eq_bind, ↓reduceIte, reduceCtorEq, ne_eq, not_false_eq_true, not_true_eq_false, true_or, or_true, List.length_cons, List.length_nil, List.take_succ_cons, List.take_zero, List.drop_succ_cons, List.drop_zero, List.getElem?_cons_zero, List.getElem?_cons_succ, List.set_cons_zero, List.set_cons_succ, Bool.not_true, Bool.not_false, okCell, List.all_cons, List.all_nil, Bool.and_self, Bool.and_true, Bool.true_and, Option.isSome_some, and_self, and_true, true_and, Nat.zero_add, Nat.add_zero, Nat.reduceAdd, Nat.reduceEqDiff, Nat.reduceSub, Nat.reduceMul, Nat.reduceLeDiff, ge_iff_le, gt_iff_lt, decide_true, decide_false, Bool.false_eq_true, beq_self_eq_true, Nat.le_refl, if_true, if_false, PV.scal, PV.scalL, SV.scal, SV.scalL, Ob.scal]
    exact hN (i + 1, .p (.bool true)) (by simp only; omega) (by simp only; omega)
  · have he : i = (k + 1).toNat := by omega
    simp only [h, Gam.add, ↓aw_reg, ↓aw_dreg, ↓aw_skip, ↓aw_ret, ↓aw_exit, ↓aw_seq, ↓aw_block, ↓aw_cond, ↓run_nil, bindD_some, bindW_some, ↓run_d, ↓run_w, ↓run_g, ↓rund_nil, ↓rund_d, ↓rund_g, nrm_mk, gd_b, gd_un, br_b, put_mk, put_no, mkE_cons, mk_nil, mkO_cons, mkO_nil, setO_mk, ev_t, ev_c, ev_f, keepE_mk, keepO_mkO, freezeE_mk, freezeO_mk, trP, trO, stepD, stepW, newA, List.map_cons, List.map_nil, SV.tr, SV.trL, fz, Ob.tr, Option.map_some, Option.map_none, Option.bind_some, Option.bind_none, loadA, cellsA, PV.cells, SV.cells, binA, binI, eqOut, natOf, callee, snap, SV.refsL, SV.refs, List.append_nil, List.nil_append, List.cons_append, thaw, resO_nil', fzAll, loA, hiA, lenA, buildA, putCells, List.mapM_cons, List.mapM_nil, Option.pure_def, Option.bind_eq_bind, ↓reduceIte, reduceCtorEq, ne_eq, not_false_eq_true, not_true_eq_false, true_or, or_true, List.length_cons, List.length_nil, List.take_succ_cons, List.take_zero, List.drop_succ_cons, List.drop_zero, List.getElem?_cons_zero, List.getElem?_cons_succ, List.set_cons_zero, List.set_cons_succ, Bool.not_true, Bool.not_false, okCell, List.all_cons, List.all_nil, Bool.and_self, Bool.and_true, Bool.true_and, Option.isSome_some, and_self, and_true, true_and, Nat.zero_add, Nat.add_zero, Nat.reduceAdd, Nat.reduceEqDiff, Nat.reduceSub, Nat.reduceMul, Nat.reduceLeDiff, ge_iff_le, gt_iff_lt, decide_true, decide_false, Bool.false_eq_true, beq_self_eq_true, Nat.le_refl, if_true, if_false, PV.scal, PV.scalL, SV.scal, SV.scalL, Ob.scal]
    refine hR _ _ _ (by intro h; cases h) ?_
    simp only [Gam.add, ↓aw_reg, ↓aw_dreg, ↓aw_skip, ↓aw_ret, ↓aw_exit, ↓aw_seq, ↓aw_block, ↓aw_cond, ↓run_nil, bindD_some, bindW_some, ↓run_d, ↓run_w, ↓run_g, ↓rund_nil, ↓rund_d, ↓rund_g, nrm_mk, gd_b, gd_un, br_b, put_mk, put_no, mkE_cons, mk_nil, mkO_cons, mkO_nil, setO_mk, ev_t, ev_c, ev_f, keepE_mk, keepO_mkO, freezeE_mk, freezeO_mk, trP, trO, stepD, stepW, newA, List.map_cons, List.map_nil, SV.tr, SV.trL, fz, Ob.tr, Option.map_some, Option.map_none, Option.bind_some, Option.bind_none, loadA, cellsA, PV.cells, SV.cells, binA, binI, eqOut, natOf, callee, snap, SV.refsL, SV.refs, List.append_nil, List.nil_append, List.cons_append, thaw, resO_nil', fzAll, loA, hiA, lenA, buildA, putCells, List.mapM_cons, List.mapM_nil, Option.pure_def, Option.bind_eq_bind, ↓reduceIte, reduceCtorEq, ne_eq, not_false_eq_true, not_true_eq_false, true_or, or_true, List.length_cons, List.length_nil, List.take_succ_cons, List.take_zero, List.drop_succ_cons, List.drop_zero, List.getElem?_cons_zero, List.getElem?_cons_succ, List.set_cons_zero, List.set_cons_succ, Bool.not_true, Bool.not_false, okCell, List.all_cons, List.all_nil, Bool.and_self, Bool.and_true, Bool.true_and, Option.isSome_some, and_self, and_true, true_and, Nat.zero_add, Nat.add_zero, Nat.reduceAdd, Nat.reduceEqDiff, Nat.reduceSub, Nat.reduceMul, Nat.reduceLeDiff, ge_iff_le, gt_iff_lt, decide_true, decide_false, Bool.false_eq_true, beq_self_eq_true, Nat.le_refl, if_true, if_false, PV.scal, PV.scalL, SV.scal, SV.scalL, Ob.scal]
    exact finA_val (by simp [retA, rvA, List.mapM_cons, List.mapM_nil, Option.pure_def, Option.bind_eq_bind, Option.bind_some, Option.map_some, mkE_cons, mk_nil, mkO_cons, mkO_nil, loadA, ↓reduceIte, List.take_succ_cons, List.take_zero, List.drop_zero, List.drop_succ_cons, List.length_cons, List.length_nil, Nat.reduceAdd, Nat.reduceEqDiff, Nat.reduceLeDiff, Nat.zero_add, Nat.le_refl, reduceCtorEq, he]) (by simp [SV.tr])
theorem gs38 : ∀ args r fs, gWithin' args = some (r, fs) → PC Try.prog 38 args [] r [] fs := by
  intro args r fs h
  unfold gWithin' at h; split at h
  case h_2 => cases h
  rename_i a b m k
  split at h
  case isFalse => cases h
  rename_i hn
  simp at h
  obtain ⟨rfl, rfl⟩ := h
  refine is38.go mixed (GS.none.add gs36) k38 o38 (by simp [a38]) ?_
  have hk : IntKind.i64.wrap (k + 1) = k + 1 := w_id (by omega) (by omega)
  simp only [a38, List.zipIdx_cons, List.zipIdx_nil, hk, Gam.add, ↓aw_reg, ↓aw_dreg, ↓aw_skip, ↓aw_ret, ↓aw_exit, ↓aw_seq, ↓aw_block, ↓aw_cond, ↓run_nil, bindD_some, bindW_some, ↓run_d, ↓run_w, ↓run_g, ↓rund_nil, ↓rund_d, ↓rund_g, nrm_mk, gd_b, gd_un, br_b, put_mk, put_no, mkE_cons, mk_nil, mkO_cons, mkO_nil, setO_mk, ev_t, ev_c, ev_f, keepE_mk, keepO_mkO, freezeE_mk, freezeO_mk, trP, trO, stepD, stepW, newA, List.map_cons, List.map_nil, SV.tr, SV.trL, fz, Ob.tr, Option.map_some, Option.map_none, Option.bind_some, Option.bind_none, loadA, cellsA, PV.cells, SV.cells, binA, binI, eqOut, natOf, callee, snap, SV.refsL, SV.refs, List.append_nil, List.nil_append, List.cons_append, thaw, resO_nil', fzAll, loA, hiA, lenA, buildA, putCells, List.mapM_cons, List.mapM_nil, Option.pure_def, Option.bind_eq_bind, ↓reduceIte, reduceCtorEq, ne_eq, not_false_eq_true, not_true_eq_false, true_or, or_true, List.length_cons, List.length_nil, List.take_succ_cons, List.take_zero, List.drop_succ_cons, List.drop_zero, List.getElem?_cons_zero, List.getElem?_cons_succ, List.set_cons_zero, List.set_cons_succ, Bool.not_true, Bool.not_false, okCell, List.all_cons, List.all_nil, Bool.and_self, Bool.and_true, Bool.true_and, Option.isSome_some, and_self, and_true, true_and, Nat.zero_add, Nat.add_zero, Nat.reduceAdd, Nat.reduceEqDiff, Nat.reduceSub, Nat.reduceMul, Nat.reduceLeDiff, ge_iff_le, gt_iff_lt, decide_true, decide_false, Bool.false_eq_true, beq_self_eq_true, Nat.le_refl, if_true, if_false, PV.scal, PV.scalL, SV.scal, SV.scalL, Ob.scal]
  refine loop_ind (fun s : Nat × SV × SV => mkEnv [(0, .p (.agg [.int .i64 a, .int .i64 b])), (1, .p (.int .i64 m)), (2, .p (.int .i64 k)), (3, .bx 3 0), (6, .p (.int .i64 0)), (7, .p (.int .i64 (sumW m a b s.1))), (8, s.2.1), (10, .p (.int .i64 (k + 1))), (11, .p (.int .i64 s.1)), (12, s.2.2)]) (fun _ => mkO [(3, some (.box [.p (.int .i64 a), .p (.int .i64 b)]))]) (fun s => s.1 ≤ (k + 1).toNat) (fun s => (k + 1).toNat - s.1) ?_ (0, .junk, .junk) (by simp)
  rintro ⟨i, c, c'⟩ hi R hR hN
  simp only at hi
  by_cases h : (i : Int) < k + 1
  · have hw : IntKind.i64.wrap ((i : Int) + 1) = ((i + 1 : Nat) : Int) := by rw [w_id (by omega) (by omega)]; omega
    have hp : 0 ≤ (i : Int) ∧ (i : Int) ≤ m ∧ m ≤ 12 := by omega
    simp only [h, hw, hp, gAny, Gam.add, ↓aw_reg, ↓aw_dreg, ↓aw_skip, ↓aw_ret, ↓aw_exit, ↓aw_seq, ↓aw_block, ↓aw_cond, ↓run_nil, bindD_some, bindW_some, ↓run_d, ↓run_w, ↓run_g, ↓rund_nil, ↓rund_d, ↓rund_g, nrm_mk, gd_b, gd_un, br_b, put_mk, put_no, mkE_cons, mk_nil, mkO_cons, mkO_nil, setO_mk, ev_t, ev_c, ev_f, keepE_mk, keepO_mkO, freezeE_mk, freezeO_mk, trP, trO, stepD, stepW, newA, List.map_cons, List.map_nil, SV.tr, SV.trL, fz, Ob.tr, Option.map_some, Option.map_none, Option.bind_some, Option.bind_none, loadA, cellsA, PV.cells, SV.cells, binA, binI, eqOut, natOf, callee, snap, SV.refsL, SV.refs, List.append_nil, List.nil_append, List.cons_append, thaw, resO_nil', fzAll, loA, hiA, lenA, buildA, putCells, List.mapM_cons, List.mapM_nil, Option.pure_def, Option.bind_eq_bind, ↓reduceIte, reduceCtorEq, ne_eq, not_false_eq_true, not_true_eq_false, true_or, or_true, List.length_cons, List.length_nil, List.take_succ_cons, List.take_zero, List.drop_succ_cons, List.drop_zero, List.getElem?_cons_zero, List.getElem?_cons_succ, List.set_cons_zero, List.set_cons_succ, Bool.not_true, Bool.not_false, okCell, List.all_cons, List.all_nil, Bool.and_self, Bool.and_true, Bool.true_and, Option.isSome_some, and_self, and_true, true_and, Nat.zero_add, Nat.add_zero, Nat.reduceAdd, Nat.reduceEqDiff, Nat.reduceSub, Nat.reduceMul, Nat.reduceLeDiff, ge_iff_le, gt_iff_lt, decide_true, decide_false, Bool.false_eq_true, beq_self_eq_true, Nat.le_refl, if_true, if_false, PV.scal, PV.scalL, SV.scal, SV.scalL, Ob.scal]
    exact hN (i + 1, .p (.int .i64 i), .p (.bool true)) (by simp only; omega) (by simp only; omega)
  · have he : i = (k + 1).toNat := by omega
    simp only [h, Gam.add, ↓aw_reg, ↓aw_dreg, ↓aw_skip, ↓aw_ret, ↓aw_exit, ↓aw_seq, ↓aw_block, ↓aw_cond, ↓run_nil, bindD_some, bindW_some, ↓run_d, ↓run_w, ↓run_g, ↓rund_nil, ↓rund_d, ↓rund_g, nrm_mk, gd_b, gd_un, br_b, put_mk, put_no, mkE_cons, mk_nil, mkO_cons, mkO_nil, setO_mk, ev_t, ev_c, ev_f, keepE_mk, keepO_mkO, freezeE_mk, freezeO_mk, trP, trO, stepD, stepW, newA, List.map_cons, List.map_nil, SV.tr, SV.trL, fz, Ob.tr, Option.map_some, Option.map_none, Option.bind_some, Option.bind_none, loadA, cellsA, PV.cells, SV.cells, binA, binI, eqOut, natOf, callee, snap, SV.refsL, SV.refs, List.append_nil, List.nil_append, List.cons_append, thaw, resO_nil', fzAll, loA, hiA, lenA, buildA, putCells, List.mapM_cons, List.mapM_nil, Option.pure_def, Option.bind_eq_bind, ↓reduceIte, reduceCtorEq, ne_eq, not_false_eq_true, not_true_eq_false, true_or, or_true, List.length_cons, List.length_nil, List.take_succ_cons, List.take_zero, List.drop_succ_cons, List.drop_zero, List.getElem?_cons_zero, List.getElem?_cons_succ, List.set_cons_zero, List.set_cons_succ, Bool.not_true, Bool.not_false, okCell, List.all_cons, List.all_nil, Bool.and_self, Bool.and_true, Bool.true_and, Option.isSome_some, and_self, and_true, true_and, Nat.zero_add, Nat.add_zero, Nat.reduceAdd, Nat.reduceEqDiff, Nat.reduceSub, Nat.reduceMul, Nat.reduceLeDiff, ge_iff_le, gt_iff_lt, decide_true, decide_false, Bool.false_eq_true, beq_self_eq_true, Nat.le_refl, if_true, if_false, PV.scal, PV.scalL, SV.scal, SV.scalL, Ob.scal]
    refine hR _ _ _ (by intro h; cases h) ?_
    simp only [Gam.add, ↓aw_reg, ↓aw_dreg, ↓aw_skip, ↓aw_ret, ↓aw_exit, ↓aw_seq, ↓aw_block, ↓aw_cond, ↓run_nil, bindD_some, bindW_some, ↓run_d, ↓run_w, ↓run_g, ↓rund_nil, ↓rund_d, ↓rund_g, nrm_mk, gd_b, gd_un, br_b, put_mk, put_no, mkE_cons, mk_nil, mkO_cons, mkO_nil, setO_mk, ev_t, ev_c, ev_f, keepE_mk, keepO_mkO, freezeE_mk, freezeO_mk, trP, trO, stepD, stepW, newA, List.map_cons, List.map_nil, SV.tr, SV.trL, fz, Ob.tr, Option.map_some, Option.map_none, Option.bind_some, Option.bind_none, loadA, cellsA, PV.cells, SV.cells, binA, binI, eqOut, natOf, callee, snap, SV.refsL, SV.refs, List.append_nil, List.nil_append, List.cons_append, thaw, resO_nil', fzAll, loA, hiA, lenA, buildA, putCells, List.mapM_cons, List.mapM_nil, Option.pure_def, Option.bind_eq_bind, ↓reduceIte, reduceCtorEq, ne_eq, not_false_eq_true, not_true_eq_false, true_or, or_true, List.length_cons, List.length_nil, List.take_succ_cons, List.take_zero, List.drop_succ_cons, List.drop_zero, List.getElem?_cons_zero, List.getElem?_cons_succ, List.set_cons_zero, List.set_cons_succ, Bool.not_true, Bool.not_false, okCell, List.all_cons, List.all_nil, Bool.and_self, Bool.and_true, Bool.true_and, Option.isSome_some, and_self, and_true, true_and, Nat.zero_add, Nat.add_zero, Nat.reduceAdd, Nat.reduceEqDiff, Nat.reduceSub, Nat.reduceMul, Nat.reduceLeDiff, ge_iff_le, gt_iff_lt, decide_true, decide_false, Bool.false_eq_true, beq_self_eq_true, Nat.le_refl, if_true, if_false, PV.scal, PV.scalL, SV.scal, SV.scalL, Ob.scal]
    exact finA_val (by simp [retA, rvA, List.mapM_cons, List.mapM_nil, Option.pure_def, Option.bind_eq_bind, Option.bind_some, Option.map_some, mkE_cons, mk_nil, mkO_cons, mkO_nil, loadA, ↓reduceIte, List.take_succ_cons, List.take_zero, List.drop_zero, List.drop_succ_cons, List.length_cons, List.length_nil, Nat.reduceAdd, Nat.reduceEqDiff, Nat.reduceLeDiff, Nat.zero_add, Nat.le_refl, reduceCtorEq, he]) (by simp [SV.tr])
def majW (m a b : Int) : Int := sumW m a b ((m - 1).tdiv 2 + 1).toNat
def gMaj : List SV → Option (SV × List Ob)
  | [.p (.int .i64 m), .p (.agg [.int .i64 a, .int .i64 b])] => if 1 ≤ m ∧ m ≤ 12 then some (.p (.int .i64 (majW m a b)), []) else none
  | _ => none
def gMaj' : List SV → Option (SV × List Ob)
  | [.p (.agg [.int .i64 a, .int .i64 b]), .p (.int .i64 m)] => if 1 ≤ m ∧ m ≤ 12 then some (.p (.int .i64 (majW m a b)), []) else none
  | _ => none
theorem half {m : Int} (h : 1 ≤ m ∧ m ≤ 12) : IntKind.i64.wrap (m - 1) = m - 1 ∧ IntKind.i64.wrap ((m - 1).tdiv 2) = (m - 1).tdiv 2 ∧ (0 ≤ (m - 1).tdiv 2 ∧ (m - 1).tdiv 2 ≤ m ∧ m ≤ 12) := by
  have h1 : (m - 1).tdiv 2 = (m - 1) / 2 := Int.tdiv_eq_ediv_of_nonneg (by omega)
  rw [h1]
  exact ⟨w_id (by omega) (by omega), w_id (by omega) (by omega), by omega, by omega, by omega⟩
theorem gs29 : ∀ args r fs, gMaj args = some (r, fs) → PC Try.prog 29 args [] r [] fs := by
  intro args r fs h
  unfold gMaj at h; split at h
  case h_2 => cases h
  rename_i m a b
  split at h
  case isFalse => cases h
  rename_i hn
  simp at h
  obtain ⟨rfl, rfl⟩ := h
  refine is29.go mixed (GS.none.add gs37) k29 o29 (by simp [a29]) ?_
  obtain ⟨h1, h2, h3⟩ := half hn
  have h0 : ¬ (2 : Int) = 0 := by decide
  simp only [a29, List.zipIdx_cons, List.zipIdx_nil, gWithin, h0, h1, h2, h3, Gam.add, ↓aw_reg, ↓aw_dreg, ↓aw_skip, ↓aw_ret, ↓aw_exit, ↓aw_seq, ↓aw_block, ↓aw_cond, ↓run_nil, bindD_some, bindW_some, ↓run_d, ↓run_w, ↓run_g, ↓rund_nil, ↓rund_d, ↓rund_g, nrm_mk, gd_b, gd_un, br_b, put_mk, put_no, mkE_cons, mk_nil, mkO_cons, mkO_nil, setO_mk, ev_t, ev_c, ev_f, keepE_mk, keepO_mkO, freezeE_mk, freezeO_mk, trP, trO, stepD, stepW, newA, List.map_cons, List.map_nil, SV.tr, SV.trL, fz, Ob.tr, Option.map_some, Option.map_none, Option.bind_some, Option.bind_none, loadA, cellsA, PV.cells, SV.cells, binA, binI, eqOut, natOf, callee, snap, SV.refsL, SV.refs, List.append_nil, List.nil_append, List.cons_append, thaw, resO_nil', fzAll, loA, hiA, lenA, buildA, putCells, List.mapM_cons, List.mapM_nil, Option.pure_def, Option.bind_eq_bind, ↓reduceIte, reduceCtorEq, ne_eq, not_false_eq_true, not_true_eq_false, true_or, or_true, List.length_cons, List.length_nil, List.take_succ_cons, List.take_zero, List.drop_succ_cons, List.drop_zero, List.getElem?_cons_zero, List.getElem?_cons_succ, List.set_cons_zero, List.set_cons_succ, Bool.not_true, Bool.not_false, okCell, List.all_cons, List.all_nil, Bool.and_self, Bool.and_true, Bool.true_and, Option.isSome_some, and_self, and_true, true_and, Nat.zero_add, Nat.add_zero, Nat.reduceAdd, Nat.reduceEqDiff, Nat.reduceSub, Nat.reduceMul, Nat.reduceLeDiff, ge_iff_le, gt_iff_lt, decide_true, decide_false, Bool.false_eq_true, beq_self_eq_true, Nat.le_refl, if_true, if_false, PV.scal, PV.scalL, SV.scal, SV.scalL, Ob.scal]
  exact finA_val (by simp [retA, rvA, List.mapM_cons, List.mapM_nil, Option.pure_def, Option.bind_eq_bind, Option.bind_some, Option.map_some, mkE_cons, mk_nil, mkO_cons, mkO_nil, loadA, ↓reduceIte, List.take_succ_cons, List.take_zero, List.drop_zero, List.drop_succ_cons, List.length_cons, List.length_nil, Nat.reduceAdd, Nat.reduceEqDiff, Nat.reduceLeDiff, Nat.zero_add, Nat.le_refl, reduceCtorEq, majW]) (by simp [SV.tr])
theorem gs31 : ∀ args r fs, gMaj' args = some (r, fs) → PC Try.prog 31 args [] r [] fs := by
  intro args r fs h
  unfold gMaj' at h; split at h
  case h_2 => cases h
  rename_i a b m
  split at h
  case isFalse => cases h
  rename_i hn
  simp at h
  obtain ⟨rfl, rfl⟩ := h
  refine is31.go mixed (GS.none.add gs38) k31 o31 (by simp [a31]) ?_
  obtain ⟨h1, h2, h3⟩ := half hn
  have h0 : ¬ (2 : Int) = 0 := by decide
  simp only [a31, List.zipIdx_cons, List.zipIdx_nil, gWithin', h0, h1, h2, h3, Gam.add, ↓aw_reg, ↓aw_dreg, ↓aw_skip, ↓aw_ret, ↓aw_exit, ↓aw_seq, ↓aw_block, ↓aw_cond, ↓run_nil, bindD_some, bindW_some, ↓run_d, ↓run_w, ↓run_g, ↓rund_nil, ↓rund_d, ↓rund_g, nrm_mk, gd_b, gd_un, br_b, put_mk, put_no, mkE_cons, mk_nil, mkO_cons, mkO_nil, setO_mk, ev_t, ev_c, ev_f, keepE_mk, keepO_mkO, freezeE_mk, freezeO_mk, trP, trO, stepD, stepW, newA, List.map_cons, List.map_nil, SV.tr, SV.trL, fz, Ob.tr, Option.map_some, Option.map_none, Option.bind_some, Option.bind_none, loadA, cellsA, PV.cells, SV.cells, binA, binI, eqOut, natOf, callee, snap, SV.refsL, SV.refs, List.append_nil, List.nil_append, List.cons_append, thaw, resO_nil', fzAll, loA, hiA, lenA, buildA, putCells, List.mapM_cons, List.mapM_nil, Option.pure_def, Option.bind_eq_bind, ↓reduceIte, reduceCtorEq, ne_eq, not_false_eq_true, not_true_eq_false, true_or, or_true, List.length_cons, List.length_nil, List.take_succ_cons, List.take_zero, List.drop_succ_cons, List.drop_zero, List.getElem?_cons_zero, List.getElem?_cons_succ, List.set_cons_zero, List.set_cons_succ, Bool.not_true, Bool.not_false, okCell, List.all_cons, List.all_nil, Bool.and_self, Bool.and_true, Bool.true_and, Option.isSome_some, and_self, and_true, true_and, Nat.zero_add, Nat.add_zero, Nat.reduceAdd, Nat.reduceEqDiff, Nat.reduceSub, Nat.reduceMul, Nat.reduceLeDiff, ge_iff_le, gt_iff_lt, decide_true, decide_false, Bool.false_eq_true, beq_self_eq_true, Nat.le_refl, if_true, if_false, PV.scal, PV.scalL, SV.scal, SV.scalL, Ob.scal]
  exact finA_val (by simp [retA, rvA, List.mapM_cons, List.mapM_nil, Option.pure_def, Option.bind_eq_bind, Option.bind_some, Option.map_some, mkE_cons, mk_nil, mkO_cons, mkO_nil, loadA, ↓reduceIte, List.take_succ_cons, List.take_zero, List.drop_zero, List.drop_succ_cons, List.length_cons, List.length_nil, Nat.reduceAdd, Nat.reduceEqDiff, Nat.reduceLeDiff, Nat.zero_add, Nat.le_refl, reduceCtorEq, majW]) (by simp [SV.tr])
end Go.Proofs.Ytmjkdmlndbfdjaa
