/- A part of the proof that stands in this folder. No condition of its own. -/
import Derived.Test.YtmjkdmlndbfdjaaR1E
set_option linter.unusedVariables false
set_option linter.unusedSimpArgs false
namespace Go.Proofs.Ytmjkdmlndbfdjaa
open Go Go.Proofs Go.Proofs.Ytmjkdmlndbfdjaa.Pam

def gMost : List SV → Option (SV × List Ob)
  | [.p (.int .i64 a), .p (.int .i64 b)] => some (.p (.int .i64 (if b < a then a else b)), [])
  | _ => none
theorem gs40 : ∀ args r fs, gMost args = some (r, fs) → PC Try.prog 40 args [] r [] fs := by
  intro args r fs h
  unfold gMost at h; split at h
  case h_2 => cases h
  rename_i a b
  simp at h
  obtain ⟨rfl, rfl⟩ := h
  refine is40.go mixed GS.none k40 o40 (by simp [a40]) ?_
  by_cases h : b < a <;>
  simp only [h, a40, List.zipIdx_cons, List.zipIdx_nil, Gam.add, ↓aw_reg, ↓aw_dreg, ↓aw_skip, ↓aw_ret, ↓aw_exit, ↓aw_seq, ↓aw_block, ↓aw_cond, ↓run_nil, bindD_some, bindW_some, ↓run_d, ↓run_w, ↓run_g, ↓rund_nil, ↓rund_d, ↓rund_g, nrm_mk, gd_b, gd_un, br_b, put_mk, put_no, mkE_cons, mk_nil, mkO_cons, mkO_nil, setO_mk, ev_t, ev_c, ev_f, keepE_mk, keepO_mkO, freezeE_mk, freezeO_mk, trP, trO, stepD, stepW, newA, List.map_cons, List.map_nil, SV.tr, SV.trL, fz, Ob.tr, Option.map_some, Option.map_none, Option.bind_some, Option.bind_none, loadA, cellsA, PV.cells, SV.cells, binA, binI, eqOut, natOf, callee, snap, SV.refsL, SV.refs, List.append_nil, List.nil_append, List.cons_append, thaw, resO_nil', fzAll, loA, hiA, lenA, buildA, putCells, List.mapM_cons, List.mapM_nil, Option.pure_def, Option.bind_eq_bind, ↓reduceIte, reduceCtorEq, ne_eq, not_false_eq_true, not_true_eq_false, true_or, or_true, List.length_cons, List.length_nil, List.take_succ_cons, List.take_zero, List.drop_succ_cons, List.drop_zero, List.getElem?_cons_zero, List.getElem?_cons_succ, List.set_cons_zero, List.set_cons_succ, Bool.not_true, Bool.not_false, okCell, List.all_cons, List.all_nil, Bool.and_self, Bool.and_true, Bool.true_and, Option.isSome_some, and_self, and_true, true_and, Nat.zero_add, Nat.add_zero, Nat.reduceAdd, Nat.reduceEqDiff, Nat.reduceSub, Nat.reduceMul, Nat.reduceLeDiff, ge_iff_le, gt_iff_lt, decide_true, decide_false, Bool.false_eq_true, beq_self_eq_true, Nat.le_refl, if_true, if_false, PV.scal, PV.scalL, SV.scal, SV.scalL, Ob.scal] <;>
  exact finA_val (by simp [retA, rvA, List.mapM_cons, List.mapM_nil, Option.pure_def, Option.bind_eq_bind, Option.bind_some, Option.map_some, mkE_cons, mk_nil, mkO_cons, mkO_nil, loadA, ↓reduceIte, List.take_succ_cons, List.take_zero, List.drop_zero, List.drop_succ_cons, List.length_cons, List.length_nil, Nat.reduceAdd, Nat.reduceEqDiff, Nat.reduceLeDiff, Nat.zero_add, Nat.le_refl, reduceCtorEq]) (by simp [SV.tr])

theorem gcd_step (x y : Nat) : Nat.gcd y (x % y) = Nat.gcd x y := by rw [Nat.gcd_comm y, ← Nat.gcd_rec y x, Nat.gcd_comm]

/-- A fraction without a common divisor. -/
def cutX (a b : Int) : Int := IntKind.i64.wrap (a.tdiv (Nat.gcd a.toNat b.toNat : Nat))
def cutSV (a b : Int) : SV := .ag [.p (.int .i64 (cutX a b)), .p (.int .i64 (IntKind.i64.wrap (b.tdiv (Nat.gcd a.toNat b.toNat : Nat))))]
def gCut : List SV → Option (SV × List Ob)
  | [.p (.int .i64 a), .p (.int .i64 b)] => if 0 ≤ a ∧ 0 < b then some (cutSV a b, []) else none
  | _ => none
theorem gs26 : ∀ args r fs, gCut args = some (r, fs) → PC Try.prog 26 args [] r [] fs := by
  intro args r fs h
  unfold gCut at h; split at h
  case h_2 => cases h
  rename_i a b
  split at h
  case isFalse => cases h
  rename_i hn
  simp at h
  obtain ⟨rfl, rfl⟩ := h
  obtain ⟨A, rfl⟩ := Int.eq_ofNat_of_zero_le hn.1
  obtain ⟨B, rfl⟩ := Int.eq_ofNat_of_zero_le (Int.le_of_lt hn.2)
  have hB : 0 < B := by omega
  refine is26.go mixed (GS.none.add gs40) k26 o26 (by simp [a26]) ?_
  simp only [a26, List.zipIdx_cons, List.zipIdx_nil, Gam.add, ↓aw_reg, ↓aw_dreg, ↓aw_skip, ↓aw_ret, ↓aw_exit, ↓aw_seq, ↓aw_block, ↓aw_cond, ↓run_nil, bindD_some, bindW_some, ↓run_d, ↓run_w, ↓run_g, ↓rund_nil, ↓rund_d, ↓rund_g, nrm_mk, gd_b, gd_un, br_b, put_mk, put_no, mkE_cons, mk_nil, mkO_cons, mkO_nil, setO_mk, ev_t, ev_c, ev_f, keepE_mk, keepO_mkO, freezeE_mk, freezeO_mk, trP, trO, stepD, stepW, newA, List.map_cons, List.map_nil, SV.tr, SV.trL, fz, Ob.tr, Option.map_some, Option.map_none, Option.bind_some, Option.bind_none, loadA, cellsA, PV.cells, SV.cells, binA, binI, eqOut, natOf, callee, snap, SV.refsL, SV.refs, List.append_nil, List.nil_append, List.cons_append, thaw, resO_nil', fzAll, loA, hiA, lenA, buildA, putCells, List.mapM_cons, List.mapM_nil, Option.pure_def, Option.bind_eq_bind, ↓reduceIte, reduceCtorEq, ne_eq, not_false_eq_true, not_true_eq_false, true_or, or_true, List.length_cons, List.length_nil, List.take_succ_cons, List.take_zero, List.drop_succ_cons, List.drop_zero, List.getElem?_cons_zero, List.getElem?_cons_succ, List.set_cons_zero, List.set_cons_succ, Bool.not_true, Bool.not_false, okCell, List.all_cons, List.all_nil, Bool.and_self, Bool.and_true, Bool.true_and, Option.isSome_some, and_self, and_true, true_and, Nat.zero_add, Nat.add_zero, Nat.reduceAdd, Nat.reduceEqDiff, Nat.reduceSub, Nat.reduceMul, Nat.reduceLeDiff, ge_iff_le, gt_iff_lt, decide_true, decide_false, Bool.false_eq_true, beq_self_eq_true, Nat.le_refl, if_true, if_false, PV.scal, PV.scalL, SV.scal, SV.scalL, Ob.scal]
  refine loop_ind (fun s : Nat × Nat × SV => mkEnv [(0, .p (.int .i64 A)), (1, .p (.int .i64 B)), (4, .bx 4 0), (5, .p (.int .i64 s.1)), (6, .p (.int .i64 s.2.1)), (10, s.2.2)]) (fun _ => mkO [(4, some (.box [.p (.int .i64 0), .p (.int .i64 0)]))]) (fun s => Nat.gcd s.1 s.2.1 = Nat.gcd A B) (fun s => s.2.1) ?_ (A, B, .junk) rfl
  rintro ⟨x, y, c⟩ hg R hR hN
  simp only at hg
  by_cases h : (0 : Int) < (y : Int)
  · have h0 : ¬ (y : Int) = 0 := by omega
    have hm : Int.tmod (x : Int) (y : Int) = ((x % y : Nat) : Int) := (Int.ofNat_tmod x y).symm
    simp only [h, h0, hm, Gam.add, ↓aw_reg, ↓aw_dreg, ↓aw_skip, ↓aw_ret, ↓aw_exit, ↓aw_seq, ↓aw_block, ↓aw_cond, ↓run_nil, bindD_some, bindW_some, ↓run_d, ↓run_w, ↓run_g, ↓rund_nil, ↓rund_d, ↓rund_g, nrm_mk, gd_b, gd_un, br_b, put_mk, put_no, mkE_cons, mk_nil, mkO_cons, mkO_nil, setO_mk, ev_t, ev_c, ev_f, keepE_mk, keepO_mkO, freezeE_mk, freezeO_mk, trP, trO, stepD, stepW, newA, List.map_cons, List.map_nil, SV.tr, SV.trL, fz, Ob.tr, Option.map_some, Option.map_none, Option.bind_some, Option.bind_none, loadA, cellsA, PV.cells, SV.cells, binA, binI, eqOut, natOf, callee, snap, SV.refsL, SV.refs, List.append_nil, List.nil_append, List.cons_append, thaw, resO_nil', fzAll, loA, hiA, lenA, buildA, putCells, List.mapM_cons, List.mapM_nil, Option.pure_def, Option.bind_eq_bind, ↓reduceIte, reduceCtorEq, ne_eq, not_false_eq_true, not_true_eq_false, true_or, or_true, List.length_cons, List.length_nil, List.take_succ_cons, List.take_zero, List.drop_succ_cons, List.drop_zero, List.getElem?_cons_zero, List.getElem?_cons_succ, List.set_cons_zero, List.set_cons_succ, Bool.not_true, Bool.not_false, okCell, List.all_cons, List.all_nil, Bool.and_self, Bool.and_true, Bool.true_and, Option.isSome_some, and_self, and_true, true_and, Nat.zero_add, Nat.add_zero, Nat.reduceAdd, Nat.reduceEqDiff, Nat.reduceSub, Nat.reduceMul, Nat.reduceLeDiff, ge_iff_le, gt_iff_lt, decide_true, decide_false, Bool.false_eq_true, beq_self_eq_true, Nat.le_refl, if_true, if_false, PV.scal, PV.scalL, SV.scal, SV.scalL, Ob.scal]
    exact hN (y, x % y, .p (.bool true)) (by simp only; rw [gcd_step]; exact hg) (by simp only; exact Nat.mod_lt _ (by omega))
  · have hy : y = 0 := by omega
    subst hy
    have hx : x = Nat.gcd A B := by simpa using hg
    subst hx
    have hpos : 0 < Nat.gcd A B := Nat.gcd_pos_of_pos_right _ hB
    simp only [h, Gam.add, ↓aw_reg, ↓aw_dreg, ↓aw_skip, ↓aw_ret, ↓aw_exit, ↓aw_seq, ↓aw_block, ↓aw_cond, ↓run_nil, bindD_some, bindW_some, ↓run_d, ↓run_w, ↓run_g, ↓rund_nil, ↓rund_d, ↓rund_g, nrm_mk, gd_b, gd_un, br_b, put_mk, put_no, mkE_cons, mk_nil, mkO_cons, mkO_nil, setO_mk, ev_t, ev_c, ev_f, keepE_mk, keepO_mkO, freezeE_mk, freezeO_mk, trP, trO, stepD, stepW, newA, List.map_cons, List.map_nil, SV.tr, SV.trL, fz, Ob.tr, Option.map_some, Option.map_none, Option.bind_some, Option.bind_none, loadA, cellsA, PV.cells, SV.cells, binA, binI, eqOut, natOf, callee, snap, SV.refsL, SV.refs, List.append_nil, List.nil_append, List.cons_append, thaw, resO_nil', fzAll, loA, hiA, lenA, buildA, putCells, List.mapM_cons, List.mapM_nil, Option.pure_def, Option.bind_eq_bind, ↓reduceIte, reduceCtorEq, ne_eq, not_false_eq_true, not_true_eq_false, true_or, or_true, List.length_cons, List.length_nil, List.take_succ_cons, List.take_zero, List.drop_succ_cons, List.drop_zero, List.getElem?_cons_zero, List.getElem?_cons_succ, List.set_cons_zero, List.set_cons_succ, Bool.not_true, Bool.not_false, okCell, List.all_cons, List.all_nil, Bool.and_self, Bool.and_true, Bool.true_and, Option.isSome_some, and_self, and_true, true_and, Nat.zero_add, Nat.add_zero, Nat.reduceAdd, Nat.reduceEqDiff, Nat.reduceSub, Nat.reduceMul, Nat.reduceLeDiff, ge_iff_le, gt_iff_lt, decide_true, decide_false, Bool.false_eq_true, beq_self_eq_true, Nat.le_refl, if_true, if_false, PV.scal, PV.scalL, SV.scal, SV.scalL, Ob.scal]
    refine hR _ _ _ (by intro h; cases h) ?_
    have hmost : (if (1 : Int) < (Nat.gcd A B : Int) then (Nat.gcd A B : Int) else 1) = (Nat.gcd A B : Int) := by split <;> omega
    have h0 : ¬ (Nat.gcd A B : Int) = 0 := by omega
    simp only [gMost, hmost, h0, Gam.add, ↓aw_reg, ↓aw_dreg, ↓aw_skip, ↓aw_ret, ↓aw_exit, ↓aw_seq, ↓aw_block, ↓aw_cond, ↓run_nil, bindD_some, bindW_some, ↓run_d, ↓run_w, ↓run_g, ↓rund_nil, ↓rund_d, ↓rund_g, nrm_mk, gd_b, gd_un, br_b, put_mk, put_no, mkE_cons, mk_nil, mkO_cons, mkO_nil, setO_mk, ev_t, ev_c, ev_f, keepE_mk, keepO_mkO, freezeE_mk, freezeO_mk, trP, trO, stepD, stepW, newA, List.map_cons, List.map_nil, SV.tr, SV.trL, fz, Ob.tr, Option.map_some, Option.map_none, Option.bind_some, Option.bind_none, loadA, cellsA, PV.cells, SV.cells, binA, binI, eqOut, natOf, callee, snap, SV.refsL, SV.refs, List.append_nil, List.nil_append, List.cons_append, thaw, resO_nil', fzAll, loA, hiA, lenA, buildA, putCells, List.mapM_cons, List.mapM_nil, Option.pure_def, Option.bind_eq_bind, ↓reduceIte, reduceCtorEq, ne_eq, not_false_eq_true, not_true_eq_false, true_or, or_true, List.length_cons, List.length_nil, List.take_succ_cons, List.take_zero, List.drop_succ_cons, List.drop_zero, List.getElem?_cons_zero, List.getElem?_cons_succ, List.set_cons_zero, List.set_cons_succ, Bool.not_true, Bool.not_false, okCell, List.all_cons, List.all_nil, Bool.and_self, Bool.and_true, Bool.true_and, Option.isSome_some, and_self, and_true, true_and, Nat.zero_add, Nat.add_zero, Nat.reduceAdd, Nat.reduceEqDiff, Nat.reduceSub, Nat.reduceMul, Nat.reduceLeDiff, ge_iff_le, gt_iff_lt, decide_true, decide_false, Bool.false_eq_true, beq_self_eq_true, Nat.le_refl, if_true, if_false, PV.scal, PV.scalL, SV.scal, SV.scalL, Ob.scal]
    exact finA_val (by simp [retA, rvA, List.mapM_cons, List.mapM_nil, Option.pure_def, Option.bind_eq_bind, Option.bind_some, Option.map_some, mkE_cons, mk_nil, mkO_cons, mkO_nil, loadA, ↓reduceIte, List.take_succ_cons, List.take_zero, List.drop_zero, List.drop_succ_cons, List.length_cons, List.length_nil, Nat.reduceAdd, Nat.reduceEqDiff, Nat.reduceLeDiff, Nat.zero_add, Nat.le_refl, reduceCtorEq, cutSV, cutX]) (by simp [SV.tr, SV.trL, cutSV])
theorem gs28 : ∀ args r fs, gCut args = some (r, fs) → PC Try.prog 28 args [] r [] fs := by
  intro args r fs h
  unfold gCut at h; split at h
  case h_2 => cases h
  rename_i a b
  split at h
  case isFalse => cases h
  rename_i hn
  simp at h
  obtain ⟨rfl, rfl⟩ := h
  obtain ⟨A, rfl⟩ := Int.eq_ofNat_of_zero_le hn.1
  obtain ⟨B, rfl⟩ := Int.eq_ofNat_of_zero_le (Int.le_of_lt hn.2)
  have hB : 0 < B := by omega
  refine is28.go mixed GS.none k28 o28 (by simp [a28]) ?_
  simp only [a28, List.zipIdx_cons, List.zipIdx_nil, Gam.add, ↓aw_reg, ↓aw_dreg, ↓aw_skip, ↓aw_ret, ↓aw_exit, ↓aw_seq, ↓aw_block, ↓aw_cond, ↓run_nil, bindD_some, bindW_some, ↓run_d, ↓run_w, ↓run_g, ↓rund_nil, ↓rund_d, ↓rund_g, nrm_mk, gd_b, gd_un, br_b, put_mk, put_no, mkE_cons, mk_nil, mkO_cons, mkO_nil, setO_mk, ev_t, ev_c, ev_f, keepE_mk, keepO_mkO, freezeE_mk, freezeO_mk, trP, trO, stepD, stepW, newA, List.map_cons, List.map_nil, SV.tr, SV.trL, fz, Ob.tr, Option.map_some, Option.map_none, Option.bind_some, Option.bind_none, loadA, cellsA, PV.cells, SV.cells, binA, binI, eqOut, natOf, callee, snap, SV.refsL, SV.refs, List.append_nil, List.nil_append, List.cons_append, thaw, resO_nil', fzAll, loA, hiA, lenA, buildA, putCells, List.mapM_cons, List.mapM_nil, Option.pure_def, Option.bind_eq_bind, ↓reduceIte, reduceCtorEq, ne_eq, not_false_eq_true, not_true_eq_false, true_or, or_true, List.length_cons, List.length_nil, List.take_succ_cons, List.take_zero, List.drop_succ_cons, List.drop_zero, List.getElem?_cons_zero, List.getElem?_cons_succ, List.set_cons_zero, List.set_cons_succ, Bool.not_true, Bool.not_false, okCell, List.all_cons, List.all_nil, Bool.and_self, Bool.and_true, Bool.true_and, Option.isSome_some, and_self, and_true, true_and, Nat.zero_add, Nat.add_zero, Nat.reduceAdd, Nat.reduceEqDiff, Nat.reduceSub, Nat.reduceMul, Nat.reduceLeDiff, ge_iff_le, gt_iff_lt, decide_true, decide_false, Bool.false_eq_true, beq_self_eq_true, Nat.le_refl, if_true, if_false, PV.scal, PV.scalL, SV.scal, SV.scalL, Ob.scal]
  refine loop_ind (fun s : Nat × Nat × SV => mkEnv [(0, .p (.int .i64 A)), (1, .p (.int .i64 B)), (4, .bx 4 0), (5, .p (.int .i64 s.1)), (6, .p (.int .i64 s.2.1)), (10, s.2.2)]) (fun _ => mkO [(4, some (.box [.p (.int .i64 0), .p (.int .i64 0)]))]) (fun s => Nat.gcd s.1 s.2.1 = Nat.gcd A B) (fun s => s.2.1) ?_ (A, B, .junk) rfl
  rintro ⟨x, y, c⟩ hg R hR hN
  simp only at hg
  by_cases h : (y : Int) = 0
  · have hy : y = 0 := by omega
    subst hy
    have hx : x = Nat.gcd A B := by simpa using hg
    subst hx
    have hpos : 0 < Nat.gcd A B := Nat.gcd_pos_of_pos_right _ hB
    have hb : (((0 : Nat) : Int) != 0) = false := rfl
    simp only [hb, Gam.add, ↓aw_reg, ↓aw_dreg, ↓aw_skip, ↓aw_ret, ↓aw_exit, ↓aw_seq, ↓aw_block, ↓aw_cond, ↓run_nil, bindD_some, bindW_some, ↓run_d, ↓run_w, ↓run_g, ↓rund_nil, ↓rund_d, ↓rund_g, nrm_mk, gd_b, gd_un, br_b, put_mk, put_no, mkE_cons, mk_nil, mkO_cons, mkO_nil, setO_mk, ev_t, ev_c, ev_f, keepE_mk, keepO_mkO, freezeE_mk, freezeO_mk, trP, trO, stepD, stepW, newA, List.map_cons, List.map_nil, SV.tr, SV.trL, fz, Ob.tr, Option.map_some, Option.map_none, Option.bind_some, Option.bind_none, loadA, cellsA, PV.cells, SV.cells, binA, binI, eqOut, natOf, callee, snap, SV.refsL, SV.refs, List.append_nil, List.nil_append, List.cons_append, thaw, resO_nil', fzAll, loA, hiA, lenA, buildA, putCells, List.mapM_cons, List.mapM_nil, Option.pure_def, Option.bind_eq_bind, ↓reduceIte, reduceCtorEq, ne_eq, not_false_eq_true, not_true_eq_false, true_or, or_true, List.length_cons, List.length_nil, List.take_succ_cons, List.take_zero, List.drop_succ_cons, List.drop_zero, List.getElem?_cons_zero, List.getElem?_cons_succ, List.set_cons_zero, List.set_cons_succ, Bool.not_true, Bool.not_false, okCell, List.all_cons, List.all_nil, Bool.and_self, Bool.and_true, Bool.true_and, Option.isSome_some, and_self, and_true, true_and, Nat.zero_add, Nat.add_zero, Nat.reduceAdd, Nat.reduceEqDiff, Nat.reduceSub, Nat.reduceMul, Nat.reduceLeDiff, ge_iff_le, gt_iff_lt, decide_true, decide_false, Bool.false_eq_true, beq_self_eq_true, Nat.le_refl, if_true, if_false, PV.scal, PV.scalL, SV.scal, SV.scalL, Ob.scal]
    refine hR _ _ _ (by intro h; cases h) ?_
    have h0 : ¬ (Nat.gcd A B : Int) = 0 := by omega
    simp only [h0, Gam.add, ↓aw_reg, ↓aw_dreg, ↓aw_skip, ↓aw_ret, ↓aw_exit, ↓aw_seq, ↓aw_block, ↓aw_cond, ↓run_nil, bindD_some, bindW_some, ↓run_d, ↓run_w, ↓run_g, ↓rund_nil, ↓rund_d, ↓rund_g, nrm_mk, gd_b, gd_un, br_b, put_mk, put_no, mkE_cons, mk_nil, mkO_cons, mkO_nil, setO_mk, ev_t, ev_c, ev_f, keepE_mk, keepO_mkO, freezeE_mk, freezeO_mk, trP, trO, stepD, stepW, newA, List.map_cons, List.map_nil, SV.tr, SV.trL, fz, Ob.tr, Option.map_some, Option.map_none, Option.bind_some, Option.bind_none, loadA, cellsA, PV.cells, SV.cells, binA, binI, eqOut, natOf, callee, snap, SV.refsL, SV.refs, List.append_nil, List.nil_append, List.cons_append, thaw, resO_nil', fzAll, loA, hiA, lenA, buildA, putCells, List.mapM_cons, List.mapM_nil, Option.pure_def, Option.bind_eq_bind, ↓reduceIte, reduceCtorEq, ne_eq, not_false_eq_true, not_true_eq_false, true_or, or_true, List.length_cons, List.length_nil, List.take_succ_cons, List.take_zero, List.drop_succ_cons, List.drop_zero, List.getElem?_cons_zero, List.getElem?_cons_succ, List.set_cons_zero, List.set_cons_succ, Bool.not_true, Bool.not_false, okCell, List.all_cons, List.all_nil, Bool.and_self, Bool.and_true, Bool.true_and, Option.isSome_some, and_self, and_true, true_and, Nat.zero_add, Nat.add_zero, Nat.reduceAdd, Nat.reduceEqDiff, Nat.reduceSub, Nat.reduceMul, Nat.reduceLeDiff, ge_iff_le, gt_iff_lt, decide_true, decide_false, Bool.false_eq_true, beq_self_eq_true, Nat.le_refl, if_true, if_false, PV.scal, PV.scalL, SV.scal, SV.scalL, Ob.scal]
    exact finA_val (by simp [retA, rvA, List.mapM_cons, List.mapM_nil, Option.pure_def, Option.bind_eq_bind, Option.bind_some, Option.map_some, mkE_cons, mk_nil, mkO_cons, mkO_nil, loadA, ↓reduceIte, List.take_succ_cons, List.take_zero, List.drop_zero, List.drop_succ_cons, List.length_cons, List.length_nil, Nat.reduceAdd, Nat.reduceEqDiff, Nat.reduceLeDiff, Nat.zero_add, Nat.le_refl, reduceCtorEq, cutSV, cutX]) (by simp [SV.tr, SV.trL, cutSV])
  · have hm : Int.tmod (x : Int) (y : Int) = ((x % y : Nat) : Int) := (Int.ofNat_tmod x y).symm
    have hb : ((y : Int) != 0) = true := by simp; omega
    simp only [h, hb, hm, Gam.add, ↓aw_reg, ↓aw_dreg, ↓aw_skip, ↓aw_ret, ↓aw_exit, ↓aw_seq, ↓aw_block, ↓aw_cond, ↓run_nil, bindD_some, bindW_some, ↓run_d, ↓run_w, ↓run_g, ↓rund_nil, ↓rund_d, ↓rund_g, nrm_mk, gd_b, gd_un, br_b, put_mk, put_no, mkE_cons, mk_nil, mkO_cons, mkO_nil, setO_mk, ev_t, ev_c, ev_f, keepE_mk, keepO_mkO, freezeE_mk, freezeO_mk, trP, trO, stepD, stepW, newA, List.map_cons, List.map_nil, SV.tr, SV.trL, fz, Ob.tr, Option.map_some, Option.map_none, Option.bind_some, Option.bind_none, loadA, cellsA, PV.cells, SV.cells, binA, binI, eqOut, natOf, callee, snap, SV.refsL, SV.refs, List.append_nil, List.nil_append, List.cons_append, thaw, resO_nil', fzAll, loA, hiA, lenA, buildA, putCells, List.mapM_cons, List.mapM_nil, Option.pure_def, Option.bind_eq_bind, ↓reduceIte, reduceCtorEq, ne_eq, not_false_eq_true, not_true_eq_false, true_or, or_true, List.length_cons, List.length_nil, List.take_succ_cons, List.take_zero, List.drop_succ_cons, List.drop_zero, List.getElem?_cons_zero, List.getElem?_cons_succ, List.set_cons_zero, List.set_cons_succ, Bool.not_true, Bool.not_false, okCell, List.all_cons, List.all_nil, Bool.and_self, Bool.and_true, Bool.true_and, Option.isSome_some, and_self, and_true, true_and, Nat.zero_add, Nat.add_zero, Nat.reduceAdd, Nat.reduceEqDiff, Nat.reduceSub, Nat.reduceMul, Nat.reduceLeDiff, ge_iff_le, gt_iff_lt, decide_true, decide_false, Bool.false_eq_true, beq_self_eq_true, Nat.le_refl, if_true, if_false, PV.scal, PV.scalL, SV.scal, SV.scalL, Ob.scal]
    exact hN (y, x % y, .p (.bool true)) (by simp only; rw [gcd_step]; exact hg) (by simp only; exact Nat.mod_lt _ (by omega))

def gDrawn1 : List SV → Option (SV × List Ob)
  | [.p (.int .i64 m)] => some (.p (.bool (inB m 0 12)), [])
  | _ => none
theorem gs27 : ∀ args r fs, gDrawn1 args = some (r, fs) → PC Try.prog 27 args [] r [] fs := by
  intro args r fs h
  unfold gDrawn1 at h; split at h
  case h_2 => cases h
  rename_i m
  simp at h
  obtain ⟨rfl, rfl⟩ := h
  refine is27.go mixed (GS.none.add gs24) k27 o27 (by simp [a27]) ?_
  simp only [a27, List.zipIdx_cons, List.zipIdx_nil, gIn, Gam.add, ↓aw_reg, ↓aw_dreg, ↓aw_skip, ↓aw_ret, ↓aw_exit, ↓aw_seq, ↓aw_block, ↓aw_cond, ↓run_nil, bindD_some, bindW_some, ↓run_d, ↓run_w, ↓run_g, ↓rund_nil, ↓rund_d, ↓rund_g, nrm_mk, gd_b, gd_un, br_b, put_mk, put_no, mkE_cons, mk_nil, mkO_cons, mkO_nil, setO_mk, ev_t, ev_c, ev_f, keepE_mk, keepO_mkO, freezeE_mk, freezeO_mk, trP, trO, stepD, stepW, newA, List.map_cons, List.map_nil, SV.tr, SV.trL, fz, Ob.tr, Option.map_some, Option.map_none, Option.bind_some, Option.bind_none, loadA, cellsA, PV.cells, SV.cells, binA, binI, eqOut, natOf, callee, snap, SV.refsL, SV.refs, List.append_nil, List.nil_append, List.cons_append, thaw, resO_nil', fzAll, loA, hiA, lenA, buildA, putCells, List.mapM_cons, List.mapM_nil, Option.pure_def, Option.bind_eq_bind, ↓reduceIte, reduceCtorEq, ne_eq, not_false_eq_true, not_true_eq_false, true_or, or_true, List.length_cons, List.length_nil, List.take_succ_cons, List.take_zero, List.drop_succ_cons, List.drop_zero, List.getElem?_cons_zero, List.getElem?_cons_succ, List.set_cons_zero, List.set_cons_succ, Bool.not_true, Bool.not_false, okCell, List.all_cons, List.all_nil, Bool.and_self, Bool.and_true, Bool.true_and, Option.isSome_some, and_self, and_true, true_and, Nat.zero_add, Nat.add_zero, Nat.reduceAdd, Nat.reduceEqDiff, Nat.reduceSub, Nat.reduceMul, Nat.reduceLeDiff, ge_iff_le, gt_iff_lt, decide_true, decide_false, Bool.false_eq_true, beq_self_eq_true, Nat.le_refl, if_true, if_false, PV.scal, PV.scalL, SV.scal, SV.scalL, Ob.scal]
  exact finA_val (by simp [retA, rvA, List.mapM_cons, List.mapM_nil, Option.pure_def, Option.bind_eq_bind, Option.bind_some, Option.map_some, mkE_cons, mk_nil, mkO_cons, mkO_nil, loadA, ↓reduceIte, List.take_succ_cons, List.take_zero, List.drop_zero, List.drop_succ_cons, List.length_cons, List.length_nil, Nat.reduceAdd, Nat.reduceEqDiff, Nat.reduceLeDiff, Nat.zero_add, Nat.le_refl, reduceCtorEq]) (by simp [SV.tr])
def drawn (m k a b : Int) : Bool := good a b && inB m 0 12 && inB k 0 m
def gDrawn : List SV → Option (SV × List Ob)
  | [.p (.int .i64 m), .p (.int .i64 k), .p (.agg [.int .i64 a, .int .i64 b])] => some (.p (.bool (drawn m k a b)), [])
  | _ => none
theorem gs25 : ∀ args r fs, gDrawn args = some (r, fs) → PC Try.prog 25 args [] r [] fs := by
  intro args r fs h
  unfold gDrawn at h; split at h
  case h_2 => cases h
  rename_i m k a b
  simp at h
  obtain ⟨rfl, rfl⟩ := h
  refine is25.go mixed ((GS.none.add gs39).add gs23) k25 o25 (by simp [a25]) ?_
  cases h1 : good a b <;> cases h2 : inB m 0 12 <;>
  simp only [h1, h2, a25, List.zipIdx_cons, List.zipIdx_nil, gIn, gGood, Gam.add, ↓aw_reg, ↓aw_dreg, ↓aw_skip, ↓aw_ret, ↓aw_exit, ↓aw_seq, ↓aw_block, ↓aw_cond, ↓run_nil, bindD_some, bindW_some, ↓run_d, ↓run_w, ↓run_g, ↓rund_nil, ↓rund_d, ↓rund_g, nrm_mk, gd_b, gd_un, br_b, put_mk, put_no, mkE_cons, mk_nil, mkO_cons, mkO_nil, setO_mk, ev_t, ev_c, ev_f, keepE_mk, keepO_mkO, freezeE_mk, freezeO_mk, trP, trO, stepD, stepW, newA, List.map_cons, List.map_nil, SV.tr, SV.trL, fz, Ob.tr, Option.map_some, Option.map_none, Option.bind_some, Option.bind_none, loadA, cellsA, PV.cells, SV.cells, binA, binI, eqOut, natOf, callee, snap, SV.refsL, SV.refs, List.append_nil, List.nil_append, List.cons_append, thaw, resO_nil', fzAll, loA, hiA, lenA, buildA, putCells, List.mapM_cons, List.mapM_nil, Option.pure_def, Option.bind_eq_bind, ↓reduceIte, reduceCtorEq, ne_eq, not_false_eq_true, not_true_eq_false, true_or, or_true, List.length_cons, List.length_nil, List.take_succ_cons, List.take_zero, List.drop_succ_cons, List.drop_zero, List.getElem?_cons_zero, List.getElem?_cons_succ, List.set_cons_zero, List.set_cons_succ, Bool.not_true, Bool.not_false, okCell, List.all_cons, List.all_nil, Bool.and_self, Bool.and_true, Bool.true_and, Option.isSome_some, and_self, and_true, true_and, Nat.zero_add, Nat.add_zero, Nat.reduceAdd, Nat.reduceEqDiff, Nat.reduceSub, Nat.reduceMul, Nat.reduceLeDiff, ge_iff_le, gt_iff_lt, decide_true, decide_false, Bool.false_eq_true, beq_self_eq_true, Nat.le_refl, if_true, if_false, PV.scal, PV.scalL, SV.scal, SV.scalL, Ob.scal] <;>
  exact finA_val (by simp [retA, rvA, List.mapM_cons, List.mapM_nil, Option.pure_def, Option.bind_eq_bind, Option.bind_some, Option.map_some, mkE_cons, mk_nil, mkO_cons, mkO_nil, loadA, ↓reduceIte, List.take_succ_cons, List.take_zero, List.drop_zero, List.drop_succ_cons, List.length_cons, List.length_nil, Nat.reduceAdd, Nat.reduceEqDiff, Nat.reduceLeDiff, Nat.zero_add, Nat.le_refl, reduceCtorEq, drawn, h1, h2]) (by simp [SV.tr])
def gOf : List SV → Option (SV × List Ob)
  | [.p (.agg [.int .i64 _, .int .i64 b]), .p (.int .i64 m), .p (.int .i64 x)] => if m ≤ 1000 ∧ 0 ≤ x ∧ 0 < powW b m.toNat then some (cutSV x (powW b m.toNat), []) else none
  | _ => none
theorem gs35 : ∀ args r fs, gOf args = some (r, fs) → PC Try.prog 35 args [] r [] fs := by
  intro args r fs h
  unfold gOf at h; split at h
  case h_2 => cases h
  rename_i a b m x
  split at h
  case isFalse => cases h
  rename_i hn
  simp at h
  obtain ⟨rfl, rfl⟩ := h
  refine is35.go mixed ((GS.none.add gs28).add gs32) k35 o35 (by simp [a35]) ?_
  simp only [a35, List.zipIdx_cons, List.zipIdx_nil, gPow, gCut, cutSV, hn, Gam.add, ↓aw_reg, ↓aw_dreg, ↓aw_skip, ↓aw_ret, ↓aw_exit, ↓aw_seq, ↓aw_block, ↓aw_cond, ↓run_nil, bindD_some, bindW_some, ↓run_d, ↓run_w, ↓run_g, ↓rund_nil, ↓rund_d, ↓rund_g, nrm_mk, gd_b, gd_un, br_b, put_mk, put_no, mkE_cons, mk_nil, mkO_cons, mkO_nil, setO_mk, ev_t, ev_c, ev_f, keepE_mk, keepO_mkO, freezeE_mk, freezeO_mk, trP, trO, stepD, stepW, newA, List.map_cons, List.map_nil, SV.tr, SV.trL, fz, Ob.tr, Option.map_some, Option.map_none, Option.bind_some, Option.bind_none, loadA, cellsA, PV.cells, SV.cells, binA, binI, eqOut, natOf, callee, snap, SV.refsL, SV.refs, List.append_nil, List.nil_append, List.cons_append, thaw, resO_nil', fzAll, loA, hiA, lenA, buildA, putCells, List.mapM_cons, List.mapM_nil, Option.pure_def, Option.bind_eq_bind, ↓reduceIte, reduceCtorEq, ne_eq, not_false_eq_true, not_true_eq_false, true_or, or_true, List.length_cons, List.length_nil, List.take_succ_cons, List.take_zero, List.drop_succ_cons, List.drop_zero, List.getElem?_cons_zero, List.getElem?_cons_succ, List.set_cons_zero, List.set_cons_succ, Bool.not_true, Bool.not_false, okCell, List.all_cons, List.all_nil, Bool.and_self, Bool.and_true, Bool.true_and, Option.isSome_some, and_self, and_true, true_and, Nat.zero_add, Nat.add_zero, Nat.reduceAdd, Nat.reduceEqDiff, Nat.reduceSub, Nat.reduceMul, Nat.reduceLeDiff, ge_iff_le, gt_iff_lt, decide_true, decide_false, Bool.false_eq_true, beq_self_eq_true, Nat.le_refl, if_true, if_false, PV.scal, PV.scalL, SV.scal, SV.scalL, Ob.scal]
  exact finA_val (by simp [retA, rvA, List.mapM_cons, List.mapM_nil, Option.pure_def, Option.bind_eq_bind, Option.bind_some, Option.map_some, mkE_cons, mk_nil, mkO_cons, mkO_nil, loadA, ↓reduceIte, List.take_succ_cons, List.take_zero, List.drop_zero, List.drop_succ_cons, List.length_cons, List.length_nil, Nat.reduceAdd, Nat.reduceEqDiff, Nat.reduceLeDiff, Nat.zero_add, Nat.le_refl, reduceCtorEq, cutSV, cutX]) (by simp [SV.tr, SV.trL, cutSV])
end Go.Proofs.Ytmjkdmlndbfdjaa
