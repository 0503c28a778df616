/- A part of the proof that stands in this folder. No condition of its own. -/
import Derived.Test.YtmjkdmlndbfdjaaR1F
set_option linter.unusedVariables false
set_option linter.unusedSimpArgs false
namespace Go.Proofs.Ytmjkdmlndbfdjaa
open Go Go.Proofs Go.Proofs.Ytmjkdmlndbfdjaa.Pam

theorem powW_bd {x : Int} (h0 : 0 ≤ x) (h1 : x ≤ 10) : ∀ n : Nat, n ≤ 12 → 0 ≤ powW x n ∧ powW x n ≤ 10 ^ n ∧ (1 ≤ x → 1 ≤ powW x n)
  | 0, _ => by simp [powW]
  | n + 1, hn => by
    obtain ⟨i1, i2, i3⟩ := powW_bd h0 h1 n (by omega)
    have hp : (10 : Int) ^ n ≤ 10 ^ 11 := by exact_mod_cast Nat.pow_le_pow_right (by decide : 0 < 10) (show n ≤ 11 by omega)
    have h2 : 0 ≤ powW x n * x := Int.mul_nonneg i1 h0
    have h3 : powW x n * x ≤ 10 ^ n * 10 := Int.mul_le_mul i2 h1 h0 (by exact_mod_cast Nat.zero_le _)
    have e : IntKind.i64.wrap (powW x n * x) = powW x n * x := w_id (by omega) (by omega)
    simp only [powW, e]
    refine ⟨h2, by rw [Int.pow_succ]; exact h3, fun hx => ?_⟩
    have := Int.mul_le_mul (i3 hx) hx (by decide) i1
    omega

theorem ways_bd : ∀ m : Fin 13, ∀ k : Fin 13, k.val ≤ m.val → 0 ≤ waysW (m.val : Int) k.val ∧ waysW (m.val : Int) k.val ≤ 1000 := by decide +kernel

theorem drawn_facts {m k a b : Int} (h : drawn m k a b = true) : 1 ≤ b ∧ b ≤ 10 ∧ 0 ≤ a ∧ a ≤ b ∧ 0 ≤ m ∧ m ≤ 12 ∧ 0 ≤ k ∧ k ≤ m := by
  simp [drawn, good, inB] at h; omega

theorem pow_pos {b m : Int} (h1 : 1 ≤ b) (h2 : b ≤ 10) (hm : m ≤ 12) : 0 < powW b m.toNat := by
  have := (powW_bd (x := b) (by omega) h2 m.toNat (by omega)).2.2 h1
  omega

theorem parts_bd {m k a b : Int} (h1 : b ≤ 10) (h2 : 0 ≤ a) (h3 : a ≤ b) (h4 : 0 ≤ k) (h5 : k ≤ m) (h6 : m ≤ 12) : 0 ≤ partsW m k a b ∧ partsW m k a b ≤ 10 ^ 12 := by
  have e1 : IntKind.i64.wrap (b - a) = b - a := w_id (by omega) (by omega)
  obtain ⟨p1, p2, _⟩ := powW_bd h2 (by omega) k.toNat (by omega)
  obtain ⟨q1, q2, _⟩ := powW_bd (x := b - a) (by omega) (by omega) (m - k).toNat (by omega)
  have hs : (10 : Int) ^ k.toNat * 10 ^ (m - k).toNat ≤ 10 ^ 12 := by
    rw [← Int.pow_add]
    exact_mod_cast Nat.pow_le_pow_right (by decide : 0 < 10) (show k.toNat + (m - k).toNat ≤ 12 by omega)
  have h7 : 0 ≤ powW a k.toNat * powW (b - a) (m - k).toNat := Int.mul_nonneg p1 q1
  have h8 : powW a k.toNat * powW (b - a) (m - k).toNat ≤ 10 ^ k.toNat * 10 ^ (m - k).toNat := Int.mul_le_mul p2 q2 q1 (by exact_mod_cast Nat.zero_le _)
  unfold partsW
  rw [e1, w_id (by omega) (by omega)]
  exact ⟨h7, Int.le_trans h8 hs⟩

theorem any_bd {m k a b : Int} (h1 : b ≤ 10) (h2 : 0 ≤ a) (h3 : a ≤ b) (h4 : 0 ≤ k) (h5 : k ≤ m) (h6 : m ≤ 12) : 0 ≤ anyW m k a b ∧ anyW m k a b ≤ 10 ^ 15 := by
  obtain ⟨p1, p2⟩ := parts_bd h1 h2 h3 h4 h5 h6
  obtain ⟨M, rfl⟩ := Int.eq_ofNat_of_zero_le (show 0 ≤ m by omega)
  obtain ⟨K, rfl⟩ := Int.eq_ofNat_of_zero_le h4
  obtain ⟨q1, q2⟩ := ways_bd ⟨M, by omega⟩ ⟨K, by omega⟩ (by simp only; omega)
  simp only at q1 q2
  have h7 := Int.mul_nonneg q1 p1
  have h8 := Int.mul_le_mul q2 p2 p1 (by decide)
  unfold anyW
  rw [show (K : Int).toNat = K by omega, w_id (by omega) (by omega)]
  exact ⟨h7, by omega⟩

theorem sum_bd {m a b : Int} (h1 : b ≤ 10) (h2 : 0 ≤ a) (h3 : a ≤ b) (h6 : m ≤ 12) : ∀ i : Nat, (i : Int) ≤ m + 1 → 0 ≤ sumW m a b i ∧ sumW m a b i ≤ i * 10 ^ 15
  | 0, _ => by simp [sumW]
  | i + 1, hi => by
    obtain ⟨i1, i2⟩ := sum_bd h1 h2 h3 h6 i (by omega)
    obtain ⟨p1, p2⟩ := any_bd (m := m) (k := i) h1 h2 h3 (by omega) (by omega) h6
    simp only [sumW]
    rw [w_id (by omega) (by omega)]
    omega

/-- The answer of a chance. -/
def okSV (x y : Int) : SV := .tp [cutSV x y, .p (.bool true)]
def noSV : SV := .tp [.ag [.p (.int .i64 0), .p (.int .i64 0)], .p (.bool false)]
theorem tr_ok (f : SV → SV) (x y : Int) : (okSV x y).tr f = okSV x y := by simp [okSV, cutSV, SV.tr, SV.trL]
theorem tr_no (f : SV → SV) : noSV.tr f = noSV := by simp [noSV, SV.tr, SV.trL]

theorem mean_bd {m a b : Int} (h : drawn m 0 a b = true) : 0 ≤ IntKind.i64.wrap (m * a) ∧ 0 < b := by
  have := drawn_facts h
  have h1 : 0 ≤ m * a := Int.mul_nonneg (by omega) (by omega)
  have h2 : m * a ≤ 12 * 10 := Int.mul_le_mul (by omega) (by omega) (by omega) (by decide)
  rw [w_id (by omega) (by omega)]
  omega
theorem drawn0 (m a b : Int) : drawn m 0 a b = (inB m 0 12 && good a b) := by
  unfold drawn
  cases h1 : good a b <;> cases h2 : inB m 0 12 <;> simp
  simp [inB] at h2 ⊢; omega

def gMean : List SV → Option (SV × List Ob)
  | [.p (.int .i64 m), .p (.agg [.int .i64 a, .int .i64 b])] => some (if drawn m 0 a b = true then okSV (IntKind.i64.wrap (m * a)) b else noSV, [])
  | _ => none
set_option maxHeartbeats 2000000 in
theorem gs12 : ∀ args r fs, gMean args = some (r, fs) → PC Try.prog 12 args [] r [] fs := by
  intro args r fs h
  unfold gMean at h; split at h
  case h_2 => cases h
  rename_i m a b
  simp at h
  obtain ⟨rfl, rfl⟩ := h
  refine is12.go mixed ((GS.none.add gs25).add gs26) k12 o12 (by simp [a12]) ?_
  cases hd : drawn m 0 a b
  · simp only [hd, a12, List.zipIdx_cons, List.zipIdx_nil, gDrawn, gCut, Gam.add, ↓aw_reg, ↓aw_dreg, ↓aw_skip, ↓aw_ret, ↓aw_exit, ↓aw_seq, ↓aw_block, ↓aw_cond, ↓run_nil, bindD_some, bindW_some, ↓run_d, ↓run_w, ↓run_g, ↓rund_nil, ↓rund_d, ↓rund_g, nrm_mk, gd_b, gd_un, br_b, put_mk, put_no, mkE_cons, mk_nil, mkO_cons, mkO_nil, setO_mk, ev_t, ev_c, ev_f, keepE_mk, keepO_mkO, freezeE_mk, freezeO_mk, trP, trO, stepD, stepW, newA, List.map_cons, List.map_nil, SV.tr, SV.trL, fz, Ob.tr, Option.map_some, Option.map_none, Option.bind_some, Option.bind_none, loadA, cellsA, PV.cells, SV.cells, binA, binI, eqOut, natOf, callee, snap, SV.refsL, SV.refs, List.append_nil, List.nil_append, List.cons_append, thaw, resO_nil', fzAll, loA, hiA, lenA, buildA, putCells, List.mapM_cons, List.mapM_nil, Option.pure_def, Option.bind_eq_bind, ↓reduceIte, reduceCtorEq, ne_eq, not_false_eq_true, not_true_eq_false, true_or, or_true, List.length_cons, List.length_nil, List.take_succ_cons, List.take_zero, List.drop_succ_cons, List.drop_zero, List.getElem?_cons_zero, List.getElem?_cons_succ, List.set_cons_zero, List.set_cons_succ, Bool.not_true, Bool.not_false, okCell, List.all_cons, List.all_nil, Bool.and_self, Bool.and_true, Bool.true_and, Option.isSome_some, and_self, and_true, true_and, Nat.zero_add, Nat.add_zero, Nat.reduceAdd, Nat.reduceEqDiff, Nat.reduceSub, Nat.reduceMul, Nat.reduceLeDiff, ge_iff_le, gt_iff_lt, decide_true, decide_false, Bool.false_eq_true, beq_self_eq_true, Nat.le_refl, if_true, if_false, PV.scal, PV.scalL, SV.scal, SV.scalL, Ob.scal]
    exact finA_val (by simp [retA, rvA, List.mapM_cons, List.mapM_nil, Option.pure_def, Option.bind_eq_bind, Option.bind_some, Option.map_some, mkE_cons, mk_nil, mkO_cons, mkO_nil, loadA, ↓reduceIte, List.take_succ_cons, List.take_zero, List.drop_zero, List.drop_succ_cons, List.length_cons, List.length_nil, Nat.reduceAdd, Nat.reduceEqDiff, Nat.reduceLeDiff, Nat.zero_add, Nat.le_refl, reduceCtorEq, noSV]) (tr_no _)
  · have hb := mean_bd hd
    simp only [hd, hb, a12, List.zipIdx_cons, List.zipIdx_nil, gDrawn, gCut, cutSV, Gam.add, ↓aw_reg, ↓aw_dreg, ↓aw_skip, ↓aw_ret, ↓aw_exit, ↓aw_seq, ↓aw_block, ↓aw_cond, ↓run_nil, bindD_some, bindW_some, ↓run_d, ↓run_w, ↓run_g, ↓rund_nil, ↓rund_d, ↓rund_g, nrm_mk, gd_b, gd_un, br_b, put_mk, put_no, mkE_cons, mk_nil, mkO_cons, mkO_nil, setO_mk, ev_t, ev_c, ev_f, keepE_mk, keepO_mkO, freezeE_mk, freezeO_mk, trP, trO, stepD, stepW, newA, List.map_cons, List.map_nil, SV.tr, SV.trL, fz, Ob.tr, Option.map_some, Option.map_none, Option.bind_some, Option.bind_none, loadA, cellsA, PV.cells, SV.cells, binA, binI, eqOut, natOf, callee, snap, SV.refsL, SV.refs, List.append_nil, List.nil_append, List.cons_append, thaw, resO_nil', fzAll, loA, hiA, lenA, buildA, putCells, List.mapM_cons, List.mapM_nil, Option.pure_def, Option.bind_eq_bind, ↓reduceIte, reduceCtorEq, ne_eq, not_false_eq_true, not_true_eq_false, true_or, or_true, List.length_cons, List.length_nil, List.take_succ_cons, List.take_zero, List.drop_succ_cons, List.drop_zero, List.getElem?_cons_zero, List.getElem?_cons_succ, List.set_cons_zero, List.set_cons_succ, Bool.not_true, Bool.not_false, okCell, List.all_cons, List.all_nil, Bool.and_self, Bool.and_true, Bool.true_and, Option.isSome_some, and_self, and_true, true_and, Nat.zero_add, Nat.add_zero, Nat.reduceAdd, Nat.reduceEqDiff, Nat.reduceSub, Nat.reduceMul, Nat.reduceLeDiff, ge_iff_le, gt_iff_lt, decide_true, decide_false, Bool.false_eq_true, beq_self_eq_true, Nat.le_refl, if_true, if_false, PV.scal, PV.scalL, SV.scal, SV.scalL, Ob.scal]
    exact finA_val (by simp [retA, rvA, List.mapM_cons, List.mapM_nil, Option.pure_def, Option.bind_eq_bind, Option.bind_some, Option.map_some, mkE_cons, mk_nil, mkO_cons, mkO_nil, loadA, ↓reduceIte, List.take_succ_cons, List.take_zero, List.drop_zero, List.drop_succ_cons, List.length_cons, List.length_nil, Nat.reduceAdd, Nat.reduceEqDiff, Nat.reduceLeDiff, Nat.zero_add, Nat.le_refl, reduceCtorEq, okSV, cutSV]) (tr_ok _ _ _)
set_option maxHeartbeats 2000000 in
theorem gs13 : ∀ args r fs, gMean args = some (r, fs) → PC Try.prog 13 args [] r [] fs := by
  intro args r fs h
  unfold gMean at h; split at h
  case h_2 => cases h
  rename_i m a b
  simp at h
  obtain ⟨rfl, rfl⟩ := h
  refine is13.go mixed (((GS.none.add gs27).add gs11).add gs28) k13 o13 (by simp [a13]) ?_
  rw [drawn0]
  cases h1 : inB m 0 12
  · simp only [h1, a13, List.zipIdx_cons, List.zipIdx_nil, gDrawn1, gGood, gCut, Gam.add, ↓aw_reg, ↓aw_dreg, ↓aw_skip, ↓aw_ret, ↓aw_exit, ↓aw_seq, ↓aw_block, ↓aw_cond, ↓run_nil, bindD_some, bindW_some, ↓run_d, ↓run_w, ↓run_g, ↓rund_nil, ↓rund_d, ↓rund_g, nrm_mk, gd_b, gd_un, br_b, put_mk, put_no, mkE_cons, mk_nil, mkO_cons, mkO_nil, setO_mk, ev_t, ev_c, ev_f, keepE_mk, keepO_mkO, freezeE_mk, freezeO_mk, trP, trO, stepD, stepW, newA, List.map_cons, List.map_nil, SV.tr, SV.trL, fz, Ob.tr, Option.map_some, Option.map_none, Option.bind_some, Option.bind_none, loadA, cellsA, PV.cells, SV.cells, binA, binI, eqOut, natOf, callee, snap, SV.refsL, SV.refs, List.append_nil, List.nil_append, List.cons_append, thaw, resO_nil', fzAll, loA, hiA, lenA, buildA, putCells, List.mapM_cons, List.mapM_nil, Option.pure_def, Option.bind_eq_bind, ↓reduceIte, reduceCtorEq, ne_eq, not_false_eq_true, not_true_eq_false, true_or, or_true, List.length_cons, List.length_nil, List.take_succ_cons, List.take_zero, List.drop_succ_cons, List.drop_zero, List.getElem?_cons_zero, List.getElem?_cons_succ, List.set_cons_zero, List.set_cons_succ, Bool.not_true, Bool.not_false, okCell, List.all_cons, List.all_nil, Bool.and_self, Bool.and_true, Bool.true_and, Option.isSome_some, and_self, and_true, true_and, Nat.zero_add, Nat.add_zero, Nat.reduceAdd, Nat.reduceEqDiff, Nat.reduceSub, Nat.reduceMul, Nat.reduceLeDiff, ge_iff_le, gt_iff_lt, decide_true, decide_false, Bool.false_eq_true, beq_self_eq_true, Nat.le_refl, if_true, if_false, PV.scal, PV.scalL, SV.scal, SV.scalL, Ob.scal]
    exact finA_val (by simp [retA, rvA, List.mapM_cons, List.mapM_nil, Option.pure_def, Option.bind_eq_bind, Option.bind_some, Option.map_some, mkE_cons, mk_nil, mkO_cons, mkO_nil, loadA, ↓reduceIte, List.take_succ_cons, List.take_zero, List.drop_zero, List.drop_succ_cons, List.length_cons, List.length_nil, Nat.reduceAdd, Nat.reduceEqDiff, Nat.reduceLeDiff, Nat.zero_add, Nat.le_refl, reduceCtorEq, noSV]) (tr_no _)
  cases h2 : good a b
  · simp only [h1, h2, a13, List.zipIdx_cons, List.zipIdx_nil, gDrawn1, gGood, gCut, Gam.add, ↓aw_reg, ↓aw_dreg, ↓aw_skip, ↓aw_ret, ↓aw_exit, ↓aw_seq, ↓aw_block, ↓aw_cond, ↓run_nil, bindD_some, bindW_some, ↓run_d, ↓run_w, ↓run_g, ↓rund_nil, ↓rund_d, ↓rund_g, nrm_mk, gd_b, gd_un, br_b, put_mk, put_no, mkE_cons, mk_nil, mkO_cons, mkO_nil, setO_mk, ev_t, ev_c, ev_f, keepE_mk, keepO_mkO, freezeE_mk, freezeO_mk, trP, trO, stepD, stepW, newA, List.map_cons, List.map_nil, SV.tr, SV.trL, fz, Ob.tr, Option.map_some, Option.map_none, Option.bind_some, Option.bind_none, loadA, cellsA, PV.cells, SV.cells, binA, binI, eqOut, natOf, callee, snap, SV.refsL, SV.refs, List.append_nil, List.nil_append, List.cons_append, thaw, resO_nil', fzAll, loA, hiA, lenA, buildA, putCells, List.mapM_cons, List.mapM_nil, Option.pure_def, Option.bind_eq_bind, ↓reduceIte, reduceCtorEq, ne_eq, not_false_eq_true, not_true_eq_false, true_or, or_true, List.length_cons, List.length_nil, List.take_succ_cons, List.take_zero, List.drop_succ_cons, List.drop_zero, List.getElem?_cons_zero, List.getElem?_cons_succ, List.set_cons_zero, List.set_cons_succ, Bool.not_true, Bool.not_false, okCell, List.all_cons, List.all_nil, Bool.and_self, Bool.and_true, Bool.true_and, Option.isSome_some, and_self, and_true, true_and, Nat.zero_add, Nat.add_zero, Nat.reduceAdd, Nat.reduceEqDiff, Nat.reduceSub, Nat.reduceMul, Nat.reduceLeDiff, ge_iff_le, gt_iff_lt, decide_true, decide_false, Bool.false_eq_true, beq_self_eq_true, Nat.le_refl, if_true, if_false, PV.scal, PV.scalL, SV.scal, SV.scalL, Ob.scal]
    exact finA_val (by simp [retA, rvA, List.mapM_cons, List.mapM_nil, Option.pure_def, Option.bind_eq_bind, Option.bind_some, Option.map_some, mkE_cons, mk_nil, mkO_cons, mkO_nil, loadA, ↓reduceIte, List.take_succ_cons, List.take_zero, List.drop_zero, List.drop_succ_cons, List.length_cons, List.length_nil, Nat.reduceAdd, Nat.reduceEqDiff, Nat.reduceLeDiff, Nat.zero_add, Nat.le_refl, reduceCtorEq, noSV]) (tr_no _)
  · have hb := mean_bd (m := m) (a := a) (b := b) (by rw [drawn0, h1, h2]; rfl)
    simp only [h1, h2, hb, a13, List.zipIdx_cons, List.zipIdx_nil, gDrawn1, gGood, gCut, cutSV, Gam.add, ↓aw_reg, ↓aw_dreg, ↓aw_skip, ↓aw_ret, ↓aw_exit, ↓aw_seq, ↓aw_block, ↓aw_cond, ↓run_nil, bindD_some, bindW_some, ↓run_d, ↓run_w, ↓run_g, ↓rund_nil, ↓rund_d, ↓rund_g, nrm_mk, gd_b, gd_un, br_b, put_mk, put_no, mkE_cons, mk_nil, mkO_cons, mkO_nil, setO_mk, ev_t, ev_c, ev_f, keepE_mk, keepO_mkO, freezeE_mk, freezeO_mk, trP, trO, stepD, stepW, newA, List.map_cons, List.map_nil, SV.tr, SV.trL, fz, Ob.tr, Option.map_some, Option.map_none, Option.bind_some, Option.bind_none, loadA, cellsA, PV.cells, SV.cells, binA, binI, eqOut, natOf, callee, snap, SV.refsL, SV.refs, List.append_nil, List.nil_append, List.cons_append, thaw, resO_nil', fzAll, loA, hiA, lenA, buildA, putCells, List.mapM_cons, List.mapM_nil, Option.pure_def, Option.bind_eq_bind, ↓reduceIte, reduceCtorEq, ne_eq, not_false_eq_true, not_true_eq_false, true_or, or_true, List.length_cons, List.length_nil, List.take_succ_cons, List.take_zero, List.drop_succ_cons, List.drop_zero, List.getElem?_cons_zero, List.getElem?_cons_succ, List.set_cons_zero, List.set_cons_succ, Bool.not_true, Bool.not_false, okCell, List.all_cons, List.all_nil, Bool.and_self, Bool.and_true, Bool.true_and, Option.isSome_some, and_self, and_true, true_and, Nat.zero_add, Nat.add_zero, Nat.reduceAdd, Nat.reduceEqDiff, Nat.reduceSub, Nat.reduceMul, Nat.reduceLeDiff, ge_iff_le, gt_iff_lt, decide_true, decide_false, Bool.false_eq_true, beq_self_eq_true, Nat.le_refl, if_true, if_false, PV.scal, PV.scalL, SV.scal, SV.scalL, Ob.scal]
    exact finA_val (by simp [retA, rvA, List.mapM_cons, List.mapM_nil, Option.pure_def, Option.bind_eq_bind, Option.bind_some, Option.map_some, mkE_cons, mk_nil, mkO_cons, mkO_nil, loadA, ↓reduceIte, List.take_succ_cons, List.take_zero, List.drop_zero, List.drop_succ_cons, List.length_cons, List.length_nil, Nat.reduceAdd, Nat.reduceEqDiff, Nat.reduceLeDiff, Nat.zero_add, Nat.le_refl, reduceCtorEq, okSV, cutSV]) (tr_ok _ _ _)

def gEqA2 : List SV → Option (SV × List Ob)
  | [.p (.agg [.int .i64 a, .int .i64 b]), .p (.agg [.int .i64 c, .int .i64 d])] => if a = c ∧ b = d then some (.p (.bool true), []) else none
  | _ => none
theorem gs14 : ∀ args r fs, gEqA2 args = some (r, fs) → PC Try.prog 14 args [] r [] fs := by
  intro args r fs h
  unfold gEqA2 at h; split at h
  case h_2 => cases h
  rename_i a b c d
  split at h
  case isFalse => cases h
  rename_i hn
  obtain ⟨rfl, rfl⟩ := hn
  simp at h
  obtain ⟨rfl, rfl⟩ := h
  refine is14.go mixed GS.none k14 o14 (by simp [a14]) ?_
  simp only [a14, List.zipIdx_cons, List.zipIdx_nil, Gam.add, ↓aw_reg, ↓aw_dreg, ↓aw_skip, ↓aw_ret, ↓aw_exit, ↓aw_seq, ↓aw_block, ↓aw_cond, ↓run_nil, bindD_some, bindW_some, ↓run_d, ↓run_w, ↓run_g, ↓rund_nil, ↓rund_d, ↓rund_g, nrm_mk, gd_b, gd_un, br_b, put_mk, put_no, mkE_cons, mk_nil, mkO_cons, mkO_nil, setO_mk, ev_t, ev_c, ev_f, keepE_mk, keepO_mkO, freezeE_mk, freezeO_mk, trP, trO, stepD, stepW, newA, List.map_cons, List.map_nil, SV.tr, SV.trL, fz, Ob.tr, Option.map_some, Option.map_none, Option.bind_some, Option.bind_none, loadA, cellsA, PV.cells, SV.cells, binA, binI, eqOut, natOf, callee, snap, SV.refsL, SV.refs, List.append_nil, List.nil_append, List.cons_append, thaw, resO_nil', fzAll, loA, hiA, lenA, buildA, putCells, List.mapM_cons, List.mapM_nil, Option.pure_def, Option.bind_eq_bind, ↓reduceIte, reduceCtorEq, ne_eq, not_false_eq_true, not_true_eq_false, true_or, or_true, List.length_cons, List.length_nil, List.take_succ_cons, List.take_zero, List.drop_succ_cons, List.drop_zero, List.getElem?_cons_zero, List.getElem?_cons_succ, List.set_cons_zero, List.set_cons_succ, Bool.not_true, Bool.not_false, okCell, List.all_cons, List.all_nil, Bool.and_self, Bool.and_true, Bool.true_and, Option.isSome_some, and_self, and_true, true_and, Nat.zero_add, Nat.add_zero, Nat.reduceAdd, Nat.reduceEqDiff, Nat.reduceSub, Nat.reduceMul, Nat.reduceLeDiff, ge_iff_le, gt_iff_lt, decide_true, decide_false, Bool.false_eq_true, beq_self_eq_true, Nat.le_refl, if_true, if_false, PV.scal, PV.scalL, SV.scal, SV.scalL, Ob.scal]
  refine ⟨3, ?_⟩
  have w1 : IntKind.i64.wrap 1 = 1 := by decide
  have w2 : IntKind.i64.wrap 2 = 2 := by decide
  have n0 : Int.toNat 0 = 0 := rfl
  have n1 : Int.toNat 1 = 1 := rfl
  simp only [loopN, w1, w2, n0, n1, bne_self_eq_false, Int.reduceLT, Int.reduceAdd, Int.reduceLE, Nat.reduceLT, Nat.lt_irrefl, Nat.zero_mul, Nat.mul_one, Nat.one_mul, Nat.zero_lt_two, Nat.one_lt_two, Int.le_refl, Int.zero_le_ofNat, Gam.add, ↓aw_reg, ↓aw_dreg, ↓aw_skip, ↓aw_ret, ↓aw_exit, ↓aw_seq, ↓aw_block, ↓aw_cond, ↓run_nil, bindD_some, bindW_some, ↓run_d, ↓run_w, ↓run_g, ↓rund_nil, ↓rund_d, ↓rund_g, nrm_mk, gd_b, gd_un, br_b, put_mk, put_no, mkE_cons, mk_nil, mkO_cons, mkO_nil, setO_mk, ev_t, ev_c, ev_f, keepE_mk, keepO_mkO, freezeE_mk, freezeO_mk, trP, trO, stepD, stepW, newA, List.map_cons, List.map_nil, SV.tr, SV.trL, fz, Ob.tr, Option.map_some, Option.map_none, Option.bind_some, Option.bind_none, loadA, cellsA, PV.cells, SV.cells, binA, binI, eqOut, natOf, callee, snap, SV.refsL, SV.refs, List.append_nil, List.nil_append, List.cons_append, thaw, resO_nil', fzAll, loA, hiA, lenA, buildA, putCells, List.mapM_cons, List.mapM_nil, Option.pure_def, Option.bind_eq_bind, ↓reduceIte, reduceCtorEq, ne_eq, not_false_eq_true, not_true_eq_false, true_or, or_true, List.length_cons, List.length_nil, List.take_succ_cons, List.take_zero, List.drop_succ_cons, List.drop_zero, List.getElem?_cons_zero, List.getElem?_cons_succ, List.set_cons_zero, List.set_cons_succ, Bool.not_true, Bool.not_false, okCell, List.all_cons, List.all_nil, Bool.and_self, Bool.and_true, Bool.true_and, Option.isSome_some, and_self, and_true, true_and, Nat.zero_add, Nat.add_zero, Nat.reduceAdd, Nat.reduceEqDiff, Nat.reduceSub, Nat.reduceMul, Nat.reduceLeDiff, ge_iff_le, gt_iff_lt, decide_true, decide_false, Bool.false_eq_true, beq_self_eq_true, Nat.le_refl, if_true, if_false, PV.scal, PV.scalL, SV.scal, SV.scalL, Ob.scal]
  exact finA_val (by simp [retA, rvA, List.mapM_cons, List.mapM_nil, Option.pure_def, Option.bind_eq_bind, Option.bind_some, Option.map_some, mkE_cons, mk_nil, mkO_cons, mkO_nil, loadA, ↓reduceIte, List.take_succ_cons, List.take_zero, List.drop_zero, List.drop_succ_cons, List.length_cons, List.length_nil, Nat.reduceAdd, Nat.reduceEqDiff, Nat.reduceLeDiff, Nat.zero_add, Nat.le_refl, reduceCtorEq]) (by simp [SV.tr])
set_option maxHeartbeats 2000000 in
theorem w4 (m a b : Int) : PC Try.prog 4 [.p (.int .i64 m), .p (.agg [.int .i64 a, .int .i64 b])] [] (.p (.bool true)) [] [] := by
  refine is4.go mixed ((((GS.none.add gs10).add gs12).add gs13).add gs14) k4 o4 (by simp [a4]) ?_
  cases hd : drawn m 0 a b
  · simp only [hd, a4, List.zipIdx_cons, List.zipIdx_nil, gTo, gMean, noSV, gEqA2, bne_self_eq_false, Gam.add, ↓aw_reg, ↓aw_dreg, ↓aw_skip, ↓aw_ret, ↓aw_exit, ↓aw_seq, ↓aw_block, ↓aw_cond, ↓run_nil, bindD_some, bindW_some, ↓run_d, ↓run_w, ↓run_g, ↓rund_nil, ↓rund_d, ↓rund_g, nrm_mk, gd_b, gd_un, br_b, put_mk, put_no, mkE_cons, mk_nil, mkO_cons, mkO_nil, setO_mk, ev_t, ev_c, ev_f, keepE_mk, keepO_mkO, freezeE_mk, freezeO_mk, trP, trO, stepD, stepW, newA, List.map_cons, List.map_nil, SV.tr, SV.trL, fz, Ob.tr, Option.map_some, Option.map_none, Option.bind_some, Option.bind_none, loadA, cellsA, PV.cells, SV.cells, binA, binI, eqOut, natOf, callee, snap, SV.refsL, SV.refs, List.append_nil, List.nil_append, List.cons_append, thaw, resO_nil', fzAll, loA, hiA, lenA, buildA, putCells, List.mapM_cons, List.mapM_nil, Option.pure_def, Option.bind_eq_bind, ↓reduceIte, reduceCtorEq, ne_eq, not_false_eq_true, not_true_eq_false, true_or, or_true, List.length_cons, List.length_nil, List.take_succ_cons, List.take_zero, List.drop_succ_cons, List.drop_zero, List.getElem?_cons_zero, List.getElem?_cons_succ, List.set_cons_zero, List.set_cons_succ, Bool.not_true, Bool.not_false, okCell, List.all_cons, List.all_nil, Bool.and_self, Bool.and_true, Bool.true_and, Option.isSome_some, and_self, and_true, true_and, Nat.zero_add, Nat.add_zero, Nat.reduceAdd, Nat.reduceEqDiff, Nat.reduceSub, Nat.reduceMul, Nat.reduceLeDiff, ge_iff_le, gt_iff_lt, decide_true, decide_false, Bool.false_eq_true, beq_self_eq_true, Nat.le_refl, if_true, if_false, PV.scal, PV.scalL, SV.scal, SV.scalL, Ob.scal]
    exact finA_val (by simp [retA, rvA, List.mapM_cons, List.mapM_nil, Option.pure_def, Option.bind_eq_bind, Option.bind_some, Option.map_some, mkE_cons, mk_nil, mkO_cons, mkO_nil, loadA, ↓reduceIte, List.take_succ_cons, List.take_zero, List.drop_zero, List.drop_succ_cons, List.length_cons, List.length_nil, Nat.reduceAdd, Nat.reduceEqDiff, Nat.reduceLeDiff, Nat.zero_add, Nat.le_refl, reduceCtorEq]) (by simp [SV.tr])
  · simp only [hd, a4, List.zipIdx_cons, List.zipIdx_nil, gTo, gMean, okSV, cutSV, gEqA2, bne_self_eq_false, Gam.add, ↓aw_reg, ↓aw_dreg, ↓aw_skip, ↓aw_ret, ↓aw_exit, ↓aw_seq, ↓aw_block, ↓aw_cond, ↓run_nil, bindD_some, bindW_some, ↓run_d, ↓run_w, ↓run_g, ↓rund_nil, ↓rund_d, ↓rund_g, nrm_mk, gd_b, gd_un, br_b, put_mk, put_no, mkE_cons, mk_nil, mkO_cons, mkO_nil, setO_mk, ev_t, ev_c, ev_f, keepE_mk, keepO_mkO, freezeE_mk, freezeO_mk, trP, trO, stepD, stepW, newA, List.map_cons, List.map_nil, SV.tr, SV.trL, fz, Ob.tr, Option.map_some, Option.map_none, Option.bind_some, Option.bind_none, loadA, cellsA, PV.cells, SV.cells, binA, binI, eqOut, natOf, callee, snap, SV.refsL, SV.refs, List.append_nil, List.nil_append, List.cons_append, thaw, resO_nil', fzAll, loA, hiA, lenA, buildA, putCells, List.mapM_cons, List.mapM_nil, Option.pure_def, Option.bind_eq_bind, ↓reduceIte, reduceCtorEq, ne_eq, not_false_eq_true, not_true_eq_false, true_or, or_true, List.length_cons, List.length_nil, List.take_succ_cons, List.take_zero, List.drop_succ_cons, List.drop_zero, List.getElem?_cons_zero, List.getElem?_cons_succ, List.set_cons_zero, List.set_cons_succ, Bool.not_true, Bool.not_false, okCell, List.all_cons, List.all_nil, Bool.and_self, Bool.and_true, Bool.true_and, Option.isSome_some, and_self, and_true, true_and, Nat.zero_add, Nat.add_zero, Nat.reduceAdd, Nat.reduceEqDiff, Nat.reduceSub, Nat.reduceMul, Nat.reduceLeDiff, ge_iff_le, gt_iff_lt, decide_true, decide_false, Bool.false_eq_true, beq_self_eq_true, Nat.le_refl, if_true, if_false, PV.scal, PV.scalL, SV.scal, SV.scalL, Ob.scal]
    exact finA_val (by simp [retA, rvA, List.mapM_cons, List.mapM_nil, Option.pure_def, Option.bind_eq_bind, Option.bind_some, Option.map_some, mkE_cons, mk_nil, mkO_cons, mkO_nil, loadA, ↓reduceIte, List.take_succ_cons, List.take_zero, List.drop_zero, List.drop_succ_cons, List.length_cons, List.length_nil, Nat.reduceAdd, Nat.reduceEqDiff, Nat.reduceLeDiff, Nat.zero_add, Nat.le_refl, reduceCtorEq]) (by simp [SV.tr])
end Go.Proofs.Ytmjkdmlndbfdjaa
