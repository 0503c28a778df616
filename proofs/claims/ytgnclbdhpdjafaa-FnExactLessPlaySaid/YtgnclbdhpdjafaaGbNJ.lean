/- A part of the proof that stands in this folder: a small machine whose steps are shown to be the steps of the model, or walks of functions by it. No condition of its own. -/
import Derived.Test.YtgnclbdhpdjafaaGbNI
set_option linter.unusedVariables false
set_option linter.unusedSimpArgs false
namespace Go.Proofs.Ytgnclbdhpdjafaa.Pam
open Go
def c_s_LessPlay : Con := pure' fun
  | [.p (.agg [.sl 1 x_, .int .i64 m]), .p (.int .i64 s), .p (.int .i64 la)] => if isI x_ = true ∧ ((ofI x_).length ≤ 1100000) then some (.tp [.ar 2000000, .p (.bool (okY (ofI x_) m s la))], [.arr 2 (asks (if okY (ofI x_) m s la = true then plR m s.toNat la (ofI x_) else []))]) else none
  | _ => none
set_option maxHeartbeats 4000000 in
theorem s_s_LessPlay {P : Program} (hm : P.follows .mixedOrders = true) {Γ : Gam} (hΓ : GS P Γ) {n : FuncId} {f_l6Short : FuncId} {f_l1In : FuncId} {f_l6Needs : FuncId} {f_l6Done : FuncId} {f_l6Best : FuncId} {f_l6After : FuncId} (is : Is P n (a_s_LessPlay f_l6Short f_l1In f_l6Needs f_l6Done f_l6Best f_l6After)) (h_l6Short : Γ f_l6Short = c_isShort) (h_l1In : Γ f_l1In = c_in) (h_l6Needs : Γ f_l6Needs = c_l6Needs) (h_l6Done : Γ f_l6Done = c_l6Done) (h_l6Best : Γ f_l6Best = c_l6Best) (h_l6After : Γ f_l6After = c_l6After)  : Says P n c_s_LessPlay := by
  refine Says.pure fun args r fs h => ?_
  split at h
  case h_2 => cases h
  rename_i x_ m s la
  split at h
  case isFalse => cases h
  rename_i hc
  obtain ⟨hx_, hc⟩ := hc
  obtain ⟨x, rfl⟩ := isI_out hx_
  simp only [ofI_ints, ofBo_bools, ofAs_asks, Option.some.injEq, Prod.mk.injEq] at h hc
  obtain ⟨rfl, rfl⟩ := h
  have hwl : IntKind.i64.wrap ((x.length : Int) - 1) = (x.length : Int) - 1 := wrap64 (by omega) (by omega)
  cases h1 : isSh x m with
  | false =>
    have hp : okY x m s la = false := by simp only [okY, h1, Bool.false_and]
    refine is.go hm hΓ k_s_LessPlay o_s_LessPlay (by simp [a_s_LessPlay]) ?_
    simp only [a_s_LessPlay, h_l6Short, c_isShort, h_l1In, c_in, h_l6Needs, c_l6Needs, h_l6Done, c_l6Done, h_l6Best, c_l6Best, h_l6After, c_l6After, hc, h1, hp, hwl, Bool.false_eq_true, List.zipIdx_cons, List.zipIdx_nil, ↓SP, SQ, Gam.add, stepM, callC, argC, lendO, nmBy, nmC, likeL, likeB, plainOb, offs, exL, X, F, trP, trO, stepD, stepW, newA, SV.tr, SV.trL, fz, allP, Ob.tr, loadA, cellsA, SV.cells, binA, binI, eqOut, isSl, isPt, natOf, callee, snap, SV.refsL, SV.refs, thaw, fzAll, loA, hiA, elemOf, partsA, buildA, putCells, ↓reduceIte, reduceCtorEq, okCell, Nat.reduceAdd, Nat.reduceEqDiff, Nat.reduceSub, Nat.reduceMul, Nat.reduceLeDiff, Nat.reduceLT, Nat.reduceBEq, PV.scal, PV.scalL, SV.scal, SV.scalL, Ob.scal, PV.isCell, pure', resO]
    refine finA_gen [12] trivial (by simp [retA, rvA, List.mapM_cons, List.mapM_nil, Option.pure_def, Option.bind_eq_bind, Option.bind_some, Option.map_some, mkE_cons, mk_nil, mkO_cons, mkO_nil, loadA, ↓reduceIte, List.take_succ_cons, List.take_zero, List.drop_zero, List.drop_succ_cons, List.length_cons, List.length_nil, Nat.reduceAdd, Nat.reduceEqDiff, Nat.reduceLeDiff, Nat.zero_add, Nat.le_refl, reduceCtorEq, SV.tr, SV.trL, nmF, rn_nil, rn_cons1, rn_cons2, List.map_cons, List.map_nil, List.all_cons, List.all_nil, plainOb, SV.refsL, SV.refs, Ob.refs, X, F, List.range_succ, List.range_zero, List.nil_append, List.cons_append, List.isEmpty_nil, decide_true, Nat.reduceLT, Bool.and_self, Bool.and_true, and_self, and_true, List.getElem?_cons_zero, List.getElem?_cons_succ, List.nodup_cons, List.nodup_nil, List.mem_cons, List.not_mem_nil, not_false_eq_true, or_false, List.append_nil, mkO, setO_mk, List.mem_singleton]; rfl) ?_ ?_ ?_ ?_ ?_ ?_ ?_ <;> simp [asks, retA, rvA, List.mapM_cons, List.mapM_nil, Option.pure_def, Option.bind_eq_bind, Option.bind_some, Option.map_some, mkE_cons, mk_nil, mkO_cons, mkO_nil, loadA, ↓reduceIte, List.take_succ_cons, List.take_zero, List.drop_zero, List.drop_succ_cons, List.length_cons, List.length_nil, Nat.reduceAdd, Nat.reduceEqDiff, Nat.reduceLeDiff, Nat.zero_add, Nat.le_refl, reduceCtorEq, SV.tr, SV.trL, nmF, rn_nil, rn_cons1, rn_cons2, List.map_cons, List.map_nil, List.all_cons, List.all_nil, plainOb, SV.refsL, SV.refs, Ob.refs, X, F, List.range_succ, List.range_zero, List.nil_append, List.cons_append, List.isEmpty_nil, decide_true, Nat.reduceLT, Bool.and_self, Bool.and_true, and_self, and_true, List.getElem?_cons_zero, List.getElem?_cons_succ, List.nodup_cons, List.nodup_nil, List.mem_cons, List.not_mem_nil, not_false_eq_true, or_false, List.append_nil, mkO, setO_mk, List.mem_singleton]
  | true =>
    cases h2 : (decide (0 ≤ s) && decide (s ≤ (x.length : Int) - 1)) with
    | false =>
      have hp : okY x m s la = false := by simp only [okY, opn, h2, Bool.and_false, Bool.false_and]
      refine is.go hm hΓ k_s_LessPlay o_s_LessPlay (by simp [a_s_LessPlay]) ?_
      simp only [a_s_LessPlay, h_l6Short, c_isShort, h_l1In, c_in, h_l6Needs, c_l6Needs, h_l6Done, c_l6Done, h_l6Best, c_l6Best, h_l6After, c_l6After, hc, h1, h2, hp, hwl, ints_len, Bool.false_eq_true, List.zipIdx_cons, List.zipIdx_nil, ↓SP, SQ, Gam.add, stepM, callC, argC, lendO, nmBy, nmC, likeL, likeB, plainOb, offs, exL, X, F, trP, trO, stepD, stepW, newA, SV.tr, SV.trL, fz, allP, Ob.tr, loadA, cellsA, SV.cells, binA, binI, eqOut, isSl, isPt, natOf, callee, snap, SV.refsL, SV.refs, thaw, fzAll, loA, hiA, elemOf, partsA, buildA, putCells, ↓reduceIte, reduceCtorEq, okCell, Nat.reduceAdd, Nat.reduceEqDiff, Nat.reduceSub, Nat.reduceMul, Nat.reduceLeDiff, Nat.reduceLT, Nat.reduceBEq, PV.scal, PV.scalL, SV.scal, SV.scalL, Ob.scal, PV.isCell, pure', resO]
      refine finA_gen [12] trivial (by simp [retA, rvA, List.mapM_cons, List.mapM_nil, Option.pure_def, Option.bind_eq_bind, Option.bind_some, Option.map_some, mkE_cons, mk_nil, mkO_cons, mkO_nil, loadA, ↓reduceIte, List.take_succ_cons, List.take_zero, List.drop_zero, List.drop_succ_cons, List.length_cons, List.length_nil, Nat.reduceAdd, Nat.reduceEqDiff, Nat.reduceLeDiff, Nat.zero_add, Nat.le_refl, reduceCtorEq, SV.tr, SV.trL, nmF, rn_nil, rn_cons1, rn_cons2, List.map_cons, List.map_nil, List.all_cons, List.all_nil, plainOb, SV.refsL, SV.refs, Ob.refs, X, F, List.range_succ, List.range_zero, List.nil_append, List.cons_append, List.isEmpty_nil, decide_true, Nat.reduceLT, Bool.and_self, Bool.and_true, and_self, and_true, List.getElem?_cons_zero, List.getElem?_cons_succ, List.nodup_cons, List.nodup_nil, List.mem_cons, List.not_mem_nil, not_false_eq_true, or_false, List.append_nil, mkO, setO_mk, List.mem_singleton]; rfl) ?_ ?_ ?_ ?_ ?_ ?_ ?_ <;> simp [asks, retA, rvA, List.mapM_cons, List.mapM_nil, Option.pure_def, Option.bind_eq_bind, Option.bind_some, Option.map_some, mkE_cons, mk_nil, mkO_cons, mkO_nil, loadA, ↓reduceIte, List.take_succ_cons, List.take_zero, List.drop_zero, List.drop_succ_cons, List.length_cons, List.length_nil, Nat.reduceAdd, Nat.reduceEqDiff, Nat.reduceLeDiff, Nat.zero_add, Nat.le_refl, reduceCtorEq, SV.tr, SV.trL, nmF, rn_nil, rn_cons1, rn_cons2, List.map_cons, List.map_nil, List.all_cons, List.all_nil, plainOb, SV.refsL, SV.refs, Ob.refs, X, F, List.range_succ, List.range_zero, List.nil_append, List.cons_append, List.isEmpty_nil, decide_true, Nat.reduceLT, Bool.and_self, Bool.and_true, and_self, and_true, List.getElem?_cons_zero, List.getElem?_cons_succ, List.nodup_cons, List.nodup_nil, List.mem_cons, List.not_mem_nil, not_false_eq_true, or_false, List.append_nil, mkO, setO_mk, List.mem_singleton]
    | true =>
      have h2' : 0 ≤ s ∧ s ≤ (x.length : Int) - 1 := by simpa using h2
      obtain ⟨s, rfl⟩ : ∃ q : Nat, s = q := ⟨s.toNat, by omega⟩
      have hs0 : (0 : Int) ≤ (s : Int) := by omega
      have hsl : s < x.length := by omega
      have hs1 : (s : Int) ≤ (x.length : Int) - 1 := by omega
      have hg := ints_get hsl
      by_cases h3 : x.getD s 0 < 0
      · have hp : okY x m s la = false := by simp only [okY, opn, Int.toNat_natCast, dec_f (show ¬ 0 ≤ x.getD s 0 by omega), Bool.and_false, Bool.false_and]
        refine is.go hm hΓ k_s_LessPlay o_s_LessPlay (by simp [a_s_LessPlay]) ?_
        simp only [a_s_LessPlay, h_l6Short, c_isShort, h_l1In, c_in, h_l6Needs, c_l6Needs, h_l6Done, c_l6Done, h_l6Best, c_l6Best, h_l6After, c_l6After, hc, h1, hs1, decide_true, Bool.and_self, Bool.true_and, Bool.not_true, h3, hs0, hsl, hg, hp, hwl, Int.toNat_natCast, ints_len, Bool.false_eq_true, List.zipIdx_cons, List.zipIdx_nil, ↓SP, SQ, Gam.add, stepM, callC, argC, lendO, nmBy, nmC, likeL, likeB, plainOb, offs, exL, X, F, trP, trO, stepD, stepW, newA, SV.tr, SV.trL, fz, allP, Ob.tr, loadA, cellsA, SV.cells, binA, binI, eqOut, isSl, isPt, natOf, callee, snap, SV.refsL, SV.refs, thaw, fzAll, loA, hiA, elemOf, partsA, buildA, putCells, ↓reduceIte, reduceCtorEq, okCell, Nat.reduceAdd, Nat.reduceEqDiff, Nat.reduceSub, Nat.reduceMul, Nat.reduceLeDiff, Nat.reduceLT, Nat.reduceBEq, PV.scal, PV.scalL, SV.scal, SV.scalL, Ob.scal, PV.isCell, pure', resO]
        refine finA_gen [12] trivial (by simp [retA, rvA, List.mapM_cons, List.mapM_nil, Option.pure_def, Option.bind_eq_bind, Option.bind_some, Option.map_some, mkE_cons, mk_nil, mkO_cons, mkO_nil, loadA, ↓reduceIte, List.take_succ_cons, List.take_zero, List.drop_zero, List.drop_succ_cons, List.length_cons, List.length_nil, Nat.reduceAdd, Nat.reduceEqDiff, Nat.reduceLeDiff, Nat.zero_add, Nat.le_refl, reduceCtorEq, SV.tr, SV.trL, nmF, rn_nil, rn_cons1, rn_cons2, List.map_cons, List.map_nil, List.all_cons, List.all_nil, plainOb, SV.refsL, SV.refs, Ob.refs, X, F, List.range_succ, List.range_zero, List.nil_append, List.cons_append, List.isEmpty_nil, decide_true, Nat.reduceLT, Bool.and_self, Bool.and_true, and_self, and_true, List.getElem?_cons_zero, List.getElem?_cons_succ, List.nodup_cons, List.nodup_nil, List.mem_cons, List.not_mem_nil, not_false_eq_true, or_false, List.append_nil, mkO, setO_mk, List.mem_singleton]; rfl) ?_ ?_ ?_ ?_ ?_ ?_ ?_ <;> simp [asks, retA, rvA, List.mapM_cons, List.mapM_nil, Option.pure_def, Option.bind_eq_bind, Option.bind_some, Option.map_some, mkE_cons, mk_nil, mkO_cons, mkO_nil, loadA, ↓reduceIte, List.take_succ_cons, List.take_zero, List.drop_zero, List.drop_succ_cons, List.length_cons, List.length_nil, Nat.reduceAdd, Nat.reduceEqDiff, Nat.reduceLeDiff, Nat.zero_add, Nat.le_refl, reduceCtorEq, SV.tr, SV.trL, nmF, rn_nil, rn_cons1, rn_cons2, List.map_cons, List.map_nil, List.all_cons, List.all_nil, plainOb, SV.refsL, SV.refs, Ob.refs, X, F, List.range_succ, List.range_zero, List.nil_append, List.cons_append, List.isEmpty_nil, decide_true, Nat.reduceLT, Bool.and_self, Bool.and_true, and_self, and_true, List.getElem?_cons_zero, List.getElem?_cons_succ, List.nodup_cons, List.nodup_nil, List.mem_cons, List.not_mem_nil, not_false_eq_true, or_false, List.append_nil, mkO, setO_mk, List.mem_singleton]
      · by_cases h4 : la < -1
        · have hp : okY x m s la = false := by simp only [okY, dec_f (show ¬ (-1 ≤ la) by omega), Bool.and_false, Bool.false_and]
          refine is.go hm hΓ k_s_LessPlay o_s_LessPlay (by simp [a_s_LessPlay]) ?_
          simp only [a_s_LessPlay, h_l6Short, c_isShort, h_l1In, c_in, h_l6Needs, c_l6Needs, h_l6Done, c_l6Done, h_l6Best, c_l6Best, h_l6After, c_l6After, hc, h1, hs1, decide_true, Bool.and_self, Bool.true_and, Bool.not_true, h3, h4, hs0, hsl, hg, hp, hwl, Int.toNat_natCast, ints_len, Bool.false_eq_true, List.zipIdx_cons, List.zipIdx_nil, ↓SP, SQ, Gam.add, stepM, callC, argC, lendO, nmBy, nmC, likeL, likeB, plainOb, offs, exL, X, F, trP, trO, stepD, stepW, newA, SV.tr, SV.trL, fz, allP, Ob.tr, loadA, cellsA, SV.cells, binA, binI, eqOut, isSl, isPt, natOf, callee, snap, SV.refsL, SV.refs, thaw, fzAll, loA, hiA, elemOf, partsA, buildA, putCells, ↓reduceIte, reduceCtorEq, okCell, Nat.reduceAdd, Nat.reduceEqDiff, Nat.reduceSub, Nat.reduceMul, Nat.reduceLeDiff, Nat.reduceLT, Nat.reduceBEq, PV.scal, PV.scalL, SV.scal, SV.scalL, Ob.scal, PV.isCell, pure', resO]
          refine finA_gen [12] trivial (by simp [retA, rvA, List.mapM_cons, List.mapM_nil, Option.pure_def, Option.bind_eq_bind, Option.bind_some, Option.map_some, mkE_cons, mk_nil, mkO_cons, mkO_nil, loadA, ↓reduceIte, List.take_succ_cons, List.take_zero, List.drop_zero, List.drop_succ_cons, List.length_cons, List.length_nil, Nat.reduceAdd, Nat.reduceEqDiff, Nat.reduceLeDiff, Nat.zero_add, Nat.le_refl, reduceCtorEq, SV.tr, SV.trL, nmF, rn_nil, rn_cons1, rn_cons2, List.map_cons, List.map_nil, List.all_cons, List.all_nil, plainOb, SV.refsL, SV.refs, Ob.refs, X, F, List.range_succ, List.range_zero, List.nil_append, List.cons_append, List.isEmpty_nil, decide_true, Nat.reduceLT, Bool.and_self, Bool.and_true, and_self, and_true, List.getElem?_cons_zero, List.getElem?_cons_succ, List.nodup_cons, List.nodup_nil, List.mem_cons, List.not_mem_nil, not_false_eq_true, or_false, List.append_nil, mkO, setO_mk, List.mem_singleton]; rfl) ?_ ?_ ?_ ?_ ?_ ?_ ?_ <;> simp [asks, retA, rvA, List.mapM_cons, List.mapM_nil, Option.pure_def, Option.bind_eq_bind, Option.bind_some, Option.map_some, mkE_cons, mk_nil, mkO_cons, mkO_nil, loadA, ↓reduceIte, List.take_succ_cons, List.take_zero, List.drop_zero, List.drop_succ_cons, List.length_cons, List.length_nil, Nat.reduceAdd, Nat.reduceEqDiff, Nat.reduceLeDiff, Nat.zero_add, Nat.le_refl, reduceCtorEq, SV.tr, SV.trL, nmF, rn_nil, rn_cons1, rn_cons2, List.map_cons, List.map_nil, List.all_cons, List.all_nil, plainOb, SV.refsL, SV.refs, Ob.refs, X, F, List.range_succ, List.range_zero, List.nil_append, List.cons_append, List.isEmpty_nil, decide_true, Nat.reduceLT, Bool.and_self, Bool.and_true, and_self, and_true, List.getElem?_cons_zero, List.getElem?_cons_succ, List.nodup_cons, List.nodup_nil, List.mem_cons, List.not_mem_nil, not_false_eq_true, or_false, List.append_nil, mkO, setO_mk, List.mem_singleton]
        · have hokY : okY x m s la = (!(decide (0 ≤ la) && decide (m ≤ x.getD s 0)) && !decide (((plR m s la x).length : Int) ≤ la)) := by
            simp only [okY, h1, opn, h2, dec_t (show -1 ≤ la by omega), Int.toNat_natCast, dec_t (show 0 ≤ x.getD s 0 by omega), Bool.true_and, Bool.and_true]
          by_cases h5 : la ≥ 0
          · by_cases h6 : x.getD s 0 ≥ m
            · have hp : okY x m s la = false := by rw [hokY, dec_t (show 0 ≤ la from h5), dec_t (show m ≤ x.getD s 0 from h6)]; rfl
              refine is.go hm hΓ k_s_LessPlay o_s_LessPlay (by simp [a_s_LessPlay]) ?_
              simp only [a_s_LessPlay, h_l6Short, c_isShort, h_l1In, c_in, h_l6Needs, c_l6Needs, h_l6Done, c_l6Done, h_l6Best, c_l6Best, h_l6After, c_l6After, hc, h1, hs1, decide_true, Bool.and_self, Bool.true_and, Bool.not_true, h3, h4, h5, h6, hs0, hsl, hg, hp, hwl, Int.toNat_natCast, ints_len, Bool.false_eq_true, List.zipIdx_cons, List.zipIdx_nil, ↓SP, SQ, Gam.add, stepM, callC, argC, lendO, nmBy, nmC, likeL, likeB, plainOb, offs, exL, X, F, trP, trO, stepD, stepW, newA, SV.tr, SV.trL, fz, allP, Ob.tr, loadA, cellsA, SV.cells, binA, binI, eqOut, isSl, isPt, natOf, callee, snap, SV.refsL, SV.refs, thaw, fzAll, loA, hiA, elemOf, partsA, buildA, putCells, ↓reduceIte, reduceCtorEq, okCell, Nat.reduceAdd, Nat.reduceEqDiff, Nat.reduceSub, Nat.reduceMul, Nat.reduceLeDiff, Nat.reduceLT, Nat.reduceBEq, PV.scal, PV.scalL, SV.scal, SV.scalL, Ob.scal, PV.isCell, pure', resO]
              refine finA_gen [12] trivial (by simp [retA, rvA, List.mapM_cons, List.mapM_nil, Option.pure_def, Option.bind_eq_bind, Option.bind_some, Option.map_some, mkE_cons, mk_nil, mkO_cons, mkO_nil, loadA, ↓reduceIte, List.take_succ_cons, List.take_zero, List.drop_zero, List.drop_succ_cons, List.length_cons, List.length_nil, Nat.reduceAdd, Nat.reduceEqDiff, Nat.reduceLeDiff, Nat.zero_add, Nat.le_refl, reduceCtorEq, SV.tr, SV.trL, nmF, rn_nil, rn_cons1, rn_cons2, List.map_cons, List.map_nil, List.all_cons, List.all_nil, plainOb, SV.refsL, SV.refs, Ob.refs, X, F, List.range_succ, List.range_zero, List.nil_append, List.cons_append, List.isEmpty_nil, decide_true, Nat.reduceLT, Bool.and_self, Bool.and_true, and_self, and_true, List.getElem?_cons_zero, List.getElem?_cons_succ, List.nodup_cons, List.nodup_nil, List.mem_cons, List.not_mem_nil, not_false_eq_true, or_false, List.append_nil, mkO, setO_mk, List.mem_singleton]; rfl) ?_ ?_ ?_ ?_ ?_ ?_ ?_ <;> simp [asks, retA, rvA, List.mapM_cons, List.mapM_nil, Option.pure_def, Option.bind_eq_bind, Option.bind_some, Option.map_some, mkE_cons, mk_nil, mkO_cons, mkO_nil, loadA, ↓reduceIte, List.take_succ_cons, List.take_zero, List.drop_zero, List.drop_succ_cons, List.length_cons, List.length_nil, Nat.reduceAdd, Nat.reduceEqDiff, Nat.reduceLeDiff, Nat.zero_add, Nat.le_refl, reduceCtorEq, SV.tr, SV.trL, nmF, rn_nil, rn_cons1, rn_cons2, List.map_cons, List.map_nil, List.all_cons, List.all_nil, plainOb, SV.refsL, SV.refs, Ob.refs, X, F, List.range_succ, List.range_zero, List.nil_append, List.cons_append, List.isEmpty_nil, decide_true, Nat.reduceLT, Bool.and_self, Bool.and_true, and_self, and_true, List.getElem?_cons_zero, List.getElem?_cons_succ, List.nodup_cons, List.nodup_nil, List.mem_cons, List.not_mem_nil, not_false_eq_true, or_false, List.append_nil, mkO, setO_mk, List.mem_singleton]
            · have hok2 : okY x m s la = !decide (((plR m s la x).length : Int) ≤ la) := by rw [hokY, dec_f (show ¬ m ≤ x.getD s 0 from h6)]; simp
              have hi := sh_i5 h1
              have hl5 := (sh_out h1).2.1
              have hml := (CS.of h1).le
              have hx0 : 0 ≤ x.getD s 0 := by omega
              clear hokY
              simp only [Int.toNat_natCast]
              refine is.go hm hΓ k_s_LessPlay o_s_LessPlay (by simp [a_s_LessPlay]) ?_
              simp only [a_s_LessPlay, h_l6Short, c_isShort, h_l1In, c_in, h_l6Needs, c_l6Needs, h_l6Done, c_l6Done, h_l6Best, c_l6Best, h_l6After, c_l6After, hc, h1, hs1, decide_true, Bool.and_self, Bool.true_and, Bool.not_true, h3, h4, h5, h6, hi, hs0, hsl, hg, hwl, Int.toNat_natCast, ints_len, isI_ints, ofI_ints, Bool.false_eq_true, List.zipIdx_cons, List.zipIdx_nil, ↓SP, SQ, Gam.add, stepM, callC, argC, lendO, nmBy, nmC, likeL, likeB, plainOb, offs, exL, X, F, trP, trO, stepD, stepW, newA, SV.tr, SV.trL, fz, allP, Ob.tr, loadA, cellsA, SV.cells, binA, binI, eqOut, isSl, isPt, natOf, callee, snap, SV.refsL, SV.refs, thaw, fzAll, loA, hiA, elemOf, partsA, buildA, putCells, ↓reduceIte, reduceCtorEq, okCell, Nat.reduceAdd, Nat.reduceEqDiff, Nat.reduceSub, Nat.reduceMul, Nat.reduceLeDiff, Nat.reduceLT, Nat.reduceBEq, PV.scal, PV.scalL, SV.scal, SV.scalL, Ob.scal, PV.isCell, pure', resO]
              refine loop_at (fun q : W7 => mkEnv [(0, .p (.agg [.sl 1 (ints x), .int .i64 m])), (1, si s), (2, si la), (3, .bx 3 0), (6, .p .nilsl), (7, sb false), (8, .ar 12), (9, .p (.sl 1 (ints (tblL m x.length)))), (10, q.a), (11, q.b), (50, sb false), (60, q.c), (87, .junk)]) (fun q => mkO [(3, some (.box [.p (.sl 1 (ints q.x)), si m])), (12, some (.arr 2 (asks q.out))), (78, q.o), (79, none), (88, none)]) (fun q => isSh q.x m = true ∧ q.x.length = x.length ∧ msL m q.x ≤ q.f ∧ plF m s la q.f q.x q.out = plR m s la x ∧ q.out.length + q.f ≤ 10) (fun q => q.f) ⟨x, [], [], msL m x, .junk, .junk, .junk, .junk, none, none⟩ ⟨h1, rfl, Nat.le_refl _, rfl, by simp only [List.length_nil]; omega⟩ rfl rfl ?_
              rintro ⟨z, out, E, f, c1, c2, c3, c4, o1, o2⟩ ⟨hz, hzl, hms, hpl, hof⟩ R hR hN
              simp only at hz hzl hms hpl hof
              have hlen := sh_len hz
              by_cases ho : (opens z).length < 2
              · have ho2 : ((opens z).length : Int) < 2 := by omega
                have hfe : out = plR m s la x := by rw [← hpl, plF_done ho]
                simp only [hc, hzl, ho2, h_l6Done, c_l6Done, isI_ints, ofI_ints, ints_len, ↓SP, SQ, Gam.add, stepM, callC, argC, lendO, nmBy, nmC, likeL, likeB, plainOb, offs, exL, X, F, trP, trO, stepD, stepW, newA, SV.tr, SV.trL, fz, allP, Ob.tr, loadA, cellsA, SV.cells, binA, binI, eqOut, isSl, isPt, natOf, callee, snap, SV.refsL, SV.refs, thaw, fzAll, loA, hiA, elemOf, partsA, buildA, putCells, ↓reduceIte, reduceCtorEq, okCell, Nat.reduceAdd, Nat.reduceEqDiff, Nat.reduceSub, Nat.reduceMul, Nat.reduceLeDiff, Nat.reduceLT, Nat.reduceBEq, PV.scal, PV.scalL, SV.scal, SV.scalL, Ob.scal, PV.isCell, pure', resO]
                refine hR _ _ _ (by intro h; cases h) ?_
                by_cases hge : la ≥ (out.length : Int)
                · have hp : okY x m s la = false := by rw [hok2, ← hfe, dec_t (show (out.length : Int) ≤ la from hge)]; rfl
                  rw [hp]
                  simp only [hge, asks_len, Bool.false_eq_true, ↓SP, SQ, Gam.add, stepM, callC, argC, lendO, nmBy, nmC, likeL, likeB, plainOb, offs, exL, X, F, trP, trO, stepD, stepW, newA, SV.tr, SV.trL, fz, allP, Ob.tr, loadA, cellsA, SV.cells, binA, binI, eqOut, isSl, isPt, natOf, callee, snap, SV.refsL, SV.refs, thaw, fzAll, loA, hiA, elemOf, partsA, buildA, putCells, ↓reduceIte, reduceCtorEq, okCell, Nat.reduceAdd, Nat.reduceEqDiff, Nat.reduceSub, Nat.reduceMul, Nat.reduceLeDiff, Nat.reduceLT, Nat.reduceBEq, PV.scal, PV.scalL, SV.scal, SV.scalL, Ob.scal, PV.isCell, pure', resO]
                  refine finA_gen [88] trivial (by simp [retA, rvA, List.mapM_cons, List.mapM_nil, Option.pure_def, Option.bind_eq_bind, Option.bind_some, Option.map_some, mkE_cons, mk_nil, mkO_cons, mkO_nil, loadA, ↓reduceIte, List.take_succ_cons, List.take_zero, List.drop_zero, List.drop_succ_cons, List.length_cons, List.length_nil, Nat.reduceAdd, Nat.reduceEqDiff, Nat.reduceLeDiff, Nat.zero_add, Nat.le_refl, reduceCtorEq, SV.tr, SV.trL, nmF, rn_nil, rn_cons1, rn_cons2, List.map_cons, List.map_nil, List.all_cons, List.all_nil, plainOb, SV.refsL, SV.refs, Ob.refs, X, F, List.range_succ, List.range_zero, List.nil_append, List.cons_append, List.isEmpty_nil, decide_true, Nat.reduceLT, Bool.and_self, Bool.and_true, and_self, and_true, List.getElem?_cons_zero, List.getElem?_cons_succ, List.nodup_cons, List.nodup_nil, List.mem_cons, List.not_mem_nil, not_false_eq_true, or_false, List.append_nil, mkO, setO_mk, List.mem_singleton]; rfl) ?_ ?_ ?_ ?_ ?_ ?_ ?_ <;> simp [asks, retA, rvA, List.mapM_cons, List.mapM_nil, Option.pure_def, Option.bind_eq_bind, Option.bind_some, Option.map_some, mkE_cons, mk_nil, mkO_cons, mkO_nil, loadA, ↓reduceIte, List.take_succ_cons, List.take_zero, List.drop_zero, List.drop_succ_cons, List.length_cons, List.length_nil, Nat.reduceAdd, Nat.reduceEqDiff, Nat.reduceLeDiff, Nat.zero_add, Nat.le_refl, reduceCtorEq, SV.tr, SV.trL, nmF, rn_nil, rn_cons1, rn_cons2, List.map_cons, List.map_nil, List.all_cons, List.all_nil, plainOb, SV.refsL, SV.refs, Ob.refs, X, F, List.range_succ, List.range_zero, List.nil_append, List.cons_append, List.isEmpty_nil, decide_true, Nat.reduceLT, Bool.and_self, Bool.and_true, and_self, and_true, List.getElem?_cons_zero, List.getElem?_cons_succ, List.nodup_cons, List.nodup_nil, List.mem_cons, List.not_mem_nil, not_false_eq_true, or_false, List.append_nil, mkO, setO_mk, List.mem_singleton]
                · have hp : okY x m s la = true := by rw [hok2, ← hfe, dec_f (show ¬ (out.length : Int) ≤ la by omega)]; rfl
                  rw [hp]
                  simp only [hge, asks_len, ↓SP, SQ, Gam.add, stepM, callC, argC, lendO, nmBy, nmC, likeL, likeB, plainOb, offs, exL, X, F, trP, trO, stepD, stepW, newA, SV.tr, SV.trL, fz, allP, Ob.tr, loadA, cellsA, SV.cells, binA, binI, eqOut, isSl, isPt, natOf, callee, snap, SV.refsL, SV.refs, thaw, fzAll, loA, hiA, elemOf, partsA, buildA, putCells, ↓reduceIte, reduceCtorEq, okCell, Nat.reduceAdd, Nat.reduceEqDiff, Nat.reduceSub, Nat.reduceMul, Nat.reduceLeDiff, Nat.reduceLT, Nat.reduceBEq, PV.scal, PV.scalL, SV.scal, SV.scalL, Ob.scal, PV.isCell, pure', resO]
                  refine finA_gen [12] trivial (by simp [retA, rvA, List.mapM_cons, List.mapM_nil, Option.pure_def, Option.bind_eq_bind, Option.bind_some, Option.map_some, mkE_cons, mk_nil, mkO_cons, mkO_nil, loadA, ↓reduceIte, List.take_succ_cons, List.take_zero, List.drop_zero, List.drop_succ_cons, List.length_cons, List.length_nil, Nat.reduceAdd, Nat.reduceEqDiff, Nat.reduceLeDiff, Nat.zero_add, Nat.le_refl, reduceCtorEq, SV.tr, SV.trL, nmF, rn_nil, rn_cons1, rn_cons2, List.map_cons, List.map_nil, List.all_cons, List.all_nil, plainOb, SV.refsL, SV.refs, Ob.refs, X, F, List.range_succ, List.range_zero, List.nil_append, List.cons_append, List.isEmpty_nil, decide_true, Nat.reduceLT, Bool.and_self, Bool.and_true, and_self, and_true, List.getElem?_cons_zero, List.getElem?_cons_succ, List.nodup_cons, List.nodup_nil, List.mem_cons, List.not_mem_nil, not_false_eq_true, or_false, List.append_nil, mkO, setO_mk, List.mem_singleton]; rfl) ?_ ?_ ?_ ?_ ?_ ?_ ?_ <;> simp [hfe, retA, rvA, List.mapM_cons, List.mapM_nil, Option.pure_def, Option.bind_eq_bind, Option.bind_some, Option.map_some, mkE_cons, mk_nil, mkO_cons, mkO_nil, loadA, ↓reduceIte, List.take_succ_cons, List.take_zero, List.drop_zero, List.drop_succ_cons, List.length_cons, List.length_nil, Nat.reduceAdd, Nat.reduceEqDiff, Nat.reduceLeDiff, Nat.zero_add, Nat.le_refl, reduceCtorEq, SV.tr, SV.trL, nmF, rn_nil, rn_cons1, rn_cons2, List.map_cons, List.map_nil, List.all_cons, List.all_nil, plainOb, SV.refsL, SV.refs, Ob.refs, X, F, List.range_succ, List.range_zero, List.nil_append, List.cons_append, List.isEmpty_nil, decide_true, Nat.reduceLT, Bool.and_self, Bool.and_true, and_self, and_true, List.getElem?_cons_zero, List.getElem?_cons_succ, List.nodup_cons, List.nodup_nil, List.mem_cons, List.not_mem_nil, not_false_eq_true, or_false, List.append_nil, mkO, setO_mk, List.mem_singleton]
              · have ho2 : ¬ ((opens z).length : Int) < 2 := by omega
                obtain ⟨k1, k2, k3⟩ := kbT_bd hz ho
                have h05 : (0 : Int) ≤ (kbT m z : Int) ∧ (kbT m z : Int) ≤ 5 := by omega
                have hsk : decide ((s : Int) < (kbT m z : Int)) = decide (s < kbT m z) := by
                  rw [Bool.eq_iff_iff, decide_eq_true_eq, decide_eq_true_eq]; omega
                have hyy : (decide (s < kbT m z) == ((out.length : Int) == la)) = !yP m s la z out.length := by
                  simp only [yP]
                  by_cases e : (out.length : Int) = la
                  · rw [dec_t e, beq_iff_eq.2 e]; cases decide (s < kbT m z) <;> rfl
                  · rw [dec_f e, beq_eq_false_iff_ne.2 e]; cases decide (s < kbT m z) <;> rfl
                obtain ⟨t1, t2⟩ := shl5 (k := kbT m z) (by omega)
                have hn0 : ¬ (kbT m z : Int) < 0 := by omega
                simp only [hitT, Bool.and_eq_true] at k3
                have hv := k3.1
                simp only [vldT, Bool.and_eq_true, Bool.not_eq_true', decide_eq_false_iff_not] at hv
                have C := CS.of hz
                have hms2 : msL m (aftL m (kbT m z) (yP m s la z out.length) z) < msL m z := C.ms _ k1 k2 _ (by
                  cases yP m s la z out.length with
                  | false => exact hv.1
                  | true => exact hv.2)
                have hsh2 := C.sh _ k1 k2 (yP m s la z out.length)
                have hzl2 : (tblL m z.length) = tblL m x.length := by rw [hzl]
                cases f with
                | zero => omega
                | succ f =>
                  rw [plF, if_neg ho] at hpl
                  have hr : out.length + 1 ≤ roomA := by unfold roomA; omega
                  simp only [hc, hz, hzl, ho, ho2, h05, hsk, hyy, hr, t1, t2, hn0, h_l6Done, c_l6Done, h_l6Best, c_l6Best, h_l6After, c_l6After, Int.toNat_natCast, asks_len, asks_app1, asks_cell, ints_len, isI_ints, ofI_ints, not_false_eq_true, Bool.not_not, ↓SP, SQ, Gam.add, stepM, callC, argC, lendO, nmBy, nmC, likeL, likeB, plainOb, offs, exL, X, F, trP, trO, stepD, stepW, newA, SV.tr, SV.trL, fz, allP, Ob.tr, loadA, cellsA, SV.cells, binA, binI, eqOut, isSl, isPt, natOf, callee, snap, SV.refsL, SV.refs, thaw, fzAll, loA, hiA, elemOf, partsA, buildA, putCells, ↓reduceIte, reduceCtorEq, okCell, Nat.reduceAdd, Nat.reduceEqDiff, Nat.reduceSub, Nat.reduceMul, Nat.reduceLeDiff, Nat.reduceLT, Nat.reduceBEq, PV.scal, PV.scalL, SV.scal, SV.scalL, Ob.scal, PV.isCell, pure', resO]
                  have hI : isSh (aftL m (kbT m z) (yP m s la z out.length) z) m = true ∧ (aftL m (kbT m z) (yP m s la z out.length) z).length = x.length ∧ msL m (aftL m (kbT m z) (yP m s la z out.length) z) ≤ f ∧ plF m s la f (aftL m (kbT m z) (yP m s la z out.length) z) (out ++ [(lsQ (kbT m z), yP m s la z out.length)]) = plR m s la x ∧ (out ++ [(lsQ (kbT m z), yP m s la z out.length)]).length + f ≤ 10 :=
                    ⟨hsh2, by rw [aftL_len, hzl], by omega, hpl, by simp only [List.length_append, List.length_cons, List.length_nil]; omega⟩
                  exact hN ⟨aftL m (kbT m z) (yP m s la z out.length) z, out ++ [(lsQ (kbT m z), yP m s la z out.length)], [], f, _, _, _, .junk, _, none⟩ _ _ hI (by simp only; omega) rfl rfl
          · have hok2 : okY x m s la = !decide (((plR m s la x).length : Int) ≤ la) := by rw [hokY, dec_f (show ¬ 0 ≤ la from h5)]; simp
            have hi := sh_i5 h1
            have hl5 := (sh_out h1).2.1
            have hml := (CS.of h1).le
            have hx0 : 0 ≤ x.getD s 0 := by omega
            clear hokY
            simp only [Int.toNat_natCast]
            refine is.go hm hΓ k_s_LessPlay o_s_LessPlay (by simp [a_s_LessPlay]) ?_
            simp only [a_s_LessPlay, h_l6Short, c_isShort, h_l1In, c_in, h_l6Needs, c_l6Needs, h_l6Done, c_l6Done, h_l6Best, c_l6Best, h_l6After, c_l6After, hc, h1, hs1, decide_true, Bool.and_self, Bool.true_and, Bool.not_true, h3, h4, h5, hi, hs0, hsl, hg, hwl, Int.toNat_natCast, ints_len, isI_ints, ofI_ints, Bool.false_eq_true, List.zipIdx_cons, List.zipIdx_nil, ↓SP, SQ, Gam.add, stepM, callC, argC, lendO, nmBy, nmC, likeL, likeB, plainOb, offs, exL, X, F, trP, trO, stepD, stepW, newA, SV.tr, SV.trL, fz, allP, Ob.tr, loadA, cellsA, SV.cells, binA, binI, eqOut, isSl, isPt, natOf, callee, snap, SV.refsL, SV.refs, thaw, fzAll, loA, hiA, elemOf, partsA, buildA, putCells, ↓reduceIte, reduceCtorEq, okCell, Nat.reduceAdd, Nat.reduceEqDiff, Nat.reduceSub, Nat.reduceMul, Nat.reduceLeDiff, Nat.reduceLT, Nat.reduceBEq, PV.scal, PV.scalL, SV.scal, SV.scalL, Ob.scal, PV.isCell, pure', resO]
            refine loop_at (fun q : W7 => mkEnv [(0, .p (.agg [.sl 1 (ints x), .int .i64 m])), (1, si s), (2, si la), (3, .bx 3 0), (6, .p .nilsl), (7, sb false), (8, .ar 12), (9, .p (.sl 1 (ints (tblL m x.length)))), (10, q.a), (11, q.b), (50, sb false), (60, q.c), (87, .junk)]) (fun q => mkO [(3, some (.box [.p (.sl 1 (ints q.x)), si m])), (12, some (.arr 2 (asks q.out))), (78, q.o), (79, none), (88, none)]) (fun q => isSh q.x m = true ∧ q.x.length = x.length ∧ msL m q.x ≤ q.f ∧ plF m s la q.f q.x q.out = plR m s la x ∧ q.out.length + q.f ≤ 10) (fun q => q.f) ⟨x, [], [], msL m x, .junk, .junk, .junk, .junk, none, none⟩ ⟨h1, rfl, Nat.le_refl _, rfl, by simp only [List.length_nil]; omega⟩ rfl rfl ?_
            rintro ⟨z, out, E, f, c1, c2, c3, c4, o1, o2⟩ ⟨hz, hzl, hms, hpl, hof⟩ R hR hN
            simp only at hz hzl hms hpl hof
            have hlen := sh_len hz
            by_cases ho : (opens z).length < 2
            · have ho2 : ((opens z).length : Int) < 2 := by omega
              have hfe : out = plR m s la x := by rw [← hpl, plF_done ho]
              simp only [hc, hzl, ho2, h_l6Done, c_l6Done, isI_ints, ofI_ints, ints_len, ↓SP, SQ, Gam.add, stepM, callC, argC, lendO, nmBy, nmC, likeL, likeB, plainOb, offs, exL, X, F, trP, trO, stepD, stepW, newA, SV.tr, SV.trL, fz, allP, Ob.tr, loadA, cellsA, SV.cells, binA, binI, eqOut, isSl, isPt, natOf, callee, snap, SV.refsL, SV.refs, thaw, fzAll, loA, hiA, elemOf, partsA, buildA, putCells, ↓reduceIte, reduceCtorEq, okCell, Nat.reduceAdd, Nat.reduceEqDiff, Nat.reduceSub, Nat.reduceMul, Nat.reduceLeDiff, Nat.reduceLT, Nat.reduceBEq, PV.scal, PV.scalL, SV.scal, SV.scalL, Ob.scal, PV.isCell, pure', resO]
              refine hR _ _ _ (by intro h; cases h) ?_
              by_cases hge : la ≥ (out.length : Int)
              · have hp : okY x m s la = false := by rw [hok2, ← hfe, dec_t (show (out.length : Int) ≤ la from hge)]; rfl
                rw [hp]
                simp only [hge, asks_len, Bool.false_eq_true, ↓SP, SQ, Gam.add, stepM, callC, argC, lendO, nmBy, nmC, likeL, likeB, plainOb, offs, exL, X, F, trP, trO, stepD, stepW, newA, SV.tr, SV.trL, fz, allP, Ob.tr, loadA, cellsA, SV.cells, binA, binI, eqOut, isSl, isPt, natOf, callee, snap, SV.refsL, SV.refs, thaw, fzAll, loA, hiA, elemOf, partsA, buildA, putCells, ↓reduceIte, reduceCtorEq, okCell, Nat.reduceAdd, Nat.reduceEqDiff, Nat.reduceSub, Nat.reduceMul, Nat.reduceLeDiff, Nat.reduceLT, Nat.reduceBEq, PV.scal, PV.scalL, SV.scal, SV.scalL, Ob.scal, PV.isCell, pure', resO]
                refine finA_gen [88] trivial (by simp [retA, rvA, List.mapM_cons, List.mapM_nil, Option.pure_def, Option.bind_eq_bind, Option.bind_some, Option.map_some, mkE_cons, mk_nil, mkO_cons, mkO_nil, loadA, ↓reduceIte, List.take_succ_cons, List.take_zero, List.drop_zero, List.drop_succ_cons, List.length_cons, List.length_nil, Nat.reduceAdd, Nat.reduceEqDiff, Nat.reduceLeDiff, Nat.zero_add, Nat.le_refl, reduceCtorEq, SV.tr, SV.trL, nmF, rn_nil, rn_cons1, rn_cons2, List.map_cons, List.map_nil, List.all_cons, List.all_nil, plainOb, SV.refsL, SV.refs, Ob.refs, X, F, List.range_succ, List.range_zero, List.nil_append, List.cons_append, List.isEmpty_nil, decide_true, Nat.reduceLT, Bool.and_self, Bool.and_true, and_self, and_true, List.getElem?_cons_zero, List.getElem?_cons_succ, List.nodup_cons, List.nodup_nil, List.mem_cons, List.not_mem_nil, not_false_eq_true, or_false, List.append_nil, mkO, setO_mk, List.mem_singleton]; rfl) ?_ ?_ ?_ ?_ ?_ ?_ ?_ <;> simp [asks, retA, rvA, List.mapM_cons, List.mapM_nil, Option.pure_def, Option.bind_eq_bind, Option.bind_some, Option.map_some, mkE_cons, mk_nil, mkO_cons, mkO_nil, loadA, ↓reduceIte, List.take_succ_cons, List.take_zero, List.drop_zero, List.drop_succ_cons, List.length_cons, List.length_nil, Nat.reduceAdd, Nat.reduceEqDiff, Nat.reduceLeDiff, Nat.zero_add, Nat.le_refl, reduceCtorEq, SV.tr, SV.trL, nmF, rn_nil, rn_cons1, rn_cons2, List.map_cons, List.map_nil, List.all_cons, List.all_nil, plainOb, SV.refsL, SV.refs, Ob.refs, X, F, List.range_succ, List.range_zero, List.nil_append, List.cons_append, List.isEmpty_nil, decide_true, Nat.reduceLT, Bool.and_self, Bool.and_true, and_self, and_true, List.getElem?_cons_zero, List.getElem?_cons_succ, List.nodup_cons, List.nodup_nil, List.mem_cons, List.not_mem_nil, not_false_eq_true, or_false, List.append_nil, mkO, setO_mk, List.mem_singleton]
              · have hp : okY x m s la = true := by rw [hok2, ← hfe, dec_f (show ¬ (out.length : Int) ≤ la by omega)]; rfl
                rw [hp]
                simp only [hge, asks_len, ↓SP, SQ, Gam.add, stepM, callC, argC, lendO, nmBy, nmC, likeL, likeB, plainOb, offs, exL, X, F, trP, trO, stepD, stepW, newA, SV.tr, SV.trL, fz, allP, Ob.tr, loadA, cellsA, SV.cells, binA, binI, eqOut, isSl, isPt, natOf, callee, snap, SV.refsL, SV.refs, thaw, fzAll, loA, hiA, elemOf, partsA, buildA, putCells, ↓reduceIte, reduceCtorEq, okCell, Nat.reduceAdd, Nat.reduceEqDiff, Nat.reduceSub, Nat.reduceMul, Nat.reduceLeDiff, Nat.reduceLT, Nat.reduceBEq, PV.scal, PV.scalL, SV.scal, SV.scalL, Ob.scal, PV.isCell, pure', resO]
                refine finA_gen [12] trivial (by simp [retA, rvA, List.mapM_cons, List.mapM_nil, Option.pure_def, Option.bind_eq_bind, Option.bind_some, Option.map_some, mkE_cons, mk_nil, mkO_cons, mkO_nil, loadA, ↓reduceIte, List.take_succ_cons, List.take_zero, List.drop_zero, List.drop_succ_cons, List.length_cons, List.length_nil, Nat.reduceAdd, Nat.reduceEqDiff, Nat.reduceLeDiff, Nat.zero_add, Nat.le_refl, reduceCtorEq, SV.tr, SV.trL, nmF, rn_nil, rn_cons1, rn_cons2, List.map_cons, List.map_nil, List.all_cons, List.all_nil, plainOb, SV.refsL, SV.refs, Ob.refs, X, F, List.range_succ, List.range_zero, List.nil_append, List.cons_append, List.isEmpty_nil, decide_true, Nat.reduceLT, Bool.and_self, Bool.and_true, and_self, and_true, List.getElem?_cons_zero, List.getElem?_cons_succ, List.nodup_cons, List.nodup_nil, List.mem_cons, List.not_mem_nil, not_false_eq_true, or_false, List.append_nil, mkO, setO_mk, List.mem_singleton]; rfl) ?_ ?_ ?_ ?_ ?_ ?_ ?_ <;> simp [hfe, retA, rvA, List.mapM_cons, List.mapM_nil, Option.pure_def, Option.bind_eq_bind, Option.bind_some, Option.map_some, mkE_cons, mk_nil, mkO_cons, mkO_nil, loadA, ↓reduceIte, List.take_succ_cons, List.take_zero, List.drop_zero, List.drop_succ_cons, List.length_cons, List.length_nil, Nat.reduceAdd, Nat.reduceEqDiff, Nat.reduceLeDiff, Nat.zero_add, Nat.le_refl, reduceCtorEq, SV.tr, SV.trL, nmF, rn_nil, rn_cons1, rn_cons2, List.map_cons, List.map_nil, List.all_cons, List.all_nil, plainOb, SV.refsL, SV.refs, Ob.refs, X, F, List.range_succ, List.range_zero, List.nil_append, List.cons_append, List.isEmpty_nil, decide_true, Nat.reduceLT, Bool.and_self, Bool.and_true, and_self, and_true, List.getElem?_cons_zero, List.getElem?_cons_succ, List.nodup_cons, List.nodup_nil, List.mem_cons, List.not_mem_nil, not_false_eq_true, or_false, List.append_nil, mkO, setO_mk, List.mem_singleton]
            · have ho2 : ¬ ((opens z).length : Int) < 2 := by omega
              obtain ⟨k1, k2, k3⟩ := kbT_bd hz ho
              have h05 : (0 : Int) ≤ (kbT m z : Int) ∧ (kbT m z : Int) ≤ 5 := by omega
              have hsk : decide ((s : Int) < (kbT m z : Int)) = decide (s < kbT m z) := by
                rw [Bool.eq_iff_iff, decide_eq_true_eq, decide_eq_true_eq]; omega
              have hyy : (decide (s < kbT m z) == ((out.length : Int) == la)) = !yP m s la z out.length := by
                simp only [yP]
                by_cases e : (out.length : Int) = la
                · rw [dec_t e, beq_iff_eq.2 e]; cases decide (s < kbT m z) <;> rfl
                · rw [dec_f e, beq_eq_false_iff_ne.2 e]; cases decide (s < kbT m z) <;> rfl
              obtain ⟨t1, t2⟩ := shl5 (k := kbT m z) (by omega)
              have hn0 : ¬ (kbT m z : Int) < 0 := by omega
              simp only [hitT, Bool.and_eq_true] at k3
              have hv := k3.1
              simp only [vldT, Bool.and_eq_true, Bool.not_eq_true', decide_eq_false_iff_not] at hv
              have C := CS.of hz
              have hms2 : msL m (aftL m (kbT m z) (yP m s la z out.length) z) < msL m z := C.ms _ k1 k2 _ (by
                cases yP m s la z out.length with
                | false => exact hv.1
                | true => exact hv.2)
              have hsh2 := C.sh _ k1 k2 (yP m s la z out.length)
              have hzl2 : (tblL m z.length) = tblL m x.length := by rw [hzl]
              cases f with
              | zero => omega
              | succ f =>
                rw [plF, if_neg ho] at hpl
                have hr : out.length + 1 ≤ roomA := by unfold roomA; omega
                simp only [hc, hz, hzl, ho, ho2, h05, hsk, hyy, hr, t1, t2, hn0, h_l6Done, c_l6Done, h_l6Best, c_l6Best, h_l6After, c_l6After, Int.toNat_natCast, asks_len, asks_app1, asks_cell, ints_len, isI_ints, ofI_ints, not_false_eq_true, Bool.not_not, ↓SP, SQ, Gam.add, stepM, callC, argC, lendO, nmBy, nmC, likeL, likeB, plainOb, offs, exL, X, F, trP, trO, stepD, stepW, newA, SV.tr, SV.trL, fz, allP, Ob.tr, loadA, cellsA, SV.cells, binA, binI, eqOut, isSl, isPt, natOf, callee, snap, SV.refsL, SV.refs, thaw, fzAll, loA, hiA, elemOf, partsA, buildA, putCells, ↓reduceIte, reduceCtorEq, okCell, Nat.reduceAdd, Nat.reduceEqDiff, Nat.reduceSub, Nat.reduceMul, Nat.reduceLeDiff, Nat.reduceLT, Nat.reduceBEq, PV.scal, PV.scalL, SV.scal, SV.scalL, Ob.scal, PV.isCell, pure', resO]
                have hI : isSh (aftL m (kbT m z) (yP m s la z out.length) z) m = true ∧ (aftL m (kbT m z) (yP m s la z out.length) z).length = x.length ∧ msL m (aftL m (kbT m z) (yP m s la z out.length) z) ≤ f ∧ plF m s la f (aftL m (kbT m z) (yP m s la z out.length) z) (out ++ [(lsQ (kbT m z), yP m s la z out.length)]) = plR m s la x ∧ (out ++ [(lsQ (kbT m z), yP m s la z out.length)]).length + f ≤ 10 :=
                  ⟨hsh2, by rw [aftL_len, hzl], by omega, hpl, by simp only [List.length_append, List.length_cons, List.length_nil]; omega⟩
                exact hN ⟨aftL m (kbT m z) (yP m s la z out.length) z, out ++ [(lsQ (kbT m z), yP m s la z out.length)], [], f, _, _, _, .junk, _, none⟩ _ _ hI (by simp only; omega) rfl rfl
def a_x_LessPlay (f_szState : FuncId) (f_toState : FuncId) (f_s_LessPlay : FuncId) (f_LessPlay : FuncId) (f_eqAskedS : FuncId) (f_eqState : FuncId) (f_markState : FuncId) (f_markAskedS : FuncId) (f_heldAskedS : FuncId) : AFn := ⟨3, 
  .seq (.reg [⟨some 3, none, .w (.box 2 (.t 0))⟩,
    ⟨some 6, none, .d (.mv (.c (.bool false)))⟩])
  (.seq (.reg [⟨some 7, none, .d (.mv (.c (.int .i64 1048576)))⟩])
  (.seq (.reg [⟨some 18, none, .d (.load true 2 (.t 3))⟩,
    ⟨some 19, none, .d (.mv (.t 7))⟩,
    ⟨some 20, none, .d (.call (.f f_szState) [(.t 18), (.t 19)])⟩,
    ⟨some 7, none, .d (.mv (.t 20))⟩])
  (.seq (.seq (.reg [⟨some 21, none, .d (.mv (.t 7))⟩,
    ⟨some 22, none, .d (.bin .arith .lss (.t 21) (.c (.int .i64 0)))⟩])
  (.cond (.t 22) (.seq (.reg [⟨some 6, none, .d (.mv (.c (.bool true)))⟩])
   (.ret)) (.skip)))
  (.seq (.reg [⟨some 24, none, .d (.load true 2 (.t 3))⟩,
    ⟨some 25, none, .d (.call (.f f_toState) [(.t 24)])⟩,
    ⟨some 26, none, .d (.mv (.t 1))⟩,
    ⟨some 27, none, .d (.mv (.t 2))⟩,
    ⟨some 28, none, .d (.call (.f f_s_LessPlay) [(.t 25), (.t 26), (.t 27)])⟩,
    ⟨some 23, none, .d (.mv (.t 28))⟩,
    ⟨some 29, none, .d (.extract (.t 23) 0)⟩,
    ⟨some 30, none, .d (.extract (.t 23) 1)⟩,
    ⟨some 8, none, .d (.mv (.t 29))⟩,
    ⟨some 9, none, .d (.mv (.t 30))⟩])
  (.seq (.reg [⟨some 31, none, .d (.load true 2 (.t 3))⟩,
    ⟨some 32, none, .w (.callL (.f f_toState) [(.t 31)] [] 1 false)⟩,
    ⟨some 10, none, .w (.alloc [.nilsl, .int .i64 0])⟩,
    ⟨none, none, .w (.store 2 (.t 10) (.t 32))⟩])
  (.seq (.reg [⟨some 34, none, .d (.load true 2 (.t 10))⟩,
    ⟨some 35, none, .d (.mv (.t 1))⟩,
    ⟨some 36, none, .d (.mv (.t 2))⟩,
    ⟨some 37, none, .w (.callL (.f f_LessPlay) [(.t 34), (.t 35), (.t 36)] [] 1 false)⟩,
    ⟨some 33, none, .d (.mv (.t 37))⟩,
    ⟨some 38, none, .d (.extract (.t 33) 0)⟩,
    ⟨some 39, none, .d (.extract (.t 33) 1)⟩,
    ⟨some 11, none, .d (.mv (.t 38))⟩,
    ⟨some 12, none, .d (.mv (.t 39))⟩])
  (.seq (.seq (.reg [⟨some 40, none, .d (.mv (.t 11))⟩,
    ⟨some 41, none, .d (.mv (.t 8))⟩,
    ⟨some 42, none, .d (.call (.f f_eqAskedS) [(.t 40), (.t 41)])⟩,
    ⟨some 43, none, .d (.not (.t 42))⟩,
    ⟨some 44, none, .d (.mv (.t 43))⟩,
    ⟨some 45, some (44, false), .d (.mv (.t 12))⟩,
    ⟨some 46, some (44, false), .d (.mv (.t 9))⟩,
    ⟨some 47, some (44, false), .d (.bin .bool .neq (.t 45) (.t 46))⟩,
    ⟨some 48, none, .d (.pick (.t 44) (.c (.bool true)) (.t 47))⟩])
  (.cond (.t 48) (.seq (.reg [⟨some 6, none, .d (.mv (.c (.bool false)))⟩])
   (.ret)) (.skip)))
  (.seq (.seq (.dreg [] [([], ⟨some 49, none, .d (.load true 2 (.t 10))⟩),
    ([], ⟨some 50, none, .d (.load true 2 (.t 3))⟩),
    ([], ⟨some 51, none, .d (.call (.f f_toState) [(.t 50)])⟩)] [⟨some 52, none, .d (.call (.f f_eqState) [(.t 49), (.t 51)])⟩,
    ⟨some 53, none, .d (.not (.t 52))⟩])
  (.cond (.t 53) (.seq (.reg [⟨some 6, none, .d (.mv (.c (.bool false)))⟩])
   (.ret)) (.skip)))
  (.seq (.reg [⟨some 13, none, .d (.mv (.c (.int .i64 1)))⟩])
  (.seq (.reg [⟨some 54, none, .d (.load true 2 (.t 10))⟩,
    ⟨some 55, none, .d (.mv (.t 13))⟩,
    ⟨some 56, none, .w (.callL (.f f_markState) [(.t 54), (.t 55)] [32] 0 false)⟩,
    ⟨some 13, none, .d (.mv (.t 56))⟩])
  (.seq (.seq (.reg [⟨some 57, none, .d (.mv (.t 13))⟩,
    ⟨some 58, none, .d (.bin .arith .lss (.t 57) (.c (.int .i64 0)))⟩,
    ⟨some 59, none, .d (.mv (.t 58))⟩,
    ⟨some 60, some (59, false), .d (.mv (.t 11))⟩,
    ⟨some 61, some (59, false), .d (.mv (.t 8))⟩,
    ⟨some 62, some (59, false), .d (.call (.f f_eqAskedS) [(.t 60), (.t 61)])⟩,
    ⟨some 63, some (59, false), .d (.not (.t 62))⟩,
    ⟨some 64, none, .d (.pick (.t 59) (.c (.bool true)) (.t 63))⟩,
    ⟨some 65, none, .d (.mv (.t 64))⟩,
    ⟨some 66, some (65, false), .d (.mv (.t 12))⟩,
    ⟨some 67, some (65, false), .d (.mv (.t 9))⟩,
    ⟨some 68, some (65, false), .d (.bin .bool .neq (.t 66) (.t 67))⟩,
    ⟨some 69, none, .d (.pick (.t 65) (.c (.bool true)) (.t 68))⟩])
  (.cond (.t 69) (.seq (.reg [⟨some 6, none, .d (.mv (.c (.bool false)))⟩])
   (.ret)) (.skip)))
  (.seq (.reg [⟨some 14, none, .d (.mv (.c (.int .i64 1)))⟩])
  (.seq (.reg [⟨some 70, none, .d (.mv (.t 11))⟩,
    ⟨some 71, none, .d (.mv (.t 14))⟩,
    ⟨some 72, none, .w (.callL (.f f_markAskedS) [(.t 70), (.t 71)] [37] 0 false)⟩,
    ⟨some 14, none, .d (.mv (.t 72))⟩])
  (.seq (.reg [⟨some 15, none, .d (.mv (.c (.int .i64 1)))⟩])
  (.seq (.reg [⟨some 73, none, .d (.mv (.t 11))⟩,
    ⟨some 74, none, .d (.mv (.t 15))⟩,
    ⟨some 75, none, .d (.call (.f f_heldAskedS) [(.t 73), (.t 74)])⟩,
    ⟨some 15, none, .d (.mv (.t 75))⟩])
  (.seq (.seq (.reg [⟨some 76, none, .d (.mv (.t 15))⟩,
    ⟨some 77, none, .d (.bin .arith .lss (.t 76) (.c (.int .i64 0)))⟩])
  (.cond (.t 77) (.seq (.reg [⟨some 6, none, .d (.mv (.c (.bool false)))⟩])
   (.ret)) (.skip)))
  (.seq (.seq (.reg [⟨some 78, none, .d (.mv (.t 15))⟩,
    ⟨some 79, none, .d (.mv (.t 14))⟩,
    ⟨some 80, none, .d (.bin .arith .neq (.t 78) (.t 79))⟩])
  (.cond (.t 80) (.seq (.reg [⟨some 6, none, .d (.mv (.c (.bool false)))⟩])
   (.ret)) (.skip)))
  (.seq (.reg [⟨some 82, none, .d (.load true 2 (.t 3))⟩,
    ⟨some 83, none, .d (.call (.f f_toState) [(.t 82)])⟩,
    ⟨some 84, none, .d (.mv (.t 1))⟩,
    ⟨some 85, none, .d (.mv (.t 2))⟩,
    ⟨some 86, none, .d (.call (.f f_LessPlay) [(.t 83), (.t 84), (.t 85)])⟩,
    ⟨some 81, none, .d (.mv (.t 86))⟩,
    ⟨some 87, none, .d (.extract (.t 81) 0)⟩,
    ⟨some 88, none, .d (.extract (.t 81) 1)⟩,
    ⟨some 16, none, .d (.mv (.t 87))⟩,
    ⟨some 17, none, .d (.mv (.t 88))⟩])
  (.seq (.seq (.reg [⟨some 89, none, .d (.mv (.t 16))⟩,
    ⟨some 90, none, .d (.mv (.t 8))⟩,
    ⟨some 91, none, .d (.call (.f f_eqAskedS) [(.t 89), (.t 90)])⟩,
    ⟨some 92, none, .d (.not (.t 91))⟩,
    ⟨some 93, none, .d (.mv (.t 92))⟩,
    ⟨some 94, some (93, false), .d (.mv (.t 17))⟩,
    ⟨some 95, some (93, false), .d (.mv (.t 9))⟩,
    ⟨some 96, some (93, false), .d (.bin .bool .neq (.t 94) (.t 95))⟩,
    ⟨some 97, none, .d (.pick (.t 93) (.c (.bool true)) (.t 96))⟩])
  (.cond (.t 97) (.seq (.reg [⟨some 6, none, .d (.mv (.c (.bool false)))⟩])
   (.ret)) (.skip)))
  (.seq (.reg [⟨some 15, none, .d (.mv (.c (.int .i64 1)))⟩])
  (.seq (.reg [⟨some 98, none, .d (.mv (.t 11))⟩,
    ⟨some 99, none, .d (.mv (.t 15))⟩,
    ⟨some 100, none, .d (.call (.f f_heldAskedS) [(.t 98), (.t 99)])⟩,
    ⟨some 15, none, .d (.mv (.t 100))⟩])
  (.seq (.seq (.reg [⟨some 101, none, .d (.mv (.t 15))⟩,
    ⟨some 102, none, .d (.bin .arith .lss (.t 101) (.c (.int .i64 0)))⟩])
  (.cond (.t 102) (.seq (.reg [⟨some 6, none, .d (.mv (.c (.bool false)))⟩])
   (.ret)) (.skip)))
  (.seq (.seq (.reg [⟨some 103, none, .d (.mv (.t 15))⟩,
    ⟨some 104, none, .d (.mv (.t 14))⟩,
    ⟨some 105, none, .d (.bin .arith .neq (.t 103) (.t 104))⟩])
  (.cond (.t 105) (.seq (.reg [⟨some 6, none, .d (.mv (.c (.bool false)))⟩])
   (.ret)) (.skip)))
  (.seq (.reg [⟨some 6, none, .d (.mv (.c (.bool true)))⟩])
  (.ret))))))))))))))))))))))))), [.tmp 6]⟩
def n_x_LessPlay : Nat → Option Ann := fun d => if d = 32 then some ⟨[], 1, false⟩ else if d = 37 then some ⟨[], 1, false⟩ else if d = 56 then some ⟨[32], 0, false⟩ else if d = 72 then some ⟨[37], 0, false⟩ else none
abbrev k_x_LessPlay : List Nat := [0, 1, 2, 3, 6, 7, 8, 9, 10, 11, 12, 13, 14, 15, 16, 17, 22, 48, 53, 69, 77, 80, 97, 102, 105]
abbrev o_x_LessPlay : List Nat := [3, 10, 32, 37]
def c_x_LessPlay : Con := pure' fun
  | [.p (.agg [v, .int .i64 m]), .p (.int .i64 s), .p (.int .i64 la)] => match slI v with
    | some x => if x.length ≤ 9223372036854775807 then some (.p (.bool true), []) else none
    | none => none
  | _ => none
set_option maxRecDepth 100000 in
theorem s_x_LessPlay {P : Program} (hm : P.follows .mixedOrders = true) {Γ : Gam} (hΓ : GS P Γ) {n : FuncId} {f_szState : FuncId} {f_toState : FuncId} {f_s_LessPlay : FuncId} {f_LessPlay : FuncId} {f_eqAskedS : FuncId} {f_eqState : FuncId} {f_markState : FuncId} {f_markAskedS : FuncId} {f_heldAskedS : FuncId} (is : Is P n (a_x_LessPlay f_szState f_toState f_s_LessPlay f_LessPlay f_eqAskedS f_eqState f_markState f_markAskedS f_heldAskedS)) (h_szState : Γ f_szState = c_szState) (h_toState : Γ f_toState = c_toState) (h_s_LessPlay : Γ f_s_LessPlay = c_s_LessPlay) (h_LessPlay : Γ f_LessPlay = c_LessPlay) (h_eqAskedS : Γ f_eqAskedS = c_eqAskedS) (h_eqState : Γ f_eqState = c_eqState) (h_markState : Γ f_markState = c_markState) (h_markAskedS : Γ f_markAskedS = c_markAskedS) (h_heldAskedS : Γ f_heldAskedS = c_heldAskedS)  : Says P n c_x_LessPlay := by
  refine Says.pure fun args r fs h => ?_
  split at h
  case h_2 => cases h
  rename_i v m s la
  split at h
  case h_2 => cases h
  rename_i x hx
  split at h
  case isFalse => cases h
  rename_i hc
  simp only [Option.some.injEq, Prod.mk.injEq] at h
  obtain ⟨rfl, rfl⟩ := h
  have hlp := slI_lenP hx
  by_cases hk : (1048576 : Int) - (x.length : Int) < 0
  · refine is.go hm hΓ k_x_LessPlay o_x_LessPlay (by simp [a_x_LessPlay]) ?_
    simp only [a_x_LessPlay, h_szState, c_szState, h_toState, c_toState, h_s_LessPlay, c_s_LessPlay, h_LessPlay, c_LessPlay, h_eqAskedS, c_eqAskedS, h_eqState, c_eqState, h_markState, c_markState, h_markAskedS, c_markAskedS, h_heldAskedS, c_heldAskedS, hlp, hc, hk, Int.reduceLE, Int.reduceNeg, Int.reduceLT, List.zipIdx_cons, List.zipIdx_nil, ↓SP, SQ, Gam.add, stepM, callC, argC, lendO, nmBy, nmC, likeL, likeB, plainOb, offs, exL, X, F, trP, trO, stepD, stepW, newA, SV.tr, SV.trL, fz, allP, Ob.tr, loadA, cellsA, SV.cells, binA, binI, eqOut, isSl, isPt, natOf, callee, snap, SV.refsL, SV.refs, thaw, fzAll, loA, hiA, elemOf, partsA, buildA, putCells, ↓reduceIte, reduceCtorEq, okCell, Nat.reduceAdd, Nat.reduceEqDiff, Nat.reduceSub, Nat.reduceMul, Nat.reduceLeDiff, Nat.reduceLT, Nat.reduceBEq, PV.scal, PV.scalL, SV.scal, SV.scalL, Ob.scal, PV.isCell, pure', resO]
    exact finA_val (by simp [retA, rvA, List.mapM_cons, List.mapM_nil, Option.pure_def, Option.bind_eq_bind, Option.bind_some, Option.map_some, mkE_cons, mk_nil, mkO_cons, mkO_nil, loadA, ↓reduceIte, List.take_succ_cons, List.take_zero, List.drop_zero, List.drop_succ_cons, List.length_cons, List.length_nil, Nat.reduceAdd, Nat.reduceEqDiff, Nat.reduceLeDiff, Nat.zero_add, Nat.le_refl, reduceCtorEq, SV.tr, SV.trL, nmF, rn_nil, rn_cons1, rn_cons2, List.map_cons, List.map_nil, List.all_cons, List.all_nil, plainOb, SV.refsL, SV.refs, Ob.refs, X, F, List.range_succ, List.range_zero, List.nil_append, List.cons_append, List.isEmpty_nil, decide_true, Nat.reduceLT, Bool.and_self, Bool.and_true, and_self, and_true, List.getElem?_cons_zero, List.getElem?_cons_succ, List.nodup_cons, List.nodup_nil, List.mem_cons, List.not_mem_nil, not_false_eq_true, or_false, List.append_nil, mkO, setO_mk, List.mem_singleton]) (by simp [SV.tr, SV.trL])
  · have hlen : x.length ≤ 1048576 := by omega
    have hlen2 : x.length ≤ 1100000 := by omega
    have hml := marks_len 1 x.length
    have q2 : ¬ (1 : Int) + x.length < 0 := by omega
    have hnb : heldA [] 1 := fun j hj => by simp at hj
    cases hg2 : okY x m s la with
    | true =>
      have hsx : isSh x m = true := by simp only [okY, Bool.and_eq_true] at hg2; exact hg2.1.1.1.1
      generalize hgy : plR m s.toNat la x = y at *
      have al : y.length ≤ 10 := by rw [← hgy]; exact plR_len hsx
      have al2 : y.length ≤ 1100000 := by omega
      have hmb := marksA_len 1 y.length
      have hhb := heldA_marks 1 y.length
      have q3 : ¬ (1 : Int) + 2 * y.length < 0 := by omega
      refine is.go hm hΓ k_x_LessPlay o_x_LessPlay (by simp [a_x_LessPlay]) ?_
      simp only [a_x_LessPlay, h_szState, c_szState, h_toState, c_toState, h_s_LessPlay, c_s_LessPlay, h_LessPlay, c_LessPlay, h_eqAskedS, c_eqAskedS, h_eqState, c_eqState, h_markState, c_markState, h_markAskedS, c_markAskedS, h_heldAskedS, c_heldAskedS, hx, hlp, hc, hk, hlen, hlen2, hgy, hg2, hml, q2, q3, al2, hmb, hhb, ints_len, asks_len, slI_sl, slA_sl, beq_self_eq_true, Bool.not_true, Int.reduceLE, Int.reduceNeg, Int.reduceLT, bne_self_eq_false, List.zipIdx_cons, List.zipIdx_nil, ↓SP, SQ, Gam.add, stepM, callC, argC, lendO, nmBy, nmC, likeL, likeB, plainOb, offs, exL, X, F, trP, trO, stepD, stepW, newA, SV.tr, SV.trL, fz, allP, Ob.tr, loadA, cellsA, SV.cells, binA, binI, eqOut, isSl, isPt, natOf, callee, snap, SV.refsL, SV.refs, thaw, fzAll, loA, hiA, elemOf, partsA, buildA, putCells, ↓reduceIte, reduceCtorEq, okCell, Nat.reduceAdd, Nat.reduceEqDiff, Nat.reduceSub, Nat.reduceMul, Nat.reduceLeDiff, Nat.reduceLT, Nat.reduceBEq, PV.scal, PV.scalL, SV.scal, SV.scalL, Ob.scal, PV.isCell, pure', resO]
      exact finA_val (by simp [retA, rvA, List.mapM_cons, List.mapM_nil, Option.pure_def, Option.bind_eq_bind, Option.bind_some, Option.map_some, mkE_cons, mk_nil, mkO_cons, mkO_nil, loadA, ↓reduceIte, List.take_succ_cons, List.take_zero, List.drop_zero, List.drop_succ_cons, List.length_cons, List.length_nil, Nat.reduceAdd, Nat.reduceEqDiff, Nat.reduceLeDiff, Nat.zero_add, Nat.le_refl, reduceCtorEq, SV.tr, SV.trL, nmF, rn_nil, rn_cons1, rn_cons2, List.map_cons, List.map_nil, List.all_cons, List.all_nil, plainOb, SV.refsL, SV.refs, Ob.refs, X, F, List.range_succ, List.range_zero, List.nil_append, List.cons_append, List.isEmpty_nil, decide_true, Nat.reduceLT, Bool.and_self, Bool.and_true, and_self, and_true, List.getElem?_cons_zero, List.getElem?_cons_succ, List.nodup_cons, List.nodup_nil, List.mem_cons, List.not_mem_nil, not_false_eq_true, or_false, List.append_nil, mkO, setO_mk, List.mem_singleton]) (by simp [SV.tr, SV.trL])
    | false =>
      refine is.go hm hΓ k_x_LessPlay o_x_LessPlay (by simp [a_x_LessPlay]) ?_
      simp only [a_x_LessPlay, h_szState, c_szState, h_toState, c_toState, h_s_LessPlay, c_s_LessPlay, h_LessPlay, c_LessPlay, h_eqAskedS, c_eqAskedS, h_eqState, c_eqState, h_markState, c_markState, h_markAskedS, c_markAskedS, h_heldAskedS, c_heldAskedS, hx, hlp, hc, hk, hlen, hlen2, hg2, hml, q2, hnb, ints_len, asks_len, slI_sl, slA_sl, slA_nil, Bool.false_eq_true, beq_self_eq_true, Bool.not_true, Int.reduceLE, Int.reduceNeg, Int.reduceLT, bne_self_eq_false, List.zipIdx_cons, List.zipIdx_nil, ↓SP, SQ, Gam.add, stepM, callC, argC, lendO, nmBy, nmC, likeL, likeB, plainOb, offs, exL, X, F, trP, trO, stepD, stepW, newA, SV.tr, SV.trL, fz, allP, Ob.tr, loadA, cellsA, SV.cells, binA, binI, eqOut, isSl, isPt, natOf, callee, snap, SV.refsL, SV.refs, thaw, fzAll, loA, hiA, elemOf, partsA, buildA, putCells, ↓reduceIte, reduceCtorEq, okCell, Nat.reduceAdd, Nat.reduceEqDiff, Nat.reduceSub, Nat.reduceMul, Nat.reduceLeDiff, Nat.reduceLT, Nat.reduceBEq, PV.scal, PV.scalL, SV.scal, SV.scalL, Ob.scal, PV.isCell, pure', resO]
      exact finA_val (by simp [retA, rvA, List.mapM_cons, List.mapM_nil, Option.pure_def, Option.bind_eq_bind, Option.bind_some, Option.map_some, mkE_cons, mk_nil, mkO_cons, mkO_nil, loadA, ↓reduceIte, List.take_succ_cons, List.take_zero, List.drop_zero, List.drop_succ_cons, List.length_cons, List.length_nil, Nat.reduceAdd, Nat.reduceEqDiff, Nat.reduceLeDiff, Nat.zero_add, Nat.le_refl, reduceCtorEq, SV.tr, SV.trL, nmF, rn_nil, rn_cons1, rn_cons2, List.map_cons, List.map_nil, List.all_cons, List.all_nil, plainOb, SV.refsL, SV.refs, Ob.refs, X, F, List.range_succ, List.range_zero, List.nil_append, List.cons_append, List.isEmpty_nil, decide_true, Nat.reduceLT, Bool.and_self, Bool.and_true, and_self, and_true, List.getElem?_cons_zero, List.getElem?_cons_succ, List.nodup_cons, List.nodup_nil, List.mem_cons, List.not_mem_nil, not_false_eq_true, or_false, List.append_nil, mkO, setO_mk, List.mem_singleton]) (by simp [SV.tr, SV.trL])
end Go.Proofs.Ytgnclbdhpdjafaa.Pam
