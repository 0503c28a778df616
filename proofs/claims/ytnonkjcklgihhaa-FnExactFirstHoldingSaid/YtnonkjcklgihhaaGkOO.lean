/- A part of the proof that stands in this folder: a small machine whose steps are shown to be the steps of the model, or walks of functions by it. No condition of its own. -/
import Derived.Test.YtnonkjcklgihhaaGkLO
set_option linter.unusedVariables false
set_option linter.unusedSimpArgs false
namespace Go.Proofs.Ytnonkjcklgihhaa.Pam
open Go
def a_toldG (f_answered : FuncId) : AFn := ⟨3, 
  .seq (.reg [⟨some 3, none, .w (.box 2 (.t 0))⟩,
    ⟨some 6, none, .w (.alloc [.nilsl, .int .i64 0])⟩])
  (.seq (.seq (.reg [⟨some 9, none, .d (.mv (.t 1))⟩,
    ⟨some 10, none, .d (.len (.t 9))⟩,
    ⟨some 11, none, .d (.mv (.c (.int .i64 0)))⟩])
  (.block 0 (.loop (.seq (.reg [⟨some 12, none, .d (.bin .arith .lss (.t 11) (.t 10))⟩])
    (.seq (.cond (.t 12) (.skip) (.exit 0))
    (.seq (.block 1 (.seq (.reg [⟨some 13, none, .d (.mv (.t 11))⟩,
       ⟨some 14, none, .d (.ia 1 (.t 9) (.t 11))⟩,
       ⟨some 15, none, .d (.load false 1 (.t 14))⟩,
       ⟨some 7, none, .d (.mv (.t 13))⟩,
       ⟨some 8, none, .d (.mv (.t 15))⟩])
     (.dreg [] [([], ⟨some 16, none, .d (.load true 2 (.t 3))⟩),
       ([], ⟨some 17, none, .d (.mv (.t 8))⟩),
       ([], ⟨some 18, none, .d (.mv (.t 2))⟩),
       ([], ⟨some 19, none, .d (.mv (.t 7))⟩),
       ([], ⟨some 20, none, .d (.ia 1 (.t 18) (.t 19))⟩),
       ([], ⟨some 21, none, .d (.load false 1 (.t 20))⟩),
       ([], ⟨some 22, none, .d (.build [.int .i64 0, .bool false] [(0, 1, (.t 17)), (1, 1, (.t 21))])⟩)] [⟨some 23, none, .d (.call (.f f_answered) [(.t 16), (.t 22)])⟩,
       ⟨none, none, .w (.store 2 (.t 3) (.t 23))⟩])))
    (.reg [⟨some 24, none, .d (.bin .arith .add (.t 11) (.c (.int .i64 1)))⟩,
      ⟨some 11, none, .d (.mv (.t 24))⟩])))))))
  (.seq (.reg [⟨some 25, none, .d (.load true 2 (.t 3))⟩,
    ⟨none, none, .w (.store 2 (.t 6) (.t 25))⟩])
  (.ret))), [.cell 6 2 true]⟩
def n_toldG : Nat → Option Ann := fun _ => none
abbrev k_toldG : List Nat := [0, 1, 2, 3, 6, 7, 8, 9, 10, 11, 12]
abbrev o_toldG : List Nat := [3, 6]
def c_toldG : Con
  | [.p (.agg [.sl 1 xs, .int .i64 m]), .p (.sl 1 ls), .ar 1000000], [.arr 1 bs] => if isI xs = true ∧ isI ls = true ∧ isBo bs = true ∧ xs.length ≤ 1100000 ∧ ls.length ≤ 1100000 ∧ bs.length = ls.length ∧ m ≤ 1000 ∧ allSm m (ofI xs) = true then some (.ag [.p (.sl 1 (ints (endL m (ofI xs) (ofI ls) (ofBo bs)))), .p (.int .i64 m)], [.arr 1 bs], []) else none
  | _, _ => none
theorem s_toldG {P : Program} (hm : P.follows .mixedOrders = true) {Γ : Gam} (hΓ : GS P Γ) {n : FuncId} {f_answered : FuncId} (is : Is P n (a_toldG f_answered)) (h_answered : Γ f_answered = c_answered)  : Says P n c_toldG := by
  intro args ext r ext' fs h
  unfold c_toldG at h
  split at h
  case h_2 => cases h
  rename_i xs m ls bs
  split at h
  case isFalse => cases h
  rename_i hc
  obtain ⟨hx, hl, hb, hx0, hl0, hb0, hm1, hsm⟩ := hc
  obtain ⟨x, rfl⟩ := isI_out hx
  obtain ⟨l, rfl⟩ := isI_out hl
  obtain ⟨b, rfl⟩ := isBo_out hb
  simp only [ofI_ints, ofBo_bools, ints_len, bools_len] at h hx0 hl0 hb0 hsm
  simp only [Option.some.injEq, Prod.mk.injEq] at h
  obtain ⟨rfl, rfl, rfl⟩ := h
  rw [allSm_eq] at hsm
  have hok := fun k => allL_ok (st := st2 m) (m := m) st2_len st2_small hsm ((l.zip b).take k)
  have hzl : (l.zip b).length = l.length := by simp; omega
  refine is.goX hm hΓ k_toldG (1000000 :: o_toldG) (by simp [a_toldG]) (by simp) ?_
  simp only [a_toldG, ints_len, List.zipIdx_cons, List.zipIdx_nil, ↓SP, SQ, Gam.add, stepM, callC, argC, lendO, nmBy, nmC, likeL, likeB, plainOb, offs, exL, X, F, trP, trO, stepD, stepW, newA, SV.tr, SV.trL, fz, allP, Ob.tr, loadA, cellsA, SV.cells, binA, binI, eqOut, isSl, isPt, natOf, callee, snap, SV.refsL, SV.refs, thaw, fzAll, loA, hiA, elemOf, partsA, buildA, putCells, ↓reduceIte, reduceCtorEq, okCell, Nat.reduceAdd, Nat.reduceEqDiff, Nat.reduceSub, Nat.reduceMul, Nat.reduceLeDiff, Nat.reduceLT, Nat.reduceBEq, PV.scal, PV.scalL, SV.scal, SV.scalL, Ob.scal, PV.isCell, pure', resO]
  refine loop_at (fun s : Nat × SV × SV × SV => mkEnv [(0, .p (.agg [.sl 1 (ints x), .int .i64 m])), (1, .p (.sl 1 (ints l))), (2, .ar 1000000), (3, .bx 3 0), (6, .bx 6 0), (7, s.2.1), (8, s.2.2.1), (9, .p (.sl 1 (ints l))), (10, si l.length), (11, si s.1), (12, s.2.2.2)]) (fun s => mkO [(1000000, some (.arr 1 (bools b))), (3, some (.box [.p (.sl 1 (ints (allL (st2 m) x ((l.zip b).take s.1)))), si m])), (6, some (.box [.p .nilsl, si 0]))]) (fun s => s.1 ≤ l.length) (fun s => l.length - s.1) (0, .junk, .junk, .junk) (by simp) rfl rfl ?_
  rintro ⟨i, c1, c2, c3⟩ hi R hR hN
  simp only at hi
  by_cases h : i < l.length
  · have h1 : (i : Int) < l.length := by omega
    have hw := wrap_one (i := i) (by omega)
    have hg := ints_get h
    have hg2 := bools_get (l := b) (i := i) (by omega)
    have hl1 : (allL (st2 m) x ((l.zip b).take i)).length ≤ 1100000 := by rw [(hok i).1]; omega
    have hl2 := small_1000 (hok i).2 hm1
    have hal := allL_one (st2 m) x (l.zip b) i (by omega)
    have hib : i < b.length := by omega
    rw [zip_getD l b i h (by omega)] at hal
    simp only [h, h1, hw, hg, hg2, hib, h_answered, c_answered, hl1, hl2, ↓SP, SQ, Gam.add, stepM, callC, argC, lendO, nmBy, nmC, likeL, likeB, plainOb, offs, exL, X, F, trP, trO, stepD, stepW, newA, SV.tr, SV.trL, fz, allP, Ob.tr, loadA, cellsA, SV.cells, binA, binI, eqOut, isSl, isPt, natOf, callee, snap, SV.refsL, SV.refs, thaw, fzAll, loA, hiA, elemOf, partsA, buildA, putCells, ↓reduceIte, reduceCtorEq, okCell, Nat.reduceAdd, Nat.reduceEqDiff, Nat.reduceSub, Nat.reduceMul, Nat.reduceLeDiff, Nat.reduceLT, Nat.reduceBEq, PV.scal, PV.scalL, SV.scal, SV.scalL, Ob.scal, PV.isCell, pure', resO]
    refine hN (i + 1, _, _, _) _ _ (by simp only; omega) (by simp only; omega) rfl (by rw [hal]; rfl)
  · have he : i = l.length := by omega
    have h1 : ¬ (i : Int) < l.length := by omega
    simp only [h1, ↓SP, SQ, Gam.add, stepM, callC, argC, lendO, nmBy, nmC, likeL, likeB, plainOb, offs, exL, X, F, trP, trO, stepD, stepW, newA, SV.tr, SV.trL, fz, allP, Ob.tr, loadA, cellsA, SV.cells, binA, binI, eqOut, isSl, isPt, natOf, callee, snap, SV.refsL, SV.refs, thaw, fzAll, loA, hiA, elemOf, partsA, buildA, putCells, ↓reduceIte, reduceCtorEq, okCell, Nat.reduceAdd, Nat.reduceEqDiff, Nat.reduceSub, Nat.reduceMul, Nat.reduceLeDiff, Nat.reduceLT, Nat.reduceBEq, PV.scal, PV.scalL, SV.scal, SV.scalL, Ob.scal, PV.isCell, pure', resO]
    refine hR _ _ _ (by intro h; cases h) ?_
    simp only [↓SP, SQ, Gam.add, stepM, callC, argC, lendO, nmBy, nmC, likeL, likeB, plainOb, offs, exL, X, F, trP, trO, stepD, stepW, newA, SV.tr, SV.trL, fz, allP, Ob.tr, loadA, cellsA, SV.cells, binA, binI, eqOut, isSl, isPt, natOf, callee, snap, SV.refsL, SV.refs, thaw, fzAll, loA, hiA, elemOf, partsA, buildA, putCells, ↓reduceIte, reduceCtorEq, okCell, Nat.reduceAdd, Nat.reduceEqDiff, Nat.reduceSub, Nat.reduceMul, Nat.reduceLeDiff, Nat.reduceLT, Nat.reduceBEq, PV.scal, PV.scalL, SV.scal, SV.scalL, Ob.scal, PV.isCell, pure', resO]
    have ht : (l.zip b).take i = l.zip b := by rw [he, ← hzl]; exact List.take_length
    refine finA_gen [] trivial (by simp [retA, rvA, mkE_cons, mk_nil, mkO_cons, mkO_nil, loadA, SV.tr, SV.trL, nmF, rn_nil, rn_cons1, rn_cons2, plainOb, SV.refsL, SV.refs, Ob.refs, X, F, List.range_succ, mkO, setO_mk]; rfl) ?_ ?_ ?_ ?_ ?_ ?_ ?_ <;> simp [ht, endL, retA, rvA, mkE_cons, mk_nil, mkO_cons, mkO_nil, loadA, SV.tr, SV.trL, nmF, rn_nil, rn_cons1, rn_cons2, plainOb, SV.refsL, SV.refs, Ob.refs, X, F, List.range_succ, mkO, setO_mk]
def a_fh1 : AFn := ⟨4, 
  .seq (.reg [⟨some 6, none, .d (.mv (.t 1))⟩,
    ⟨some 7, none, .d (.bin .arith .geq (.t 6) (.c (.int .i64 2)))⟩,
    ⟨some 8, none, .d (.mv (.t 7))⟩,
    ⟨some 9, some (8, true), .d (.load false 1 (.t 2))⟩,
    ⟨some 10, some (8, true), .d (.not (.t 9))⟩,
    ⟨some 11, none, .d (.pick (.t 8) (.t 10) (.c (.bool false)))⟩])
  (.cond (.t 11) (.reg [⟨some 12, none, .d (.mv (.t 0))⟩,
     ⟨none, none, .w (.store 1 (.t 3) (.t 12))⟩,
     ⟨none, none, .w (.store 1 (.t 2) (.c (.bool true)))⟩]) (.skip)), []⟩
def n_fh1 : Nat → Option Ann := fun _ => none
abbrev k_fh1 : List Nat := [0, 1, 2, 3, 11]
abbrev o_fh1 : List Nat := []
def c_fh1 : Con
  | [.ar 1000002, .p (.int .i64 n), .bx 1000000 0, .bx 1000001 0], [.box [.p (.bool f)], .box [.p .nilsl], .arr 1 xs] => if f = false ∧ 2 ≤ n then some (.tp [], [.box [.p (.bool true)], .box [.ar 2000000], .box []], [.arr 1 xs]) else some (.tp [], [.box [.p (.bool f)], .box [.p .nilsl], .arr 1 xs], [])
  | [.ar 1000002, .p (.int .i64 n), .bx 1000000 0, .bx 1000001 0], [.box [.p (.bool true)], .box [.ar 1000003], .arr 1 xs, .arr 1 ys] => some (.tp [], [.box [.p (.bool true)], .box [.ar 2000000], .arr 1 xs, .box []], [.arr 1 ys])
  | _, _ => none
theorem s_fh1 {P : Program} (hm : P.follows .mixedOrders = true) {Γ : Gam} (hΓ : GS P Γ) {n : FuncId} (is : Is P n a_fh1)  : Says P n c_fh1 := by
  intro args ext r ext' fs h
  have g20 : gvN [2] 1000000 = some 1000000 := rfl
  have g21 : gvN [2] 1000001 = some 1000001 := rfl
  have g22 : gvN [2] 1000002 = some 900002 := rfl
  have m20 : gvM [2] 0 = 1000000 := rfl
  have m21 : gvM [2] 1 = 1000001 := rfl
  have m22 : gvM [2] 2 = 900002 := rfl
  have g30 : gvN [3] 1000000 = some 1000000 := rfl
  have g31 : gvN [3] 1000001 = some 1000001 := rfl
  have g32 : gvN [3] 1000002 = some 1000002 := rfl
  have g33 : gvN [3] 1000003 = some 900003 := rfl
  have m30 : gvM [3] 0 = 1000000 := rfl
  have m31 : gvM [3] 1 = 1000001 := rfl
  have m32 : gvM [3] 2 = 1000002 := rfl
  have m33 : gvM [3] 3 = 900003 := rfl
  unfold c_fh1 at h
  split at h
  case h_3 => cases h
  · rename_i n f xs
    split at h
    · rename_i hc
      obtain ⟨rfl, hn⟩ := hc
      simp only [Option.some.injEq, Prod.mk.injEq] at h
      obtain ⟨rfl, rfl, rfl⟩ := h
      refine is.goG hm hΓ k_fh1 (1000000 :: 1000001 :: 900002 :: o_fh1) [2] (by simp [a_fh1]) (by simp) ?_
      simp only [a_fh1, g20, g21, g22, m20, m21, m22, hn, List.zipIdx_cons, List.zipIdx_nil, ↓SP, SQ, Gam.add, stepM, callC, argC, lendO, nmBy, nmC, likeL, likeB, plainOb, offs, exL, X, F, trP, trO, stepD, stepW, newA, SV.tr, SV.trL, fz, allP, Ob.tr, loadA, cellsA, SV.cells, binA, binI, eqOut, isSl, isPt, natOf, callee, snap, SV.refsL, SV.refs, thaw, fzAll, loA, hiA, elemOf, partsA, buildA, putCells, ↓reduceIte, reduceCtorEq, okCell, Nat.reduceAdd, Nat.reduceEqDiff, Nat.reduceSub, Nat.reduceMul, Nat.reduceLeDiff, Nat.reduceLT, Nat.reduceBEq, PV.scal, PV.scalL, SV.scal, SV.scalL, Ob.scal, PV.isCell, pure', resO]
      refine finG_gen [900002] trivial (by simp [retA, rvA, mkE_cons, mk_nil, mkO_cons, mkO_nil, loadA, SV.tr, SV.trL, nmF, rn_nil, rn_cons1, rn_cons2, plainOb, SV.refsL, SV.refs, Ob.refs, X, F, List.range_succ, mkO, setO_mk]; rfl) ?_ ?_ ?_ ?_ ?_ ?_ <;> simp [goneAt, gone, Ob.tr, retA, rvA, mkE_cons, mk_nil, mkO_cons, mkO_nil, loadA, SV.tr, SV.trL, nmF, rn_nil, rn_cons1, rn_cons2, plainOb, SV.refsL, SV.refs, Ob.refs, X, F, List.range_succ, mkO, setO_mk]
    · rename_i hc
      simp only [Option.some.injEq, Prod.mk.injEq] at h
      obtain ⟨rfl, rfl, rfl⟩ := h
      refine is.goX hm hΓ k_fh1 (1000000 :: 1000001 :: 1000002 :: o_fh1) (by simp [a_fh1]) (by simp) ?_
      cases f with
      | true =>
        by_cases hn : 2 ≤ n
        · simp only [a_fh1, hn, List.zipIdx_cons, List.zipIdx_nil, ↓SP, SQ, Gam.add, stepM, callC, argC, lendO, nmBy, nmC, likeL, likeB, plainOb, offs, exL, X, F, trP, trO, stepD, stepW, newA, SV.tr, SV.trL, fz, allP, Ob.tr, loadA, cellsA, SV.cells, binA, binI, eqOut, isSl, isPt, natOf, callee, snap, SV.refsL, SV.refs, thaw, fzAll, loA, hiA, elemOf, partsA, buildA, putCells, ↓reduceIte, reduceCtorEq, okCell, Nat.reduceAdd, Nat.reduceEqDiff, Nat.reduceSub, Nat.reduceMul, Nat.reduceLeDiff, Nat.reduceLT, Nat.reduceBEq, PV.scal, PV.scalL, SV.scal, SV.scalL, Ob.scal, PV.isCell, pure', resO]
          refine finA_gen [] trivial (by simp [retA, rvA, mkE_cons, mk_nil, mkO_cons, mkO_nil, loadA, SV.tr, SV.trL, nmF, rn_nil, rn_cons1, rn_cons2, plainOb, SV.refsL, SV.refs, Ob.refs, X, F, List.range_succ, mkO, setO_mk]; rfl) ?_ ?_ ?_ ?_ ?_ ?_ ?_ <;> simp [retA, rvA, mkE_cons, mk_nil, mkO_cons, mkO_nil, loadA, SV.tr, SV.trL, nmF, rn_nil, rn_cons1, rn_cons2, plainOb, SV.refsL, SV.refs, Ob.refs, X, F, List.range_succ, mkO, setO_mk]
        · simp only [a_fh1, hn, List.zipIdx_cons, List.zipIdx_nil, ↓SP, SQ, Gam.add, stepM, callC, argC, lendO, nmBy, nmC, likeL, likeB, plainOb, offs, exL, X, F, trP, trO, stepD, stepW, newA, SV.tr, SV.trL, fz, allP, Ob.tr, loadA, cellsA, SV.cells, binA, binI, eqOut, isSl, isPt, natOf, callee, snap, SV.refsL, SV.refs, thaw, fzAll, loA, hiA, elemOf, partsA, buildA, putCells, ↓reduceIte, reduceCtorEq, okCell, Nat.reduceAdd, Nat.reduceEqDiff, Nat.reduceSub, Nat.reduceMul, Nat.reduceLeDiff, Nat.reduceLT, Nat.reduceBEq, PV.scal, PV.scalL, SV.scal, SV.scalL, Ob.scal, PV.isCell, pure', resO]
          refine finA_gen [] trivial (by simp [retA, rvA, mkE_cons, mk_nil, mkO_cons, mkO_nil, loadA, SV.tr, SV.trL, nmF, rn_nil, rn_cons1, rn_cons2, plainOb, SV.refsL, SV.refs, Ob.refs, X, F, List.range_succ, mkO, setO_mk]; rfl) ?_ ?_ ?_ ?_ ?_ ?_ ?_ <;> simp [retA, rvA, mkE_cons, mk_nil, mkO_cons, mkO_nil, loadA, SV.tr, SV.trL, nmF, rn_nil, rn_cons1, rn_cons2, plainOb, SV.refsL, SV.refs, Ob.refs, X, F, List.range_succ, mkO, setO_mk]
      | false =>
        have hn : ¬ 2 ≤ n := fun h => hc ⟨rfl, h⟩
        simp only [a_fh1, hn, List.zipIdx_cons, List.zipIdx_nil, ↓SP, SQ, Gam.add, stepM, callC, argC, lendO, nmBy, nmC, likeL, likeB, plainOb, offs, exL, X, F, trP, trO, stepD, stepW, newA, SV.tr, SV.trL, fz, allP, Ob.tr, loadA, cellsA, SV.cells, binA, binI, eqOut, isSl, isPt, natOf, callee, snap, SV.refsL, SV.refs, thaw, fzAll, loA, hiA, elemOf, partsA, buildA, putCells, ↓reduceIte, reduceCtorEq, okCell, Nat.reduceAdd, Nat.reduceEqDiff, Nat.reduceSub, Nat.reduceMul, Nat.reduceLeDiff, Nat.reduceLT, Nat.reduceBEq, PV.scal, PV.scalL, SV.scal, SV.scalL, Ob.scal, PV.isCell, pure', resO]
        refine finA_gen [] trivial (by simp [retA, rvA, mkE_cons, mk_nil, mkO_cons, mkO_nil, loadA, SV.tr, SV.trL, nmF, rn_nil, rn_cons1, rn_cons2, plainOb, SV.refsL, SV.refs, Ob.refs, X, F, List.range_succ, mkO, setO_mk]; rfl) ?_ ?_ ?_ ?_ ?_ ?_ ?_ <;> simp [retA, rvA, mkE_cons, mk_nil, mkO_cons, mkO_nil, loadA, SV.tr, SV.trL, nmF, rn_nil, rn_cons1, rn_cons2, plainOb, SV.refsL, SV.refs, Ob.refs, X, F, List.range_succ, mkO, setO_mk]
  · rename_i n xs ys
    simp only [Option.some.injEq, Prod.mk.injEq] at h
    obtain ⟨rfl, rfl, rfl⟩ := h
    refine is.goG hm hΓ k_fh1 (1000000 :: 1000001 :: 1000002 :: 900003 :: o_fh1) [3] (by simp [a_fh1]) (by simp) ?_
    by_cases hn : 2 ≤ n
    · simp only [a_fh1, g30, g31, g32, g33, m30, m31, m32, m33, hn, List.zipIdx_cons, List.zipIdx_nil, ↓SP, SQ, Gam.add, stepM, callC, argC, lendO, nmBy, nmC, likeL, likeB, plainOb, offs, exL, X, F, trP, trO, stepD, stepW, newA, SV.tr, SV.trL, fz, allP, Ob.tr, loadA, cellsA, SV.cells, binA, binI, eqOut, isSl, isPt, natOf, callee, snap, SV.refsL, SV.refs, thaw, fzAll, loA, hiA, elemOf, partsA, buildA, putCells, ↓reduceIte, reduceCtorEq, okCell, Nat.reduceAdd, Nat.reduceEqDiff, Nat.reduceSub, Nat.reduceMul, Nat.reduceLeDiff, Nat.reduceLT, Nat.reduceBEq, PV.scal, PV.scalL, SV.scal, SV.scalL, Ob.scal, PV.isCell, pure', resO]
      refine finG_gen [900003] trivial (by simp [retA, rvA, mkE_cons, mk_nil, mkO_cons, mkO_nil, loadA, SV.tr, SV.trL, nmF, rn_nil, rn_cons1, rn_cons2, plainOb, SV.refsL, SV.refs, Ob.refs, X, F, List.range_succ, mkO, setO_mk]; rfl) ?_ ?_ ?_ ?_ ?_ ?_ <;> simp [goneAt, gone, Ob.tr, retA, rvA, mkE_cons, mk_nil, mkO_cons, mkO_nil, loadA, SV.tr, SV.trL, nmF, rn_nil, rn_cons1, rn_cons2, plainOb, SV.refsL, SV.refs, Ob.refs, X, F, List.range_succ, mkO, setO_mk]
    · simp only [a_fh1, g30, g31, g32, g33, m30, m31, m32, m33, hn, List.zipIdx_cons, List.zipIdx_nil, ↓SP, SQ, Gam.add, stepM, callC, argC, lendO, nmBy, nmC, likeL, likeB, plainOb, offs, exL, X, F, trP, trO, stepD, stepW, newA, SV.tr, SV.trL, fz, allP, Ob.tr, loadA, cellsA, SV.cells, binA, binI, eqOut, isSl, isPt, natOf, callee, snap, SV.refsL, SV.refs, thaw, fzAll, loA, hiA, elemOf, partsA, buildA, putCells, ↓reduceIte, reduceCtorEq, okCell, Nat.reduceAdd, Nat.reduceEqDiff, Nat.reduceSub, Nat.reduceMul, Nat.reduceLeDiff, Nat.reduceLT, Nat.reduceBEq, PV.scal, PV.scalL, SV.scal, SV.scalL, Ob.scal, PV.isCell, pure', resO]
      refine finG_gen [900003] trivial (by simp [retA, rvA, mkE_cons, mk_nil, mkO_cons, mkO_nil, loadA, SV.tr, SV.trL, nmF, rn_nil, rn_cons1, rn_cons2, plainOb, SV.refsL, SV.refs, Ob.refs, X, F, List.range_succ, mkO, setO_mk]; rfl) ?_ ?_ ?_ ?_ ?_ ?_ <;> simp [goneAt, gone, Ob.tr, retA, rvA, mkE_cons, mk_nil, mkO_cons, mkO_nil, loadA, SV.tr, SV.trL, nmF, rn_nil, rn_cons1, rn_cons2, plainOb, SV.refsL, SV.refs, Ob.refs, X, F, List.range_succ, mkO, setO_mk]
/-- What stands in two boxes once a function handed on was called with all lists of answers; the second box keeps one of them. -/
def runG (Γ0 : Gam) (g : FuncId) (f : Nat → List Bool × Int) : Nat → PV → Option (PV × Option (List PV))
  | 0, u => some (u, none)
  | k + 1, u => match runG Γ0 g f k u with
    | some (u', none) => (match Γ0 g [.ar 1000002, .p (.int .i64 (f k).2), .bx 1000000 0, .bx 1000001 0] [.box [.p u'], .box [.p .nilsl], .arr 1 (bools (f k).1)] with
      | some (.tp [], [.box [.p a], .box [.p .nilsl], .arr 1 xs], []) => if xs.length = (f k).1.length then some (a, none) else none
      | some (.tp [], [.box [.p a], .box [.ar 2000000], .box []], [.arr 1 zs]) => some (a, some zs)
      | _ => none)
    | some (u', some ys) => (match Γ0 g [.ar 1000002, .p (.int .i64 (f k).2), .bx 1000000 0, .bx 1000001 0] [.box [.p u'], .box [.ar 1000003], .arr 1 (bools (f k).1), .arr 1 ys] with
      | some (.tp [], [.box [.p a], .box [.ar 2000000], .arr 1 xs, .box []], [.arr 1 zs]) => if xs.length = (f k).1.length then some (a, some zs) else none
      | some (.tp [], [.box [.p a], .box [.ar 2000000], .box [], .box []], [.arr 1 zs]) => some (a, some zs)
      | _ => none)
    | none => none
theorem runG_some {Γ0 : Gam} {g : FuncId} {f : Nat → List Bool × Int} {u : PV} {r : PV × Option (List PV)} : ∀ {k : Nat}, runG Γ0 g f k u = some r → ∀ j, j < k → ∃ r1 r2, runG Γ0 g f j u = some r1 ∧ runG Γ0 g f (j + 1) u = some r2
  | 0, _, j, hj => by omega
  | k + 1, h, j, hj => by
    by_cases hjk : j = k
    · subst hjk
      cases he : runG Γ0 g f j u with
      | none => simp only [runG, he] at h; cases h
      | some r1 => exact ⟨r1, r, rfl, h⟩
    · cases he : runG Γ0 g f k u with
      | none => simp only [runG, he] at h; cases h
      | some r1 => exact runG_some he j (by omega)
/-- One step: the box was empty. -/
theorem runG_n {Γ0 : Gam} {g : FuncId} {f : Nat → List Bool × Int} {u u' : PV} {r2 : PV × Option (List PV)} {k : Nat} (h1 : runG Γ0 g f k u = some (u', none)) (h2 : runG Γ0 g f (k + 1) u = some r2) :
    (∃ a xs, xs.length = (f k).1.length ∧ r2 = (a, none) ∧ Γ0 g [.ar 1000002, .p (.int .i64 (f k).2), .bx 1000000 0, .bx 1000001 0] [.box [.p u'], .box [.p .nilsl], .arr 1 (bools (f k).1)] = some (.tp [], [.box [.p a], .box [.p .nilsl], .arr 1 xs], [])) ∨
    ∃ a zs, r2 = (a, some zs) ∧ Γ0 g [.ar 1000002, .p (.int .i64 (f k).2), .bx 1000000 0, .bx 1000001 0] [.box [.p u'], .box [.p .nilsl], .arr 1 (bools (f k).1)] = some (.tp [], [.box [.p a], .box [.ar 2000000], .box []], [.arr 1 zs]) := by
  simp only [runG, h1] at h2
  split at h2
  · rename_i a xs he
    split at h2
    · rename_i hl
      injection h2 with h2
      exact .inl ⟨a, xs, hl, h2.symm, he⟩
    · cases h2
  · rename_i a zs he
    injection h2 with h2
    exact .inr ⟨a, zs, h2.symm, he⟩
  · cases h2
theorem runG_s {Γ0 : Gam} {g : FuncId} {f : Nat → List Bool × Int} {u u' : PV} {ys : List PV} {r2 : PV × Option (List PV)} {k : Nat} (h1 : runG Γ0 g f k u = some (u', some ys)) (h2 : runG Γ0 g f (k + 1) u = some r2) :
    (∃ a xs zs, xs.length = (f k).1.length ∧ r2 = (a, some zs) ∧ Γ0 g [.ar 1000002, .p (.int .i64 (f k).2), .bx 1000000 0, .bx 1000001 0] [.box [.p u'], .box [.ar 1000003], .arr 1 (bools (f k).1), .arr 1 ys] = some (.tp [], [.box [.p a], .box [.ar 2000000], .arr 1 xs, .box []], [.arr 1 zs])) ∨
    ∃ a zs, r2 = (a, some zs) ∧ Γ0 g [.ar 1000002, .p (.int .i64 (f k).2), .bx 1000000 0, .bx 1000001 0] [.box [.p u'], .box [.ar 1000003], .arr 1 (bools (f k).1), .arr 1 ys] = some (.tp [], [.box [.p a], .box [.ar 2000000], .box [], .box []], [.arr 1 zs]) := by
  simp only [runG, h1] at h2
  split at h2
  · rename_i a xs zs he
    split at h2
    · rename_i hl
      injection h2 with h2
      exact .inl ⟨a, xs, zs, hl, h2.symm, he⟩
    · cases h2
  · rename_i a zs he
    injection h2 with h2
    exact .inr ⟨a, zs, h2.symm, he⟩
  · cases h2
def bxG : Option (List PV) → SV
  | none => .p .nilsl
  | some _ => .ar 40
def arG : Option (List PV) → Option Ob
  | none => none
  | some ys => some (.arr 1 ys)
def a_listsG (f_has : FuncId) (f_toldG : FuncId) (f_opened : FuncId) : AFn := ⟨3, 
  .seq (.reg [⟨some 3, none, .w (.box 2 (.t 0))⟩])
  (.seq (.reg [⟨some 10, none, .d (.mv (.t 1))⟩,
    ⟨some 11, none, .d (.len (.t 10))⟩,
    ⟨some 6, none, .d (.mv (.t 11))⟩])
  (.seq (.reg [⟨some 12, none, .d (.mv (.t 6))⟩,
    ⟨some 13, none, .d (.bin .arith .shl (.c (.int .i64 1)) (.t 12))⟩,
    ⟨some 14, none, .d (.mv (.c (.int .i64 0)))⟩])
  (.block 0 (.loop (.seq (.reg [⟨some 15, none, .d (.bin .arith .lss (.t 14) (.t 13))⟩])
    (.seq (.cond (.t 15) (.skip) (.exit 0))
    (.seq (.block 1 (.seq (.reg [⟨some 16, none, .d (.mv (.t 14))⟩,
       ⟨some 7, none, .d (.mv (.t 16))⟩])
     (.seq (.reg [⟨some 17, none, .w (.bslice 1 [] [])⟩,
       ⟨some 8, none, .d (.mv (.t 17))⟩])
     (.seq (.seq (.reg [⟨some 18, none, .d (.mv (.t 6))⟩,
       ⟨some 19, none, .d (.mv (.c (.int .i64 0)))⟩])
     (.block 2 (.loop (.seq (.reg [⟨some 20, none, .d (.bin .arith .lss (.t 19) (.t 18))⟩])
       (.seq (.cond (.t 20) (.skip) (.exit 2))
       (.seq (.block 3 (.seq (.reg [⟨some 21, none, .d (.mv (.t 19))⟩,
          ⟨some 9, none, .d (.mv (.t 21))⟩])
        (.reg [⟨some 22, none, .d (.mv (.t 8))⟩,
          ⟨some 23, none, .d (.mv (.t 7))⟩,
          ⟨some 24, none, .d (.mv (.t 6))⟩,
          ⟨some 25, none, .d (.bin .arith .sub (.t 24) (.c (.int .i64 1)))⟩,
          ⟨some 26, none, .d (.mv (.t 9))⟩,
          ⟨some 27, none, .d (.bin .arith .sub (.t 25) (.t 26))⟩,
          ⟨some 28, none, .d (.call (.f f_has) [(.t 23), (.t 27)])⟩,
          ⟨some 29, none, .w (.bslice 1 [.bool false] [(0, (.t 28))])⟩,
          ⟨some 30, none, .w (.append 1 (.t 22) (.t 29))⟩,
          ⟨some 8, none, .d (.mv (.t 30))⟩])))
       (.reg [⟨some 31, none, .d (.bin .arith .add (.t 19) (.c (.int .i64 1)))⟩,
         ⟨some 19, none, .d (.mv (.t 31))⟩])))))))
     (.reg [⟨some 32, none, .d (.mv (.t 2))⟩,
       ⟨some 33, none, .d (.mv (.t 8))⟩,
       ⟨some 34, none, .d (.load true 2 (.t 3))⟩,
       ⟨some 35, none, .d (.mv (.t 1))⟩,
       ⟨some 36, none, .d (.mv (.t 8))⟩,
       ⟨some 37, none, .w (.callL (.f f_toldG) [(.t 34), (.t 35), (.t 36)] [17] 0 false)⟩,
       ⟨some 38, none, .d (.call (.f f_opened) [(.t 37)])⟩,
       ⟨some 39, none, .d (.len (.t 38))⟩,
       ⟨some 40, none, .w (.callL (.t 32) [(.t 33), (.t 39)] [1000000, 1000001, 17, 40] 101 false)⟩])))))
    (.reg [⟨some 41, none, .d (.bin .arith .add (.t 14) (.c (.int .i64 1)))⟩,
      ⟨some 14, none, .d (.mv (.t 41))⟩])))))))), []⟩
def n_listsG : Nat → Option Ann := fun d => if d = 40 then some ⟨[1000000, 1000001, 17, 40], 101, false⟩ else if d = 37 then some ⟨[17], 0, false⟩ else none
abbrev k_listsG : List Nat := [0, 1, 2, 3, 6, 7, 8, 9, 13, 14, 15, 18, 19, 20]
abbrev o_listsG : List Nat := [3, 17, 29, 30, 40]
def c_listsG (Γ0 : Gam) : Con
  | [.p (.agg [.sl 1 xs, .int .i64 m]), .p (.sl 1 ls), .cl g [] [.bx 1000000 0, .bx 1000001 0]], [.box [.p u], .box [.p .nilsl]] => if isI xs = true ∧ isI ls = true ∧ xs.length ≤ 1100000 ∧ ls.length ≤ 8 ∧ m ≤ 1000 ∧ allSm m (ofI xs) = true then (match runG Γ0 g (fK (ofI xs) m (ofI ls)) (2 ^ ls.length) u with
    | some (a, none) => some (.tp [], [.box [.p a], .box [.p .nilsl]], [])
    | some (a, some ys) => some (.tp [], [.box [.p a], .box [.ar 2000000]], [.arr 1 ys])
    | none => none) else none
  | _, _ => none
theorem s_listsG {P : Program} (hm : P.follows .mixedOrders = true) {Γ : Gam} (hΓ : GS P Γ) {n : FuncId} {f_has : FuncId} {f_toldG : FuncId} {f_opened : FuncId} (is : Is P n (a_listsG f_has f_toldG f_opened)) (h_has : Γ f_has = c_has) (h_toldG : Γ f_toldG = c_toldG) (h_opened : Γ f_opened = c_l2Open)  : Says P n (c_listsG Γ) := by
  intro args ext r ext' fs h
  unfold c_listsG at h
  split at h
  case h_2 => cases h
  rename_i xs m ls g u
  split at h
  case isFalse => cases h
  rename_i hc
  obtain ⟨hx, hl, hx0, hl0, hm1, hsm⟩ := hc
  obtain ⟨x, rfl⟩ := isI_out hx
  obtain ⟨l, rfl⟩ := isI_out hl
  rw [ints_len] at hx0 hl0
  rw [ofI_ints] at hsm
  simp only [ofI_ints, ints_len] at h
  have g0 : gvN [] 1000000 = some 1000000 := rfl
  have g1 : gvN [] 1000001 = some 1000001 := rfl
  have m0 : gvM [] 0 = 1000000 := rfl
  have m1 : gvM [] 1 = 1000001 := rfl
  obtain ⟨rr, hrun⟩ : ∃ rr, runG Γ g (fK x m l) (2 ^ l.length) u = some rr := by
    cases he : runG Γ g (fK x m l) (2 ^ l.length) u with
    | none => rw [he] at h; cases h
    | some rr => exact ⟨rr, rfl⟩
  rw [hrun] at h
  have hst := runG_some hrun
  have hsh := shl8 hl0
  have hp8 := pow8 hl0
  have hn0 : ¬ (l.length : Int) < 0 := by omega
  have hfin : r = .tp [] ∧ ((∃ a, rr = (a, none) ∧ ext' = [.box [.p a], .box [.p .nilsl]] ∧ fs = []) ∨ ∃ a ys, rr = (a, some ys) ∧ ext' = [.box [.p a], .box [.ar 2000000]] ∧ fs = [.arr 1 ys]) := by
    obtain ⟨a, o⟩ := rr
    cases o with
    | none =>
      simp only [Option.some.injEq, Prod.mk.injEq] at h
      exact ⟨h.1.symm, .inl ⟨a, rfl, h.2.1.symm, h.2.2.symm⟩⟩
    | some ys =>
      simp only [Option.some.injEq, Prod.mk.injEq] at h
      exact ⟨h.1.symm, .inr ⟨a, ys, rfl, h.2.1.symm, h.2.2.symm⟩⟩
  obtain ⟨rfl, hfin⟩ := hfin
  clear h
  refine is.goG hm hΓ k_listsG (1000000 :: 1000001 :: o_listsG) [] (by simp [a_listsG]) (by simp) ?_
  simp only [a_listsG, g0, g1, m0, m1, hsh, hn0, List.zipIdx_cons, List.zipIdx_nil, ↓SP, SQ, Gam.add, stepM, callC, argC, lendO, nmBy, nmC, likeL, likeB, plainOb, offs, exL, X, F, trP, trO, stepD, stepW, newA, SV.tr, SV.trL, fz, allP, Ob.tr, loadA, cellsA, SV.cells, binA, binI, eqOut, isSl, isPt, natOf, callee, snap, SV.refsL, SV.refs, thaw, fzAll, loA, hiA, elemOf, partsA, buildA, putCells, ↓reduceIte, reduceCtorEq, okCell, Nat.reduceAdd, Nat.reduceEqDiff, Nat.reduceSub, Nat.reduceMul, Nat.reduceLeDiff, Nat.reduceLT, Nat.reduceBEq, PV.scal, PV.scalL, SV.scal, SV.scalL, Ob.scal, PV.isCell, pure', resO]
  refine loop_at (fun s : Nat × PV × Option (List PV) × SV × SV × SV × SV × SV × SV × SV × Option Ob × Option Ob => mkEnv [(0, .p (.agg [.sl 1 (ints x), .int .i64 m])), (1, .p (.sl 1 (ints l))), (2, .cl g [] [.bx 1000000 0, .bx 1000001 0]), (3, .bx 3 0), (6, si l.length), (7, s.2.2.2.1), (8, s.2.2.2.2.1), (9, s.2.2.2.2.2.1), (13, si ((2 ^ l.length : Nat) : Int)), (14, si s.1), (15, s.2.2.2.2.2.2.1), (18, s.2.2.2.2.2.2.2.1), (19, s.2.2.2.2.2.2.2.2.1), (20, s.2.2.2.2.2.2.2.2.2.1)]) (fun s => mkO [(1000000, some (.box [.p s.2.1])), (1000001, some (.box [bxG s.2.2.1])), (3, some (.box [.p (.sl 1 (ints x)), si m])), (17, s.2.2.2.2.2.2.2.2.2.2.1), (29, s.2.2.2.2.2.2.2.2.2.2.2), (30, none), (40, arG s.2.2.1)]) (fun s => s.1 ≤ 2 ^ l.length ∧ runG Γ g (fK x m l) s.1 u = some (s.2.1, s.2.2.1)) (fun s => 2 ^ l.length - s.1) (0, u, none, .junk, .junk, .junk, .junk, .junk, .junk, .junk, none, none) (by simp [runG]) rfl rfl ?_
  rintro ⟨v, u1, os, c1, c2, c3, c4, c5, c6, c7, o17, ob0⟩ ⟨hv, hr⟩ R hR hN
  simp only at hv hr
  by_cases hlt : v < 2 ^ l.length
  · obtain ⟨r1, r2, e1, e2⟩ := hst v hlt
    rcases os with _ | ys
    · skip
      have h1 : (v : Int) < ((2 ^ l.length : Nat) : Int) := Int.ofNat_lt.2 hlt
      have hw := wrap_one (i := v) (by omega)
      simp only [h1, hw, bxG, arG, ↓SP, SQ, Gam.add, stepM, callC, argC, lendO, nmBy, nmC, likeL, likeB, plainOb, offs, exL, X, F, trP, trO, stepD, stepW, newA, SV.tr, SV.trL, fz, allP, Ob.tr, loadA, cellsA, SV.cells, binA, binI, eqOut, isSl, isPt, natOf, callee, snap, SV.refsL, SV.refs, thaw, fzAll, loA, hiA, elemOf, partsA, buildA, putCells, ↓reduceIte, reduceCtorEq, okCell, Nat.reduceAdd, Nat.reduceEqDiff, Nat.reduceSub, Nat.reduceMul, Nat.reduceLeDiff, Nat.reduceLT, Nat.reduceBEq, PV.scal, PV.scalL, SV.scal, SV.scalL, Ob.scal, PV.isCell, pure', resO]
      have hb8 : IntKind.i64.wrap ((l.length : Int) - 1) = (l.length : Int) - 1 := wrap64 (by omega) (by omega)
      refine loop_at (fun s : Nat × Option Ob × SV × SV => mkEnv [(0, .p (.agg [.sl 1 (ints x), .int .i64 m])), (1, .p (.sl 1 (ints l))), (2, .cl g [] [.bx 1000000 0, .bx 1000001 0]), (3, .bx 3 0), (6, si l.length), (7, si v), (8, .ar 17), (9, s.2.2.1), (13, si ((2 ^ l.length : Nat) : Int)), (14, si v), (15, .p (.bool true)), (18, si l.length), (19, si s.1), (20, s.2.2.2)]) (fun s => mkO [(1000000, some (.box [.p u1])), (1000001, some (.box [.p .nilsl])), (3, some (.box [.p (.sl 1 (ints x)), si m])), (17, some (.arr 1 (bools ((ansK l.length v).take s.1)))), (29, s.2.1), (30, none), (40, none)]) (fun s => s.1 ≤ l.length) (fun s => l.length - s.1) (0, Option.map (Ob.tr (fz 17 o17)) ob0, SV.tr (fz 17 o17) c3, SV.tr (fz 17 o17) c7) (by simp) rfl rfl ?_
      rintro ⟨j, ob, d1, d2⟩ hj R' hR' hN'
      simp only at hj
      by_cases hjl : j < l.length
      · have h2 : (j : Int) < l.length := by omega
        have hwj := wrap_one (i := j) (by omega)
        have hb : IntKind.i64.wrap ((l.length : Int) - 1 - (j : Int)) = ((l.length - 1 - j : Nat) : Int) := by rw [wrap64 (by omega) (by omega)]; omega
        have hb0 : (0 : Int) ≤ ((l.length - 1 - j : Nat) : Int) := by omega
        have hr' : ((ansK l.length v).take j).length + 1 ≤ roomA := by rw [List.length_take, ansK_len]; unfold roomA; omega
        have hao := ansK_one l.length v j hjl
        simp only [h2, hwj, hb8, hb, hb0, hr', h_has, c_has, bools_len, bools_app1, hao, bools_cell, ↓SP, SQ, Gam.add, stepM, callC, argC, lendO, nmBy, nmC, likeL, likeB, plainOb, offs, exL, X, F, trP, trO, stepD, stepW, newA, SV.tr, SV.trL, fz, allP, Ob.tr, loadA, cellsA, SV.cells, binA, binI, eqOut, isSl, isPt, natOf, callee, snap, SV.refsL, SV.refs, thaw, fzAll, loA, hiA, elemOf, partsA, buildA, putCells, ↓reduceIte, reduceCtorEq, okCell, Nat.reduceAdd, Nat.reduceEqDiff, Nat.reduceSub, Nat.reduceMul, Nat.reduceLeDiff, Nat.reduceLT, Nat.reduceBEq, PV.scal, PV.scalL, SV.scal, SV.scalL, Ob.scal, PV.isCell, pure', resO]
        exact hN' (j + 1, _, _, _) _ _ (by simp only; omega) (by simp only; omega) rfl rfl
      · have he : j = l.length := by omega
        have h2 : ¬ (j : Int) < l.length := by omega
        have ht : (ansK l.length v).take j = ansK l.length v := List.take_of_length_le (by rw [ansK_len]; omega)
        have g2 : l.length ≤ 1100000 := by omega
        have g3 := ansK_len l.length v
        have g4 : (endL m x l (ansK l.length v)).length ≤ 1100000 := by rw [(endL_ok (allSm_eq.1 hsm) l _).1]; exact hx0
        simp only [h2, ↓SP, SQ, Gam.add, stepM, callC, argC, lendO, nmBy, nmC, likeL, likeB, plainOb, offs, exL, X, F, trP, trO, stepD, stepW, newA, SV.tr, SV.trL, fz, allP, Ob.tr, loadA, cellsA, SV.cells, binA, binI, eqOut, isSl, isPt, natOf, callee, snap, SV.refsL, SV.refs, thaw, fzAll, loA, hiA, elemOf, partsA, buildA, putCells, ↓reduceIte, reduceCtorEq, okCell, Nat.reduceAdd, Nat.reduceEqDiff, Nat.reduceSub, Nat.reduceMul, Nat.reduceLeDiff, Nat.reduceLT, Nat.reduceBEq, PV.scal, PV.scalL, SV.scal, SV.scalL, Ob.scal, PV.isCell, pure', resO]
        refine hR' _ _ _ (by intro h; cases h) ?_
        rcases runG_n hr e2 with ⟨a, zs, hzl, rfl, hc3⟩ | ⟨a, zs, rfl, hc3⟩
        · have hzl2 : zs.length = l.length := hzl.trans (ansK_len _ _)
          have e3' : Γ g [.ar 1000002, .p (.int .i64 ((opens (endL m x l (ansK l.length v))).length : Int)), .bx 1000000 0, .bx 1000001 0] [.box [.p u1], .box [.p .nilsl], .arr 1 (bools (ansK l.length v))] = some (.tp [], [.box [.p a], .box [.p .nilsl], .arr 1 zs], []) := hc3
          simp only [ht, h_toldG, c_toldG, h_opened, c_l2Open, hx0, g2, g3, hm1, hsm, g4, ints_len, bools_len, isI_ints, ofI_ints, isBo_bools, ofBo_bools, e3', hw, hzl2, callG, likeG, gone, goneN, goneAt, updG, nmG, killE_mk, killO_mk, killT, killL, ↓SP, SQ, Gam.add, stepM, callC, argC, lendO, nmBy, nmC, likeL, likeB, plainOb, offs, exL, X, F, trP, trO, stepD, stepW, newA, SV.tr, SV.trL, fz, allP, Ob.tr, loadA, cellsA, SV.cells, binA, binI, eqOut, isSl, isPt, natOf, callee, snap, SV.refsL, SV.refs, thaw, fzAll, loA, hiA, elemOf, partsA, buildA, putCells, ↓reduceIte, reduceCtorEq, okCell, Nat.reduceAdd, Nat.reduceEqDiff, Nat.reduceSub, Nat.reduceMul, Nat.reduceLeDiff, Nat.reduceLT, Nat.reduceBEq, PV.scal, PV.scalL, SV.scal, SV.scalL, Ob.scal, PV.isCell, pure', resO]
          exact hN (v + 1, a, none, _, _, _, _, _, _, _, _, _) _ _ ⟨by simp only; omega, by simp only; exact e2⟩ (by simp only; omega) rfl rfl
        · skip
          have e3' : Γ g [.ar 1000002, .p (.int .i64 ((opens (endL m x l (ansK l.length v))).length : Int)), .bx 1000000 0, .bx 1000001 0] [.box [.p u1], .box [.p .nilsl], .arr 1 (bools (ansK l.length v))] = some (.tp [], [.box [.p a], .box [.ar 2000000], .box []], [.arr 1 zs]) := hc3
          simp only [ht, h_toldG, c_toldG, h_opened, c_l2Open, hx0, g2, g3, hm1, hsm, g4, ints_len, bools_len, isI_ints, ofI_ints, isBo_bools, ofBo_bools, e3', hw, callG, likeG, gone, goneN, goneAt, updG, nmG, killE_mk, killO_mk, killT, killL, ↓SP, SQ, Gam.add, stepM, callC, argC, lendO, nmBy, nmC, likeL, likeB, plainOb, offs, exL, X, F, trP, trO, stepD, stepW, newA, SV.tr, SV.trL, fz, allP, Ob.tr, loadA, cellsA, SV.cells, binA, binI, eqOut, isSl, isPt, natOf, callee, snap, SV.refsL, SV.refs, thaw, fzAll, loA, hiA, elemOf, partsA, buildA, putCells, ↓reduceIte, reduceCtorEq, okCell, Nat.reduceAdd, Nat.reduceEqDiff, Nat.reduceSub, Nat.reduceMul, Nat.reduceLeDiff, Nat.reduceLT, Nat.reduceBEq, PV.scal, PV.scalL, SV.scal, SV.scalL, Ob.scal, PV.isCell, pure', resO]
          exact hN (v + 1, a, some zs, _, _, _, _, _, _, _, _, _) _ _ ⟨by simp only; omega, by simp only; exact e2⟩ (by simp only; omega) rfl rfl
    · skip
      have h1 : (v : Int) < ((2 ^ l.length : Nat) : Int) := Int.ofNat_lt.2 hlt
      have hw := wrap_one (i := v) (by omega)
      simp only [h1, hw, bxG, arG, ↓SP, SQ, Gam.add, stepM, callC, argC, lendO, nmBy, nmC, likeL, likeB, plainOb, offs, exL, X, F, trP, trO, stepD, stepW, newA, SV.tr, SV.trL, fz, allP, Ob.tr, loadA, cellsA, SV.cells, binA, binI, eqOut, isSl, isPt, natOf, callee, snap, SV.refsL, SV.refs, thaw, fzAll, loA, hiA, elemOf, partsA, buildA, putCells, ↓reduceIte, reduceCtorEq, okCell, Nat.reduceAdd, Nat.reduceEqDiff, Nat.reduceSub, Nat.reduceMul, Nat.reduceLeDiff, Nat.reduceLT, Nat.reduceBEq, PV.scal, PV.scalL, SV.scal, SV.scalL, Ob.scal, PV.isCell, pure', resO]
      have hb8 : IntKind.i64.wrap ((l.length : Int) - 1) = (l.length : Int) - 1 := wrap64 (by omega) (by omega)
      refine loop_at (fun s : Nat × Option Ob × SV × SV => mkEnv [(0, .p (.agg [.sl 1 (ints x), .int .i64 m])), (1, .p (.sl 1 (ints l))), (2, .cl g [] [.bx 1000000 0, .bx 1000001 0]), (3, .bx 3 0), (6, si l.length), (7, si v), (8, .ar 17), (9, s.2.2.1), (13, si ((2 ^ l.length : Nat) : Int)), (14, si v), (15, .p (.bool true)), (18, si l.length), (19, si s.1), (20, s.2.2.2)]) (fun s => mkO [(1000000, some (.box [.p u1])), (1000001, some (.box [.ar 40])), (3, some (.box [.p (.sl 1 (ints x)), si m])), (17, some (.arr 1 (bools ((ansK l.length v).take s.1)))), (29, s.2.1), (30, none), (40, some (.arr 1 ys))]) (fun s => s.1 ≤ l.length) (fun s => l.length - s.1) (0, Option.map (Ob.tr (fz 17 o17)) ob0, SV.tr (fz 17 o17) c3, SV.tr (fz 17 o17) c7) (by simp) rfl rfl ?_
      rintro ⟨j, ob, d1, d2⟩ hj R' hR' hN'
      simp only at hj
      by_cases hjl : j < l.length
      · have h2 : (j : Int) < l.length := by omega
        have hwj := wrap_one (i := j) (by omega)
        have hb : IntKind.i64.wrap ((l.length : Int) - 1 - (j : Int)) = ((l.length - 1 - j : Nat) : Int) := by rw [wrap64 (by omega) (by omega)]; omega
        have hb0 : (0 : Int) ≤ ((l.length - 1 - j : Nat) : Int) := by omega
        have hr' : ((ansK l.length v).take j).length + 1 ≤ roomA := by rw [List.length_take, ansK_len]; unfold roomA; omega
        have hao := ansK_one l.length v j hjl
        simp only [h2, hwj, hb8, hb, hb0, hr', h_has, c_has, bools_len, bools_app1, hao, bools_cell, ↓SP, SQ, Gam.add, stepM, callC, argC, lendO, nmBy, nmC, likeL, likeB, plainOb, offs, exL, X, F, trP, trO, stepD, stepW, newA, SV.tr, SV.trL, fz, allP, Ob.tr, loadA, cellsA, SV.cells, binA, binI, eqOut, isSl, isPt, natOf, callee, snap, SV.refsL, SV.refs, thaw, fzAll, loA, hiA, elemOf, partsA, buildA, putCells, ↓reduceIte, reduceCtorEq, okCell, Nat.reduceAdd, Nat.reduceEqDiff, Nat.reduceSub, Nat.reduceMul, Nat.reduceLeDiff, Nat.reduceLT, Nat.reduceBEq, PV.scal, PV.scalL, SV.scal, SV.scalL, Ob.scal, PV.isCell, pure', resO]
        exact hN' (j + 1, _, _, _) _ _ (by simp only; omega) (by simp only; omega) rfl rfl
      · have he : j = l.length := by omega
        have h2 : ¬ (j : Int) < l.length := by omega
        have ht : (ansK l.length v).take j = ansK l.length v := List.take_of_length_le (by rw [ansK_len]; omega)
        have g2 : l.length ≤ 1100000 := by omega
        have g3 := ansK_len l.length v
        have g4 : (endL m x l (ansK l.length v)).length ≤ 1100000 := by rw [(endL_ok (allSm_eq.1 hsm) l _).1]; exact hx0
        simp only [h2, ↓SP, SQ, Gam.add, stepM, callC, argC, lendO, nmBy, nmC, likeL, likeB, plainOb, offs, exL, X, F, trP, trO, stepD, stepW, newA, SV.tr, SV.trL, fz, allP, Ob.tr, loadA, cellsA, SV.cells, binA, binI, eqOut, isSl, isPt, natOf, callee, snap, SV.refsL, SV.refs, thaw, fzAll, loA, hiA, elemOf, partsA, buildA, putCells, ↓reduceIte, reduceCtorEq, okCell, Nat.reduceAdd, Nat.reduceEqDiff, Nat.reduceSub, Nat.reduceMul, Nat.reduceLeDiff, Nat.reduceLT, Nat.reduceBEq, PV.scal, PV.scalL, SV.scal, SV.scalL, Ob.scal, PV.isCell, pure', resO]
        refine hR' _ _ _ (by intro h; cases h) ?_
        rcases runG_s hr e2 with ⟨a, xs', zs, hzl, rfl, hc3⟩ | ⟨a, zs, rfl, hc3⟩
        · have hzl2 : xs'.length = l.length := hzl.trans (ansK_len _ _)
          have e3' : Γ g [.ar 1000002, .p (.int .i64 ((opens (endL m x l (ansK l.length v))).length : Int)), .bx 1000000 0, .bx 1000001 0] [.box [.p u1], .box [.ar 1000003], .arr 1 (bools (ansK l.length v)), .arr 1 ys] = some (.tp [], [.box [.p a], .box [.ar 2000000], .arr 1 xs', .box []], [.arr 1 zs]) := hc3
          simp only [ht, h_toldG, c_toldG, h_opened, c_l2Open, hx0, g2, g3, hm1, hsm, g4, ints_len, bools_len, isI_ints, ofI_ints, isBo_bools, ofBo_bools, e3', hw, hzl2, callG, likeG, gone, goneN, goneAt, updG, nmG, killE_mk, killO_mk, killT, killL, ↓SP, SQ, Gam.add, stepM, callC, argC, lendO, nmBy, nmC, likeL, likeB, plainOb, offs, exL, X, F, trP, trO, stepD, stepW, newA, SV.tr, SV.trL, fz, allP, Ob.tr, loadA, cellsA, SV.cells, binA, binI, eqOut, isSl, isPt, natOf, callee, snap, SV.refsL, SV.refs, thaw, fzAll, loA, hiA, elemOf, partsA, buildA, putCells, ↓reduceIte, reduceCtorEq, okCell, Nat.reduceAdd, Nat.reduceEqDiff, Nat.reduceSub, Nat.reduceMul, Nat.reduceLeDiff, Nat.reduceLT, Nat.reduceBEq, PV.scal, PV.scalL, SV.scal, SV.scalL, Ob.scal, PV.isCell, pure', resO]
          exact hN (v + 1, a, some zs, _, _, _, _, _, _, _, _, _) _ _ ⟨by simp only; omega, by simp only; exact e2⟩ (by simp only; omega) rfl rfl
        · skip
          have e3' : Γ g [.ar 1000002, .p (.int .i64 ((opens (endL m x l (ansK l.length v))).length : Int)), .bx 1000000 0, .bx 1000001 0] [.box [.p u1], .box [.ar 1000003], .arr 1 (bools (ansK l.length v)), .arr 1 ys] = some (.tp [], [.box [.p a], .box [.ar 2000000], .box [], .box []], [.arr 1 zs]) := hc3
          simp only [ht, h_toldG, c_toldG, h_opened, c_l2Open, hx0, g2, g3, hm1, hsm, g4, ints_len, bools_len, isI_ints, ofI_ints, isBo_bools, ofBo_bools, e3', hw, callG, likeG, gone, goneN, goneAt, updG, nmG, killE_mk, killO_mk, killT, killL, ↓SP, SQ, Gam.add, stepM, callC, argC, lendO, nmBy, nmC, likeL, likeB, plainOb, offs, exL, X, F, trP, trO, stepD, stepW, newA, SV.tr, SV.trL, fz, allP, Ob.tr, loadA, cellsA, SV.cells, binA, binI, eqOut, isSl, isPt, natOf, callee, snap, SV.refsL, SV.refs, thaw, fzAll, loA, hiA, elemOf, partsA, buildA, putCells, ↓reduceIte, reduceCtorEq, okCell, Nat.reduceAdd, Nat.reduceEqDiff, Nat.reduceSub, Nat.reduceMul, Nat.reduceLeDiff, Nat.reduceLT, Nat.reduceBEq, PV.scal, PV.scalL, SV.scal, SV.scalL, Ob.scal, PV.isCell, pure', resO]
          exact hN (v + 1, a, some zs, _, _, _, _, _, _, _, _, _) _ _ ⟨by simp only; omega, by simp only; exact e2⟩ (by simp only; omega) rfl rfl
  · have he : v = 2 ^ l.length := by omega
    have h1 : ¬ (v : Int) < ((2 ^ l.length : Nat) : Int) := by omega
    simp only [h1, ↓SP, SQ, Gam.add, stepM, callC, argC, lendO, nmBy, nmC, likeL, likeB, plainOb, offs, exL, X, F, trP, trO, stepD, stepW, newA, SV.tr, SV.trL, fz, allP, Ob.tr, loadA, cellsA, SV.cells, binA, binI, eqOut, isSl, isPt, natOf, callee, snap, SV.refsL, SV.refs, thaw, fzAll, loA, hiA, elemOf, partsA, buildA, putCells, ↓reduceIte, reduceCtorEq, okCell, Nat.reduceAdd, Nat.reduceEqDiff, Nat.reduceSub, Nat.reduceMul, Nat.reduceLeDiff, Nat.reduceLT, Nat.reduceBEq, PV.scal, PV.scalL, SV.scal, SV.scalL, Ob.scal, PV.isCell, pure', resO]
    refine hR _ _ _ (by intro h; cases h) ?_
    simp only [↓SP, SQ, Gam.add, stepM, callC, argC, lendO, nmBy, nmC, likeL, likeB, plainOb, offs, exL, X, F, trP, trO, stepD, stepW, newA, SV.tr, SV.trL, fz, allP, Ob.tr, loadA, cellsA, SV.cells, binA, binI, eqOut, isSl, isPt, natOf, callee, snap, SV.refsL, SV.refs, thaw, fzAll, loA, hiA, elemOf, partsA, buildA, putCells, ↓reduceIte, reduceCtorEq, okCell, Nat.reduceAdd, Nat.reduceEqDiff, Nat.reduceSub, Nat.reduceMul, Nat.reduceLeDiff, Nat.reduceLT, Nat.reduceBEq, PV.scal, PV.scalL, SV.scal, SV.scalL, Ob.scal, PV.isCell, pure', resO]
    subst he
    rw [hrun] at hr
    simp only [Option.some.injEq] at hr
    subst hr
    rcases hfin with ⟨a, he, rfl, rfl⟩ | ⟨a, ys, he, rfl, rfl⟩
    · simp only [Prod.mk.injEq] at he
      obtain ⟨rfl, rfl⟩ := he
      simp only [bxG, arG]
      refine finG_gen [] trivial (by simp [retA, rvA, mkE_cons, mk_nil, mkO_cons, mkO_nil, loadA, SV.tr, SV.trL, nmF, rn_nil, rn_cons1, rn_cons2, plainOb, SV.refsL, SV.refs, Ob.refs, X, F, List.range_succ, mkO, setO_mk]; rfl) ?_ ?_ ?_ ?_ ?_ ?_ <;> simp [goneAt, gone, Ob.tr, retA, rvA, mkE_cons, mk_nil, mkO_cons, mkO_nil, loadA, SV.tr, SV.trL, nmF, rn_nil, rn_cons1, rn_cons2, plainOb, SV.refsL, SV.refs, Ob.refs, X, F, List.range_succ, mkO, setO_mk]
    · simp only [Prod.mk.injEq] at he
      obtain ⟨rfl, rfl⟩ := he
      simp only [bxG, arG]
      refine finG_gen [40] trivial (by simp [retA, rvA, mkE_cons, mk_nil, mkO_cons, mkO_nil, loadA, SV.tr, SV.trL, nmF, rn_nil, rn_cons1, rn_cons2, plainOb, SV.refsL, SV.refs, Ob.refs, X, F, List.range_succ, mkO, setO_mk]; rfl) ?_ ?_ ?_ ?_ ?_ ?_ <;> simp [goneAt, gone, Ob.tr, retA, rvA, mkE_cons, mk_nil, mkO_cons, mkO_nil, loadA, SV.tr, SV.trL, nmF, rn_nil, rn_cons1, rn_cons2, plainOb, SV.refsL, SV.refs, Ob.refs, X, F, List.range_succ, mkO, setO_mk]
/-- The first list of answers, of the first k, behind which two numbers stand open. -/
def fhN (x : List Int) (m : Int) (l : List Int) : Nat → Option Nat
  | 0 => none
  | k + 1 => match fhN x m l k with
    | some v => some v
    | none => if 2 ≤ (leftN x m l k : Int) then some k else none
theorem runG_fh {Γ0 : Gam} {g : FuncId} (h : Γ0 g = c_fh1) (x : List Int) (m : Int) (l : List Int) : ∀ k, runG Γ0 g (fK x m l) k (.bool false) = some (.bool (fhN x m l k).isSome, (fhN x m l k).map fun v : Nat => bools (ansK l.length (v : Int)))
  | 0 => rfl
  | k + 1 => by
    simp only [runG, runG_fh h x m l k, h, fK, fhN]
    cases fhN x m l k with
    | some v => simp only [Option.isSome_some, Option.map_some, c_fh1, bools_len, if_true]
    | none =>
      by_cases h1 : 2 ≤ (leftN x m l k : Int)
      · simp only [Option.isSome_none, Option.map_none, c_fh1, h1, and_self, if_true, Option.isSome_some, Option.map_some]
      · simp only [Option.isSome_none, Option.map_none, c_fh1, h1, and_false, if_true, if_false, bools_len]
def fhR (x : List Int) (m : Int) (l : List Int) : Option Nat := if isL x m l = true then fhN x m l (2 ^ l.length) else none
def a_FirstHolding (f_areListed : FuncId) (f_fh1 : FuncId) (f_listsG : FuncId) : AFn := ⟨2, 
  .seq (.reg [⟨some 2, none, .w (.box 2 (.t 0))⟩,
    ⟨some 4, none, .d (.mv (.c (.nilsl)))⟩,
    ⟨some 5, none, .d (.mv (.c (.bool false)))⟩])
  (.seq (.seq (.reg [⟨some 8, none, .d (.load true 2 (.t 2))⟩,
    ⟨some 9, none, .d (.mv (.t 1))⟩,
    ⟨some 10, none, .d (.call (.f f_areListed) [(.t 8), (.t 9)])⟩,
    ⟨some 11, none, .d (.not (.t 10))⟩])
  (.cond (.t 11) (.seq (.reg [⟨some 4, none, .d (.mv (.c (.nilsl)))⟩,
     ⟨some 5, none, .d (.mv (.c (.bool false)))⟩])
   (.ret)) (.skip)))
  (.seq (.reg [⟨some 6, none, .w (.alloc [.nilsl])⟩,
    ⟨some 7, none, .w (.alloc [.bool false])⟩,
    ⟨none, none, .w (.store 1 (.t 6) (.c (.nilsl)))⟩,
    ⟨none, none, .w (.store 1 (.t 7) (.c (.bool false)))⟩])
  (.seq (.reg [⟨some 12, none, .d (.load true 2 (.t 2))⟩,
    ⟨some 13, none, .d (.mv (.t 1))⟩,
    ⟨some 14, none, .d (.mkfn f_fh1 [] [(.t 7), (.t 6)])⟩,
    ⟨some 15, none, .w (.callL (.f f_listsG) [(.t 12), (.t 13), (.t 14)] [7, 6] 101 false)⟩])
  (.seq (.dreg [] [([], ⟨some 16, none, .d (.load false 1 (.t 6))⟩),
    ([], ⟨some 17, none, .d (.load false 1 (.t 7))⟩),
    ([], ⟨some 4, none, .d (.mv (.t 16))⟩)] [⟨some 5, none, .d (.mv (.t 17))⟩])
  (.ret))))), [.tmp 4, .tmp 5]⟩
def n_FirstHolding : Nat → Option Ann := fun d => if d = 15 then some ⟨[7, 6], 101, false⟩ else none
abbrev k_FirstHolding : List Nat := [0, 1, 2, 4, 5, 6, 7, 11]
abbrev o_FirstHolding : List Nat := [2, 6, 7, 15]
def fhO (l : List Int) : Option Nat → SV × List Ob
  | some v => (.tp [.ar 2000000, .p (.bool true)], [.arr 1 (bools (ansK l.length v))])
  | none => (.tp [.p .nilsl, .p (.bool false)], [])
def c_FirstHolding : Con := pure' fun
  | [.p (.agg [.sl 1 xs, .int .i64 m]), .p (.sl 1 ls)] => if isI xs = true ∧ isI ls = true ∧ xs.length ≤ 1100000 ∧ ls.length ≤ 1100000 then some (fhO (ofI ls) (fhR (ofI xs) m (ofI ls))) else none
  | _ => none
theorem s_FirstHolding {P : Program} (hm : P.follows .mixedOrders = true) {Γ : Gam} (hΓ : GS P Γ) {n : FuncId} {f_areListed : FuncId} {f_fh1 : FuncId} {f_listsG : FuncId} (is : Is P n (a_FirstHolding f_areListed f_fh1 f_listsG)) (h_areListed : Γ f_areListed = c_areListed) {Γ0 : Gam} (h_listsG : Γ f_listsG = c_listsG Γ0) (h_fh1 : Γ0 f_fh1 = c_fh1) : Says P n c_FirstHolding := by
  refine Says.pure fun args r fs h => ?_
  split at h
  case h_2 => cases h
  rename_i xs m ls
  split at h
  case isFalse => cases h
  rename_i hc
  obtain ⟨hx, hl, hx0, hl0⟩ := hc
  obtain ⟨x, rfl⟩ := isI_out hx
  obtain ⟨l, rfl⟩ := isI_out hl
  simp only [ofI_ints, ints_len, Option.some.injEq] at h hx0 hl0
  cases hL : isL x m l with
  | false =>
    simp only [fhR, hL, Bool.false_eq_true, if_false, fhO, Prod.mk.injEq] at h
    obtain ⟨rfl, rfl⟩ := h
    refine is.go hm hΓ k_FirstHolding o_FirstHolding (by simp [a_FirstHolding]) ?_
    simp only [a_FirstHolding, h_areListed, c_areListed, hL, hx0, hl0, ints_len, ofI_ints, isI_ints, Bool.false_eq_true, List.zipIdx_cons, List.zipIdx_nil, ↓SP, SQ, Gam.add, stepM, callC, argC, lendO, nmBy, nmC, likeL, likeB, plainOb, offs, exL, X, F, trP, trO, stepD, stepW, newA, SV.tr, SV.trL, fz, allP, Ob.tr, loadA, cellsA, SV.cells, binA, binI, eqOut, isSl, isPt, natOf, callee, snap, SV.refsL, SV.refs, thaw, fzAll, loA, hiA, elemOf, partsA, buildA, putCells, ↓reduceIte, reduceCtorEq, okCell, Nat.reduceAdd, Nat.reduceEqDiff, Nat.reduceSub, Nat.reduceMul, Nat.reduceLeDiff, Nat.reduceLT, Nat.reduceBEq, PV.scal, PV.scalL, SV.scal, SV.scalL, Ob.scal, PV.isCell, pure', resO]
    refine finA_gen [] trivial (by simp [retA, rvA, mkE_cons, mk_nil, mkO_cons, mkO_nil, loadA, SV.tr, SV.trL, nmF, rn_nil, rn_cons1, rn_cons2, plainOb, SV.refsL, SV.refs, Ob.refs, X, F, List.range_succ, mkO, setO_mk]; rfl) ?_ ?_ ?_ ?_ ?_ ?_ ?_ <;> simp [retA, rvA, mkE_cons, mk_nil, mkO_cons, mkO_nil, loadA, SV.tr, SV.trL, nmF, rn_nil, rn_cons1, rn_cons2, plainOb, SV.refsL, SV.refs, Ob.refs, X, F, List.range_succ, mkO, setO_mk]
  | true =>
    obtain ⟨h1, h2, h3⟩ := isL_fit hL
    have hrun := runG_fh h_fh1 x m l (2 ^ l.length)
    simp only [fhR, hL, if_true] at h
    cases hf : fhN x m l (2 ^ l.length) with
    | none =>
      simp only [hf, fhO, Prod.mk.injEq] at h
      obtain ⟨rfl, rfl⟩ := h
      simp only [hf, Option.isSome_none, Option.map_none] at hrun
      refine is.go hm hΓ k_FirstHolding o_FirstHolding (by simp [a_FirstHolding]) ?_
      simp only [a_FirstHolding, h_areListed, c_areListed, hL, hx0, hl0, h1, h2, h3, ints_len, ofI_ints, isI_ints, h_listsG, c_listsG, hrun, callG, likeG, gone, goneN, goneAt, updG, nmG, killE_mk, killO_mk, killT, killL, List.zipIdx_cons, List.zipIdx_nil, ↓SP, SQ, Gam.add, stepM, callC, argC, lendO, nmBy, nmC, likeL, likeB, plainOb, offs, exL, X, F, trP, trO, stepD, stepW, newA, SV.tr, SV.trL, fz, allP, Ob.tr, loadA, cellsA, SV.cells, binA, binI, eqOut, isSl, isPt, natOf, callee, snap, SV.refsL, SV.refs, thaw, fzAll, loA, hiA, elemOf, partsA, buildA, putCells, ↓reduceIte, reduceCtorEq, okCell, Nat.reduceAdd, Nat.reduceEqDiff, Nat.reduceSub, Nat.reduceMul, Nat.reduceLeDiff, Nat.reduceLT, Nat.reduceBEq, PV.scal, PV.scalL, SV.scal, SV.scalL, Ob.scal, PV.isCell, pure', resO]
      refine finA_gen [] trivial (by simp [retA, rvA, mkE_cons, mk_nil, mkO_cons, mkO_nil, loadA, SV.tr, SV.trL, nmF, rn_nil, rn_cons1, rn_cons2, plainOb, SV.refsL, SV.refs, Ob.refs, X, F, List.range_succ, mkO, setO_mk]; rfl) ?_ ?_ ?_ ?_ ?_ ?_ ?_ <;> simp [retA, rvA, mkE_cons, mk_nil, mkO_cons, mkO_nil, loadA, SV.tr, SV.trL, nmF, rn_nil, rn_cons1, rn_cons2, plainOb, SV.refsL, SV.refs, Ob.refs, X, F, List.range_succ, mkO, setO_mk]
    | some v =>
      simp only [hf, fhO, Prod.mk.injEq] at h
      obtain ⟨rfl, rfl⟩ := h
      simp only [hf, Option.isSome_some, Option.map_some] at hrun
      refine is.go hm hΓ k_FirstHolding o_FirstHolding (by simp [a_FirstHolding]) ?_
      simp only [a_FirstHolding, h_areListed, c_areListed, hL, hx0, hl0, h1, h2, h3, ints_len, ofI_ints, isI_ints, h_listsG, c_listsG, hrun, callG, likeG, gone, goneN, goneAt, updG, nmG, killE_mk, killO_mk, killT, killL, List.zipIdx_cons, List.zipIdx_nil, ↓SP, SQ, Gam.add, stepM, callC, argC, lendO, nmBy, nmC, likeL, likeB, plainOb, offs, exL, X, F, trP, trO, stepD, stepW, newA, SV.tr, SV.trL, fz, allP, Ob.tr, loadA, cellsA, SV.cells, binA, binI, eqOut, isSl, isPt, natOf, callee, snap, SV.refsL, SV.refs, thaw, fzAll, loA, hiA, elemOf, partsA, buildA, putCells, ↓reduceIte, reduceCtorEq, okCell, Nat.reduceAdd, Nat.reduceEqDiff, Nat.reduceSub, Nat.reduceMul, Nat.reduceLeDiff, Nat.reduceLT, Nat.reduceBEq, PV.scal, PV.scalL, SV.scal, SV.scalL, Ob.scal, PV.isCell, pure', resO]
      refine finA_gen [15] trivial (by simp [retA, rvA, mkE_cons, mk_nil, mkO_cons, mkO_nil, loadA, SV.tr, SV.trL, nmF, rn_nil, rn_cons1, rn_cons2, plainOb, SV.refsL, SV.refs, Ob.refs, X, F, List.range_succ, mkO, setO_mk]; rfl) ?_ ?_ ?_ ?_ ?_ ?_ ?_ <;> simp [retA, rvA, mkE_cons, mk_nil, mkO_cons, mkO_nil, loadA, SV.tr, SV.trL, nmF, rn_nil, rn_cons1, rn_cons2, plainOb, SV.refsL, SV.refs, Ob.refs, X, F, List.range_succ, mkO, setO_mk]
def a_s_FirstHolding (f_l8Good : FuncId) (f_l8Left : FuncId) (f_l8Answers : FuncId) : AFn := ⟨2, 
  .seq (.reg [⟨some 2, none, .w (.box 2 (.t 0))⟩,
    ⟨some 4, none, .d (.mv (.c (.nilsl)))⟩,
    ⟨some 5, none, .d (.mv (.c (.bool false)))⟩])
  (.seq (.seq (.reg [⟨some 7, none, .d (.load true 2 (.t 2))⟩,
    ⟨some 8, none, .d (.mv (.t 1))⟩,
    ⟨some 9, none, .d (.call (.f f_l8Good) [(.t 7), (.t 8)])⟩,
    ⟨some 10, none, .d (.not (.t 9))⟩])
  (.cond (.t 10) (.seq (.reg [⟨some 11, none, .w (.bslice 1 [] [])⟩,
     ⟨some 4, none, .d (.mv (.t 11))⟩,
     ⟨some 5, none, .d (.mv (.c (.bool false)))⟩])
   (.ret)) (.skip)))
  (.seq (.seq (.reg [⟨some 6, none, .d (.mv (.c (.int .i64 0)))⟩])
  (.block 0 (.loop (.seq (.seq (.reg [⟨some 12, none, .d (.mv (.t 6))⟩,
      ⟨some 13, none, .d (.mv (.t 1))⟩,
      ⟨some 14, none, .d (.len (.t 13))⟩,
      ⟨some 15, none, .d (.bin .arith .shl (.c (.int .i64 1)) (.t 14))⟩,
      ⟨some 16, none, .d (.bin .arith .lss (.t 12) (.t 15))⟩])
    (.cond (.t 16) (.skip) (.exit 0)))
    (.seq (.block 1 (.seq (.reg [⟨some 19, none, .d (.load true 2 (.t 2))⟩,
       ⟨some 20, none, .d (.mv (.t 1))⟩,
       ⟨some 21, none, .d (.mv (.t 6))⟩,
       ⟨some 22, none, .d (.call (.f f_l8Left) [(.t 19), (.t 20), (.t 21)])⟩,
       ⟨some 23, none, .d (.bin .arith .geq (.t 22) (.c (.int .i64 2)))⟩])
     (.cond (.t 23) (.seq (.reg [⟨some 24, none, .d (.mv (.t 6))⟩,
        ⟨some 25, none, .d (.mv (.t 1))⟩,
        ⟨some 26, none, .d (.len (.t 25))⟩,
        ⟨some 27, none, .d (.call (.f f_l8Answers) [(.t 24), (.t 26)])⟩,
        ⟨some 4, none, .d (.mv (.t 27))⟩,
        ⟨some 5, none, .d (.mv (.c (.bool true)))⟩])
      (.ret)) (.skip))))
    (.reg [⟨some 17, none, .d (.mv (.t 6))⟩,
      ⟨some 18, none, .d (.bin .arith .add (.t 17) (.c (.int .i64 1)))⟩,
      ⟨some 6, none, .d (.mv (.t 18))⟩]))))))
  (.seq (.reg [⟨some 28, none, .w (.bslice 1 [] [])⟩,
    ⟨some 4, none, .d (.mv (.t 28))⟩,
    ⟨some 5, none, .d (.mv (.c (.bool false)))⟩])
  (.ret)))), [.tmp 4, .tmp 5]⟩
def n_s_FirstHolding : Nat → Option Ann := fun _ => none
abbrev k_s_FirstHolding : List Nat := [0, 1, 2, 4, 5, 6, 10, 16, 23]
abbrev o_s_FirstHolding : List Nat := [2, 11, 28]
def fhS (l : List Int) : Option Nat → SV × List Ob
  | some v => (.tp [.p (.sl 1 (bools (ansK l.length v))), .p (.bool true)], [])
  | none => (.tp [.ar 2000000, .p (.bool false)], [.arr 1 []])
def c_s_FirstHolding : Con := pure' fun
  | [.p (.agg [.sl 1 xs, .int .i64 m]), .p (.sl 1 ls)] => if isI xs = true ∧ isI ls = true ∧ xs.length ≤ 1100000 ∧ ls.length ≤ 1100000 then some (fhS (ofI ls) (fhR (ofI xs) m (ofI ls))) else none
  | _ => none
theorem s_s_FirstHolding {P : Program} (hm : P.follows .mixedOrders = true) {Γ : Gam} (hΓ : GS P Γ) {n : FuncId} {f_l8Good : FuncId} {f_l8Left : FuncId} {f_l8Answers : FuncId} (is : Is P n (a_s_FirstHolding f_l8Good f_l8Left f_l8Answers)) (h_l8Good : Γ f_l8Good = c_areListed) (h_l8Left : Γ f_l8Left = c_l8Left) (h_l8Answers : Γ f_l8Answers = c_l8Answers)  : Says P n c_s_FirstHolding := by
  refine Says.pure fun args r fs h => ?_
  split at h
  case h_2 => cases h
  rename_i xs m ls
  split at h
  case isFalse => cases h
  rename_i hc
  obtain ⟨hx, hl, hx0, hl0⟩ := hc
  obtain ⟨x, rfl⟩ := isI_out hx
  obtain ⟨l, rfl⟩ := isI_out hl
  simp only [ofI_ints, ints_len, Option.some.injEq] at h hx0 hl0
  cases hL : isL x m l with
  | false =>
    simp only [fhR, hL, Bool.false_eq_true, if_false, fhS, Prod.mk.injEq] at h
    obtain ⟨rfl, rfl⟩ := h
    refine is.go hm hΓ k_s_FirstHolding o_s_FirstHolding (by simp [a_s_FirstHolding]) ?_
    simp only [a_s_FirstHolding, h_l8Good, c_areListed, h_l8Left, c_l8Left, h_l8Answers, c_l8Answers, hL, hx0, hl0, ints_len, ofI_ints, isI_ints, Bool.false_eq_true, List.zipIdx_cons, List.zipIdx_nil, ↓SP, SQ, Gam.add, stepM, callC, argC, lendO, nmBy, nmC, likeL, likeB, plainOb, offs, exL, X, F, trP, trO, stepD, stepW, newA, SV.tr, SV.trL, fz, allP, Ob.tr, loadA, cellsA, SV.cells, binA, binI, eqOut, isSl, isPt, natOf, callee, snap, SV.refsL, SV.refs, thaw, fzAll, loA, hiA, elemOf, partsA, buildA, putCells, ↓reduceIte, reduceCtorEq, okCell, Nat.reduceAdd, Nat.reduceEqDiff, Nat.reduceSub, Nat.reduceMul, Nat.reduceLeDiff, Nat.reduceLT, Nat.reduceBEq, PV.scal, PV.scalL, SV.scal, SV.scalL, Ob.scal, PV.isCell, pure', resO]
    refine finA_gen [11] trivial (by simp [retA, rvA, mkE_cons, mk_nil, mkO_cons, mkO_nil, loadA, SV.tr, SV.trL, nmF, rn_nil, rn_cons1, rn_cons2, plainOb, SV.refsL, SV.refs, Ob.refs, X, F, List.range_succ, mkO, setO_mk]; rfl) ?_ ?_ ?_ ?_ ?_ ?_ ?_ <;> simp [retA, rvA, mkE_cons, mk_nil, mkO_cons, mkO_nil, loadA, SV.tr, SV.trL, nmF, rn_nil, rn_cons1, rn_cons2, plainOb, SV.refsL, SV.refs, Ob.refs, X, F, List.range_succ, mkO, setO_mk]
  | true =>
    obtain ⟨h1, h2, h3⟩ := isL_fit hL
    have hp8 := pow8 h1
    have hsh := shl8 h1
    have hn0 : ¬ (l.length : Int) < 0 := by omega
    have g20 : (l.length : Int) ≤ 20 := by omega
    simp only [fhR, hL, if_true] at h
    have hst : ∀ v, v < 2 ^ l.length → fhN x m l v = none → 2 ≤ (leftN x m l v : Int) → fhN x m l (2 ^ l.length) = some v := fun v hv h0 h1 => by
      have : ∀ j, fhN x m l (v + 1 + j) = some v := fun j => by
        induction j with
        | zero => simp only [Nat.add_zero, fhN, h0, h1, if_true]
        | succ j ih => rw [← Nat.add_assoc]; simp only [fhN, ih]
      have e : v + 1 + (2 ^ l.length - (v + 1)) = 2 ^ l.length := by omega
      rw [← e]; exact this _
    refine is.go hm hΓ k_s_FirstHolding o_s_FirstHolding (by simp [a_s_FirstHolding]) ?_
    simp only [a_s_FirstHolding, h_l8Good, c_areListed, h_l8Left, c_l8Left, h_l8Answers, c_l8Answers, hL, hx0, hl0, List.zipIdx_cons, List.zipIdx_nil, ↓SP, SQ, Gam.add, stepM, callC, argC, lendO, nmBy, nmC, likeL, likeB, plainOb, offs, exL, X, F, trP, trO, stepD, stepW, newA, SV.tr, SV.trL, fz, allP, Ob.tr, loadA, cellsA, SV.cells, binA, binI, eqOut, isSl, isPt, natOf, callee, snap, SV.refsL, SV.refs, thaw, fzAll, loA, hiA, elemOf, partsA, buildA, putCells, ↓reduceIte, reduceCtorEq, okCell, Nat.reduceAdd, Nat.reduceEqDiff, Nat.reduceSub, Nat.reduceMul, Nat.reduceLeDiff, Nat.reduceLT, Nat.reduceBEq, PV.scal, PV.scalL, SV.scal, SV.scalL, Ob.scal, PV.isCell, pure', resO]
    refine loop_at (fun s : Nat × SV × SV => mkEnv [(0, .p (.agg [.sl 1 (ints x), .int .i64 m])), (1, .p (.sl 1 (ints l))), (2, .bx 2 0), (4, .p .nilsl), (5, sb false), (6, si s.1), (10, sb false), (16, s.2.1), (23, s.2.2)]) (fun s => mkO [(2, some (.box [.p (.sl 1 (ints x)), si m])), (11, none), (28, none)]) (fun s => s.1 ≤ 2 ^ l.length ∧ fhN x m l s.1 = none) (fun s => 2 ^ l.length - s.1) (0, .junk, .junk) (by simp [fhN]) rfl rfl ?_
    rintro ⟨v, c1, c2⟩ ⟨hv, hN0⟩ R hR hN
    simp only at hv hN0
    by_cases hlt : v < 2 ^ l.length
    · have h1' : (v : Int) < ((2 ^ l.length : Nat) : Int) := Int.ofNat_lt.2 hlt
      have hw := wrap_one (i := v) (by omega)
      by_cases ha : 2 ≤ (leftN x m l v : Int)
      · have ha' : (leftN x m l v : Int) ≥ 2 := ha
        simp only [hst v hlt hN0 ha, fhS, Prod.mk.injEq] at h
        obtain ⟨rfl, rfl⟩ := h
        simp only [hsh, hn0, hx0, h1, h2, h3, h1', hw, ha, ha', g20, Int.natCast_nonneg, h_l8Left, c_l8Left, h_l8Answers, c_l8Answers, ↓SP, SQ, Gam.add, stepM, callC, argC, lendO, nmBy, nmC, likeL, likeB, plainOb, offs, exL, X, F, trP, trO, stepD, stepW, newA, SV.tr, SV.trL, fz, allP, Ob.tr, loadA, cellsA, SV.cells, binA, binI, eqOut, isSl, isPt, natOf, callee, snap, SV.refsL, SV.refs, thaw, fzAll, loA, hiA, elemOf, partsA, buildA, putCells, ↓reduceIte, reduceCtorEq, okCell, Nat.reduceAdd, Nat.reduceEqDiff, Nat.reduceSub, Nat.reduceMul, Nat.reduceLeDiff, Nat.reduceLT, Nat.reduceBEq, PV.scal, PV.scalL, SV.scal, SV.scalL, Ob.scal, PV.isCell, pure', resO]
        refine hR _ _ _ (by intro h; cases h) ?_
        simp only [↓SP, SQ, Gam.add, stepM, callC, argC, lendO, nmBy, nmC, likeL, likeB, plainOb, offs, exL, X, F, trP, trO, stepD, stepW, newA, SV.tr, SV.trL, fz, allP, Ob.tr, loadA, cellsA, SV.cells, binA, binI, eqOut, isSl, isPt, natOf, callee, snap, SV.refsL, SV.refs, thaw, fzAll, loA, hiA, elemOf, partsA, buildA, putCells, ↓reduceIte, reduceCtorEq, okCell, Nat.reduceAdd, Nat.reduceEqDiff, Nat.reduceSub, Nat.reduceMul, Nat.reduceLeDiff, Nat.reduceLT, Nat.reduceBEq, PV.scal, PV.scalL, SV.scal, SV.scalL, Ob.scal, PV.isCell, pure', resO]
        refine finA_gen [] trivial (by simp [retA, rvA, mkE_cons, mk_nil, mkO_cons, mkO_nil, loadA, SV.tr, SV.trL, nmF, rn_nil, rn_cons1, rn_cons2, plainOb, SV.refsL, SV.refs, Ob.refs, X, F, List.range_succ, mkO, setO_mk]; rfl) ?_ ?_ ?_ ?_ ?_ ?_ ?_ <;> simp [retA, rvA, mkE_cons, mk_nil, mkO_cons, mkO_nil, loadA, SV.tr, SV.trL, nmF, rn_nil, rn_cons1, rn_cons2, plainOb, SV.refsL, SV.refs, Ob.refs, X, F, List.range_succ, mkO, setO_mk]
      · have ha' : ¬ (leftN x m l v : Int) ≥ 2 := ha
        simp only [hsh, hn0, hx0, h1, h2, h3, h1', hw, ha, ha', h_l8Left, c_l8Left, ↓SP, SQ, Gam.add, stepM, callC, argC, lendO, nmBy, nmC, likeL, likeB, plainOb, offs, exL, X, F, trP, trO, stepD, stepW, newA, SV.tr, SV.trL, fz, allP, Ob.tr, loadA, cellsA, SV.cells, binA, binI, eqOut, isSl, isPt, natOf, callee, snap, SV.refsL, SV.refs, thaw, fzAll, loA, hiA, elemOf, partsA, buildA, putCells, ↓reduceIte, reduceCtorEq, okCell, Nat.reduceAdd, Nat.reduceEqDiff, Nat.reduceSub, Nat.reduceMul, Nat.reduceLeDiff, Nat.reduceLT, Nat.reduceBEq, PV.scal, PV.scalL, SV.scal, SV.scalL, Ob.scal, PV.isCell, pure', resO]
        exact hN (v + 1, _, _) _ _ ⟨by simp only; omega, by simp only [fhN, hN0, ha, if_false]⟩ (by simp only; omega) rfl rfl
    · have he : v = 2 ^ l.length := by omega
      have h1' : ¬ (v : Int) < ((2 ^ l.length : Nat) : Int) := by omega
      subst he
      simp only [hN0, fhS, Prod.mk.injEq] at h
      obtain ⟨rfl, rfl⟩ := h
      simp only [hsh, hn0, h1', ↓SP, SQ, Gam.add, stepM, callC, argC, lendO, nmBy, nmC, likeL, likeB, plainOb, offs, exL, X, F, trP, trO, stepD, stepW, newA, SV.tr, SV.trL, fz, allP, Ob.tr, loadA, cellsA, SV.cells, binA, binI, eqOut, isSl, isPt, natOf, callee, snap, SV.refsL, SV.refs, thaw, fzAll, loA, hiA, elemOf, partsA, buildA, putCells, ↓reduceIte, reduceCtorEq, okCell, Nat.reduceAdd, Nat.reduceEqDiff, Nat.reduceSub, Nat.reduceMul, Nat.reduceLeDiff, Nat.reduceLT, Nat.reduceBEq, PV.scal, PV.scalL, SV.scal, SV.scalL, Ob.scal, PV.isCell, pure', resO]
      refine hR _ _ _ (by intro h; cases h) ?_
      simp only [↓SP, SQ, Gam.add, stepM, callC, argC, lendO, nmBy, nmC, likeL, likeB, plainOb, offs, exL, X, F, trP, trO, stepD, stepW, newA, SV.tr, SV.trL, fz, allP, Ob.tr, loadA, cellsA, SV.cells, binA, binI, eqOut, isSl, isPt, natOf, callee, snap, SV.refsL, SV.refs, thaw, fzAll, loA, hiA, elemOf, partsA, buildA, putCells, ↓reduceIte, reduceCtorEq, okCell, Nat.reduceAdd, Nat.reduceEqDiff, Nat.reduceSub, Nat.reduceMul, Nat.reduceLeDiff, Nat.reduceLT, Nat.reduceBEq, PV.scal, PV.scalL, SV.scal, SV.scalL, Ob.scal, PV.isCell, pure', resO]
      refine finA_gen [28] trivial (by simp [retA, rvA, mkE_cons, mk_nil, mkO_cons, mkO_nil, loadA, SV.tr, SV.trL, nmF, rn_nil, rn_cons1, rn_cons2, plainOb, SV.refsL, SV.refs, Ob.refs, X, F, List.range_succ, mkO, setO_mk]; rfl) ?_ ?_ ?_ ?_ ?_ ?_ ?_ <;> simp [retA, rvA, mkE_cons, mk_nil, mkO_cons, mkO_nil, loadA, SV.tr, SV.trL, nmF, rn_nil, rn_cons1, rn_cons2, plainOb, SV.refsL, SV.refs, Ob.refs, X, F, List.range_succ, mkO, setO_mk]
def a_x_FirstHolding (f_szState : FuncId) (f_toState : FuncId) (f_toIntS : FuncId) (f_s_FirstHolding : FuncId) (f_FirstHolding : FuncId) (f_eqBoolS : FuncId) (f_eqState : FuncId) (f_eqIntS : FuncId) (f_markState : FuncId) (f_markIntS : FuncId) (f_markBoolS : FuncId) (f_heldBoolS : FuncId) : AFn := ⟨2, 
  .seq (.reg [⟨some 2, none, .w (.box 2 (.t 0))⟩,
    ⟨some 4, none, .d (.mv (.c (.bool false)))⟩])
  (.seq (.seq (.reg [⟨some 17, none, .d (.mv (.t 1))⟩,
    ⟨some 18, none, .d (.len (.t 17))⟩,
    ⟨some 19, none, .d (.bin .arith .gtr (.t 18) (.c (.int .i64 1048576)))⟩])
  (.cond (.t 19) (.seq (.reg [⟨some 4, none, .d (.mv (.c (.bool true)))⟩])
   (.ret)) (.skip)))
  (.seq (.reg [⟨some 5, none, .d (.mv (.c (.int .i64 1048576)))⟩])
  (.seq (.reg [⟨some 20, none, .d (.load true 2 (.t 2))⟩,
    ⟨some 21, none, .d (.mv (.t 5))⟩,
    ⟨some 22, none, .d (.call (.f f_szState) [(.t 20), (.t 21)])⟩,
    ⟨some 5, none, .d (.mv (.t 22))⟩])
  (.seq (.seq (.reg [⟨some 23, none, .d (.mv (.t 5))⟩,
    ⟨some 24, none, .d (.bin .arith .lss (.t 23) (.c (.int .i64 0)))⟩])
  (.cond (.t 24) (.seq (.reg [⟨some 4, none, .d (.mv (.c (.bool true)))⟩])
   (.ret)) (.skip)))
  (.seq (.reg [⟨some 26, none, .d (.load true 2 (.t 2))⟩,
    ⟨some 27, none, .d (.call (.f f_toState) [(.t 26)])⟩,
    ⟨some 28, none, .d (.mv (.t 1))⟩,
    ⟨some 29, none, .d (.call (.f f_toIntS) [(.t 28)])⟩,
    ⟨some 30, none, .d (.call (.f f_s_FirstHolding) [(.t 27), (.t 29)])⟩,
    ⟨some 25, none, .d (.mv (.t 30))⟩,
    ⟨some 31, none, .d (.extract (.t 25) 0)⟩,
    ⟨some 32, none, .d (.extract (.t 25) 1)⟩,
    ⟨some 6, none, .d (.mv (.t 31))⟩,
    ⟨some 7, none, .d (.mv (.t 32))⟩])
  (.seq (.reg [⟨some 33, none, .d (.load true 2 (.t 2))⟩,
    ⟨some 34, none, .w (.callL (.f f_toState) [(.t 33)] [] 1 false)⟩,
    ⟨some 8, none, .w (.alloc [.nilsl, .int .i64 0])⟩,
    ⟨none, none, .w (.store 2 (.t 8) (.t 34))⟩])
  (.seq (.reg [⟨some 35, none, .d (.mv (.t 1))⟩,
    ⟨some 36, none, .w (.callL (.f f_toIntS) [(.t 35)] [] 1 false)⟩,
    ⟨some 9, none, .d (.mv (.t 36))⟩])
  (.seq (.reg [⟨some 38, none, .d (.load true 2 (.t 8))⟩,
    ⟨some 39, none, .d (.mv (.t 9))⟩,
    ⟨some 40, none, .w (.callL (.f f_FirstHolding) [(.t 38), (.t 39)] [] 1 false)⟩,
    ⟨some 37, none, .d (.mv (.t 40))⟩,
    ⟨some 41, none, .d (.extract (.t 37) 0)⟩,
    ⟨some 42, none, .d (.extract (.t 37) 1)⟩,
    ⟨some 10, none, .d (.mv (.t 41))⟩,
    ⟨some 11, none, .d (.mv (.t 42))⟩])
  (.seq (.seq (.reg [⟨some 43, none, .d (.mv (.t 10))⟩,
    ⟨some 44, none, .d (.mv (.t 6))⟩,
    ⟨some 45, none, .d (.call (.f f_eqBoolS) [(.t 43), (.t 44)])⟩,
    ⟨some 46, none, .d (.not (.t 45))⟩,
    ⟨some 47, none, .d (.mv (.t 46))⟩,
    ⟨some 48, some (47, false), .d (.mv (.t 11))⟩,
    ⟨some 49, some (47, false), .d (.mv (.t 7))⟩,
    ⟨some 50, some (47, false), .d (.bin .bool .neq (.t 48) (.t 49))⟩,
    ⟨some 51, none, .d (.pick (.t 47) (.c (.bool true)) (.t 50))⟩])
  (.cond (.t 51) (.seq (.reg [⟨some 4, none, .d (.mv (.c (.bool false)))⟩])
   (.ret)) (.skip)))
  (.seq (.seq (.dreg [] [([], ⟨some 52, none, .d (.load true 2 (.t 8))⟩),
    ([], ⟨some 53, none, .d (.load true 2 (.t 2))⟩),
    ([], ⟨some 54, none, .d (.call (.f f_toState) [(.t 53)])⟩)] [⟨some 55, none, .d (.call (.f f_eqState) [(.t 52), (.t 54)])⟩,
    ⟨some 56, none, .d (.not (.t 55))⟩])
  (.cond (.t 56) (.seq (.reg [⟨some 4, none, .d (.mv (.c (.bool false)))⟩])
   (.ret)) (.skip)))
  (.seq (.seq (.reg [⟨some 57, none, .d (.mv (.t 9))⟩,
    ⟨some 58, none, .d (.mv (.t 1))⟩,
    ⟨some 59, none, .d (.call (.f f_toIntS) [(.t 58)])⟩,
    ⟨some 60, none, .d (.call (.f f_eqIntS) [(.t 57), (.t 59)])⟩,
    ⟨some 61, none, .d (.not (.t 60))⟩])
  (.cond (.t 61) (.seq (.reg [⟨some 4, none, .d (.mv (.c (.bool false)))⟩])
   (.ret)) (.skip)))
  (.seq (.reg [⟨some 12, none, .d (.mv (.c (.int .i64 1)))⟩])
  (.seq (.reg [⟨some 62, none, .d (.load true 2 (.t 8))⟩,
    ⟨some 63, none, .d (.mv (.t 12))⟩,
    ⟨some 64, none, .w (.callL (.f f_markState) [(.t 62), (.t 63)] [34] 0 false)⟩,
    ⟨some 12, none, .d (.mv (.t 64))⟩])
  (.seq (.reg [⟨some 65, none, .d (.mv (.t 9))⟩,
    ⟨some 66, none, .d (.mv (.t 12))⟩,
    ⟨some 67, none, .w (.callL (.f f_markIntS) [(.t 65), (.t 66)] [36] 0 false)⟩,
    ⟨some 12, none, .d (.mv (.t 67))⟩])
  (.seq (.seq (.reg [⟨some 68, none, .d (.mv (.t 12))⟩,
    ⟨some 69, none, .d (.bin .arith .lss (.t 68) (.c (.int .i64 0)))⟩,
    ⟨some 70, none, .d (.mv (.t 69))⟩,
    ⟨some 71, some (70, false), .d (.mv (.t 10))⟩,
    ⟨some 72, some (70, false), .d (.mv (.t 6))⟩,
    ⟨some 73, some (70, false), .d (.call (.f f_eqBoolS) [(.t 71), (.t 72)])⟩,
    ⟨some 74, some (70, false), .d (.not (.t 73))⟩,
    ⟨some 75, none, .d (.pick (.t 70) (.c (.bool true)) (.t 74))⟩,
    ⟨some 76, none, .d (.mv (.t 75))⟩,
    ⟨some 77, some (76, false), .d (.mv (.t 11))⟩,
    ⟨some 78, some (76, false), .d (.mv (.t 7))⟩,
    ⟨some 79, some (76, false), .d (.bin .bool .neq (.t 77) (.t 78))⟩,
    ⟨some 80, none, .d (.pick (.t 76) (.c (.bool true)) (.t 79))⟩])
  (.cond (.t 80) (.seq (.reg [⟨some 4, none, .d (.mv (.c (.bool false)))⟩])
   (.ret)) (.skip)))
  (.seq (.reg [⟨some 13, none, .d (.mv (.c (.int .i64 1)))⟩])
  (.seq (.reg [⟨some 81, none, .d (.mv (.t 10))⟩,
    ⟨some 82, none, .d (.mv (.t 13))⟩,
    ⟨some 83, none, .w (.callL (.f f_markBoolS) [(.t 81), (.t 82)] [40] 0 false)⟩,
    ⟨some 13, none, .d (.mv (.t 83))⟩])
  (.seq (.reg [⟨some 14, none, .d (.mv (.c (.int .i64 1)))⟩])
  (.seq (.reg [⟨some 84, none, .d (.mv (.t 10))⟩,
    ⟨some 85, none, .d (.mv (.t 14))⟩,
    ⟨some 86, none, .d (.call (.f f_heldBoolS) [(.t 84), (.t 85)])⟩,
    ⟨some 14, none, .d (.mv (.t 86))⟩])
  (.seq (.seq (.reg [⟨some 87, none, .d (.mv (.t 14))⟩,
    ⟨some 88, none, .d (.bin .arith .lss (.t 87) (.c (.int .i64 0)))⟩])
  (.cond (.t 88) (.seq (.reg [⟨some 4, none, .d (.mv (.c (.bool false)))⟩])
   (.ret)) (.skip)))
  (.seq (.seq (.reg [⟨some 89, none, .d (.mv (.t 14))⟩,
    ⟨some 90, none, .d (.mv (.t 13))⟩,
    ⟨some 91, none, .d (.bin .arith .neq (.t 89) (.t 90))⟩])
  (.cond (.t 91) (.seq (.reg [⟨some 4, none, .d (.mv (.c (.bool false)))⟩])
   (.ret)) (.skip)))
  (.seq (.reg [⟨some 93, none, .d (.load true 2 (.t 2))⟩,
    ⟨some 94, none, .d (.call (.f f_toState) [(.t 93)])⟩,
    ⟨some 95, none, .d (.mv (.t 1))⟩,
    ⟨some 96, none, .d (.call (.f f_toIntS) [(.t 95)])⟩,
    ⟨some 97, none, .d (.call (.f f_FirstHolding) [(.t 94), (.t 96)])⟩,
    ⟨some 92, none, .d (.mv (.t 97))⟩,
    ⟨some 98, none, .d (.extract (.t 92) 0)⟩,
    ⟨some 99, none, .d (.extract (.t 92) 1)⟩,
    ⟨some 15, none, .d (.mv (.t 98))⟩,
    ⟨some 16, none, .d (.mv (.t 99))⟩])
  (.seq (.seq (.reg [⟨some 100, none, .d (.mv (.t 15))⟩,
    ⟨some 101, none, .d (.mv (.t 6))⟩,
    ⟨some 102, none, .d (.call (.f f_eqBoolS) [(.t 100), (.t 101)])⟩,
    ⟨some 103, none, .d (.not (.t 102))⟩,
    ⟨some 104, none, .d (.mv (.t 103))⟩,
    ⟨some 105, some (104, false), .d (.mv (.t 16))⟩,
    ⟨some 106, some (104, false), .d (.mv (.t 7))⟩,
    ⟨some 107, some (104, false), .d (.bin .bool .neq (.t 105) (.t 106))⟩,
    ⟨some 108, none, .d (.pick (.t 104) (.c (.bool true)) (.t 107))⟩])
  (.cond (.t 108) (.seq (.reg [⟨some 4, none, .d (.mv (.c (.bool false)))⟩])
   (.ret)) (.skip)))
  (.seq (.reg [⟨some 14, none, .d (.mv (.c (.int .i64 1)))⟩])
  (.seq (.reg [⟨some 109, none, .d (.mv (.t 10))⟩,
    ⟨some 110, none, .d (.mv (.t 14))⟩,
    ⟨some 111, none, .d (.call (.f f_heldBoolS) [(.t 109), (.t 110)])⟩,
    ⟨some 14, none, .d (.mv (.t 111))⟩])
  (.seq (.seq (.reg [⟨some 112, none, .d (.mv (.t 14))⟩,
    ⟨some 113, none, .d (.bin .arith .lss (.t 112) (.c (.int .i64 0)))⟩])
  (.cond (.t 113) (.seq (.reg [⟨some 4, none, .d (.mv (.c (.bool false)))⟩])
   (.ret)) (.skip)))
  (.seq (.seq (.reg [⟨some 114, none, .d (.mv (.t 14))⟩,
    ⟨some 115, none, .d (.mv (.t 13))⟩,
    ⟨some 116, none, .d (.bin .arith .neq (.t 114) (.t 115))⟩])
  (.cond (.t 116) (.seq (.reg [⟨some 4, none, .d (.mv (.c (.bool false)))⟩])
   (.ret)) (.skip)))
  (.seq (.reg [⟨some 4, none, .d (.mv (.c (.bool true)))⟩])
  (.ret))))))))))))))))))))))))))))), [.tmp 4]⟩
def n_x_FirstHolding : Nat → Option Ann := fun d => if d = 34 then some ⟨[], 1, false⟩ else if d = 36 then some ⟨[], 1, false⟩ else if d = 40 then some ⟨[], 1, false⟩ else if d = 64 then some ⟨[34], 0, false⟩ else if d = 67 then some ⟨[36], 0, false⟩ else if d = 83 then some ⟨[40], 0, false⟩ else none
abbrev k_x_FirstHolding : List Nat := [0, 1, 2, 4, 5, 6, 7, 8, 9, 10, 11, 12, 13, 14, 15, 16, 19, 24, 51, 56, 61, 80, 88, 91, 108, 113, 116]
abbrev o_x_FirstHolding : List Nat := [2, 8, 34, 36, 40]
def c_x_FirstHolding : Con := pure' fun
  | [.p (.agg [v, .int .i64 m]), .p u] => match slI v, slI u with
    | some x, some l => if x.length ≤ 9223372036854775807 ∧ l.length ≤ 9223372036854775807 then some (.p (.bool true), []) else none
    | _, _ => none
  | _ => none
set_option maxRecDepth 100000 in
theorem s_x_FirstHolding {P : Program} (hm : P.follows .mixedOrders = true) {Γ : Gam} (hΓ : GS P Γ) {n : FuncId} {f_szState : FuncId} {f_toState : FuncId} {f_toIntS : FuncId} {f_s_FirstHolding : FuncId} {f_FirstHolding : FuncId} {f_eqBoolS : FuncId} {f_eqState : FuncId} {f_eqIntS : FuncId} {f_markState : FuncId} {f_markIntS : FuncId} {f_markBoolS : FuncId} {f_heldBoolS : FuncId} (is : Is P n (a_x_FirstHolding f_szState f_toState f_toIntS f_s_FirstHolding f_FirstHolding f_eqBoolS f_eqState f_eqIntS f_markState f_markIntS f_markBoolS f_heldBoolS)) (h_szState : Γ f_szState = c_szState) (h_toState : Γ f_toState = c_toState) (h_toIntS : Γ f_toIntS = c_toIntS) (h_s_FirstHolding : Γ f_s_FirstHolding = c_s_FirstHolding) (h_FirstHolding : Γ f_FirstHolding = c_FirstHolding) (h_eqBoolS : Γ f_eqBoolS = c_eqBoolS) (h_eqState : Γ f_eqState = c_eqState) (h_eqIntS : Γ f_eqIntS = c_eqIntS) (h_markState : Γ f_markState = c_markState) (h_markIntS : Γ f_markIntS = c_markIntS) (h_markBoolS : Γ f_markBoolS = c_markBoolS) (h_heldBoolS : Γ f_heldBoolS = c_heldBoolS)  : Says P n c_x_FirstHolding := by
  refine Says.pure fun args r fs h => ?_
  split at h
  case h_2 => cases h
  rename_i v m u
  split at h
  case h_2 => cases h
  rename_i x l hx hu
  split at h
  case isFalse => cases h
  rename_i hc
  simp only [Option.some.injEq, Prod.mk.injEq] at h
  obtain ⟨rfl, rfl⟩ := h
  have hlp := slI_lenP hx
  have hlu := slI_len hu
  by_cases hku : (l.length : Int) > 1048576
  · refine is.go hm hΓ k_x_FirstHolding o_x_FirstHolding (by simp [a_x_FirstHolding]) ?_
    simp only [a_x_FirstHolding, h_szState, c_szState, h_toState, c_toState, h_toIntS, c_toIntS, h_s_FirstHolding, c_s_FirstHolding, h_FirstHolding, c_FirstHolding, h_eqBoolS, c_eqBoolS, h_eqState, c_eqState, h_eqIntS, c_eqIntS, h_markState, c_markState, h_markIntS, c_markIntS, h_markBoolS, c_markBoolS, h_heldBoolS, c_heldBoolS, hlp, hlu, hc, hku, Int.reduceLE, Int.reduceNeg, Int.reduceLT, List.zipIdx_cons, List.zipIdx_nil, ↓SP, SQ, Gam.add, stepM, callC, argC, lendO, nmBy, nmC, likeL, likeB, plainOb, offs, exL, X, F, trP, trO, stepD, stepW, newA, SV.tr, SV.trL, fz, allP, Ob.tr, loadA, cellsA, SV.cells, binA, binI, eqOut, isSl, isPt, natOf, callee, snap, SV.refsL, SV.refs, thaw, fzAll, loA, hiA, elemOf, partsA, buildA, putCells, ↓reduceIte, reduceCtorEq, okCell, Nat.reduceAdd, Nat.reduceEqDiff, Nat.reduceSub, Nat.reduceMul, Nat.reduceLeDiff, Nat.reduceLT, Nat.reduceBEq, PV.scal, PV.scalL, SV.scal, SV.scalL, Ob.scal, PV.isCell, pure', resO]
    exact finA_val (by simp [retA, rvA, mkE_cons, mk_nil, mkO_cons, mkO_nil, loadA, SV.tr, SV.trL, nmF, rn_nil, rn_cons1, rn_cons2, plainOb, SV.refsL, SV.refs, Ob.refs, X, F, List.range_succ, mkO, setO_mk]) (by simp [SV.tr, SV.trL])
  · by_cases hk : (1048576 : Int) - (x.length : Int) < 0
    · refine is.go hm hΓ k_x_FirstHolding o_x_FirstHolding (by simp [a_x_FirstHolding]) ?_
      simp only [a_x_FirstHolding, h_szState, c_szState, h_toState, c_toState, h_toIntS, c_toIntS, h_s_FirstHolding, c_s_FirstHolding, h_FirstHolding, c_FirstHolding, h_eqBoolS, c_eqBoolS, h_eqState, c_eqState, h_eqIntS, c_eqIntS, h_markState, c_markState, h_markIntS, c_markIntS, h_markBoolS, c_markBoolS, h_heldBoolS, c_heldBoolS, hlp, hlu, hc, hk, hku, Int.reduceLE, Int.reduceNeg, Int.reduceLT, List.zipIdx_cons, List.zipIdx_nil, ↓SP, SQ, Gam.add, stepM, callC, argC, lendO, nmBy, nmC, likeL, likeB, plainOb, offs, exL, X, F, trP, trO, stepD, stepW, newA, SV.tr, SV.trL, fz, allP, Ob.tr, loadA, cellsA, SV.cells, binA, binI, eqOut, isSl, isPt, natOf, callee, snap, SV.refsL, SV.refs, thaw, fzAll, loA, hiA, elemOf, partsA, buildA, putCells, ↓reduceIte, reduceCtorEq, okCell, Nat.reduceAdd, Nat.reduceEqDiff, Nat.reduceSub, Nat.reduceMul, Nat.reduceLeDiff, Nat.reduceLT, Nat.reduceBEq, PV.scal, PV.scalL, SV.scal, SV.scalL, Ob.scal, PV.isCell, pure', resO]
      exact finA_val (by simp [retA, rvA, mkE_cons, mk_nil, mkO_cons, mkO_nil, loadA, SV.tr, SV.trL, nmF, rn_nil, rn_cons1, rn_cons2, plainOb, SV.refsL, SV.refs, Ob.refs, X, F, List.range_succ, mkO, setO_mk]) (by simp [SV.tr, SV.trL])
    · have hlen : x.length ≤ 1048576 := by omega
      have hlen2 : x.length ≤ 1100000 := by omega
      have hlen3 : l.length ≤ 1048576 := by omega
      have hlen4 : l.length ≤ 1100000 := by omega
      have hml := marks_len 1 x.length
      have hml2 := marks_len (1 + x.length) l.length
      have q0 : (0 : Int) ≤ 1 + x.length := by omega
      have q1 : (1 : Int) + x.length ≤ 10000000 := by omega
      have q2 : ¬ (1 : Int) + x.length + l.length < 0 := by omega
      have hnb : heldB [] 1 := fun j hj => by simp at hj
      cases hf : fhR x m l with
      | some w =>
        have al := ansK_len l.length (w : Int)
        have hmb := marksB_len 1 l.length
        have hhb := heldB_marks 1 l.length
        have q3 : ¬ (1 : Int) + l.length < 0 := by omega
        refine is.go hm hΓ k_x_FirstHolding o_x_FirstHolding (by simp [a_x_FirstHolding]) ?_
        simp only [a_x_FirstHolding, h_szState, c_szState, h_toState, c_toState, h_toIntS, c_toIntS, h_s_FirstHolding, c_s_FirstHolding, h_FirstHolding, c_FirstHolding, h_eqBoolS, c_eqBoolS, h_eqState, c_eqState, h_eqIntS, c_eqIntS, h_markState, c_markState, h_markIntS, c_markIntS, h_markBoolS, c_markBoolS, h_heldBoolS, c_heldBoolS, hx, hu, hlp, hlu, hc, hk, hku, hlen, hlen2, hlen3, hlen4, hf, fhO, fhS, hml, hml2, q0, q1, q2, q3, al, hmb, hhb, bools_len, slI_sl, slB_sl, beq_self_eq_true, Bool.not_true, Int.reduceLE, Int.reduceNeg, Int.reduceLT, bne_self_eq_false, List.zipIdx_cons, List.zipIdx_nil, ↓SP, SQ, Gam.add, stepM, callC, argC, lendO, nmBy, nmC, likeL, likeB, plainOb, offs, exL, X, F, trP, trO, stepD, stepW, newA, SV.tr, SV.trL, fz, allP, Ob.tr, loadA, cellsA, SV.cells, binA, binI, eqOut, isSl, isPt, natOf, callee, snap, SV.refsL, SV.refs, thaw, fzAll, loA, hiA, elemOf, partsA, buildA, putCells, ↓reduceIte, reduceCtorEq, okCell, Nat.reduceAdd, Nat.reduceEqDiff, Nat.reduceSub, Nat.reduceMul, Nat.reduceLeDiff, Nat.reduceLT, Nat.reduceBEq, PV.scal, PV.scalL, SV.scal, SV.scalL, Ob.scal, PV.isCell, pure', resO]
        exact finA_val (by simp [retA, rvA, mkE_cons, mk_nil, mkO_cons, mkO_nil, loadA, SV.tr, SV.trL, nmF, rn_nil, rn_cons1, rn_cons2, plainOb, SV.refsL, SV.refs, Ob.refs, X, F, List.range_succ, mkO, setO_mk]) (by simp [SV.tr, SV.trL])
      | none =>
        have hb0 : slB (.sl 1 []) = some [] := rfl
        refine is.go hm hΓ k_x_FirstHolding o_x_FirstHolding (by simp [a_x_FirstHolding]) ?_
        simp only [a_x_FirstHolding, h_szState, c_szState, h_toState, c_toState, h_toIntS, c_toIntS, h_s_FirstHolding, c_s_FirstHolding, h_FirstHolding, c_FirstHolding, h_eqBoolS, c_eqBoolS, h_eqState, c_eqState, h_eqIntS, c_eqIntS, h_markState, c_markState, h_markIntS, c_markIntS, h_markBoolS, c_markBoolS, h_heldBoolS, c_heldBoolS, hx, hu, hlp, hlu, hc, hk, hku, hlen, hlen2, hlen3, hlen4, hf, fhO, fhS, hml, hml2, q0, q1, q2, hnb, hb0, bools_len, slI_sl, slB_sl, slB_nil, Bool.false_eq_true, beq_self_eq_true, Bool.not_true, Int.reduceLE, Int.reduceNeg, Int.reduceLT, bne_self_eq_false, List.zipIdx_cons, List.zipIdx_nil, ↓SP, SQ, Gam.add, stepM, callC, argC, lendO, nmBy, nmC, likeL, likeB, plainOb, offs, exL, X, F, trP, trO, stepD, stepW, newA, SV.tr, SV.trL, fz, allP, Ob.tr, loadA, cellsA, SV.cells, binA, binI, eqOut, isSl, isPt, natOf, callee, snap, SV.refsL, SV.refs, thaw, fzAll, loA, hiA, elemOf, partsA, buildA, putCells, ↓reduceIte, reduceCtorEq, okCell, Nat.reduceAdd, Nat.reduceEqDiff, Nat.reduceSub, Nat.reduceMul, Nat.reduceLeDiff, Nat.reduceLT, Nat.reduceBEq, PV.scal, PV.scalL, SV.scal, SV.scalL, Ob.scal, PV.isCell, pure', resO]
        exact finA_val (by simp [retA, rvA, mkE_cons, mk_nil, mkO_cons, mkO_nil, loadA, SV.tr, SV.trL, nmF, rn_nil, rn_cons1, rn_cons2, plainOb, SV.refsL, SV.refs, Ob.refs, X, F, List.range_succ, mkO, setO_mk]) (by simp [SV.tr, SV.trL])
end Go.Proofs.Ytnonkjcklgihhaa.Pam
